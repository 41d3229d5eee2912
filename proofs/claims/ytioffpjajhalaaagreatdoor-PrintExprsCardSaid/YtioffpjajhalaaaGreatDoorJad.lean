/- reader.next, walked. Condition: the reader's block is known whole, the source does not lie in it, and a byte is left. -/
import Derived.Test.YtioffpjajhalaaaGreatDoorJaa
import Derived.Test.YtioffpjajhalaaaGreatDoorJac
import Derived.StillTailTactics
import Derived.Deep.Cut
import Derived.IntWalk
set_option linter.unusedVariables false
set_option linter.unusedSimpArgs false
set_option maxRecDepth 100000
set_option maxHeartbeats 16000000
namespace Go.Proofs.YtioffpjajhalaaaGreatDoor
open Go Go.RowKit
theorem zAG {P:Program}{ops:Array Oper}{rest:List Oper}{o:Oper}{a:Act}{w:World}{Q:Exit→Act→World→Prop}(hgd:o.guard=none)(ty:TypeId)(x y:Operand)(ho:o.op=.store ty x y)
  (g i:Nat) (hx:a.eval x=.pointer (some ⟨g,i,none⟩)) (v:Value) (hy:a.eval y=v) (t:TypeId) (cs:Array Value) (hg:Blk w g t cs) (hi:i<cs.size) (h1:v.oneCell'=true) (hv:v.cells=#[v]) (hsz:∀w,(Go.sizeOf ty).run P w=.ok 1 w)
  (h:∀w',Touch g w w'→Blk w' g t (cs.setIfInBounds i v)→wpList P ops Q rest (a.put o.dst undef) w'):wpList P ops Q (o::rest) a w:=by
 have hc:w.cell? ⟨g,i,none⟩=some cs[i]:=by rw[hg.cell]; simp[hi]
 have hf:=hg.frozen i
 have AA:(storeVar ty ⟨g,i,none⟩ v).run P w=.ok () (w.setCell ⟨g,i,none⟩ v):=by
  simp[storeVar,hv,hsz,storeCells,Addr.add,Result.andThen];rw[run_store P w _ _ _ h1];simp[hc,hf]
 refine wpList_plain hgd fun K hK=>?_;unfold Oper.wp execOp;simp only[ho,hx,hy,Instr.storeAt,Instr.sureAddr,Sem.run_bind,Sem.run_pure,AA,Result.andThen_ok];refine hK _ _ (h (w.setCell ⟨g,i,none⟩ v) ⟨rfl,rfl,rfl,by simp[World.setCell],fun k hk=>zQ _ _ _ _ hk⟩ (hg.put i v))
theorem Blk.newAt {w:World}{o:Obj}{t:TypeId}{cs:Array Value}{g:Nat}(hg:(w.alloc o).heap.size=g):Blk ((w.alloc o).alloc (.cells cs t)) g t cs:=by subst hg; exact Blk.new _ _ _
def zD1 (kd at_ en:Nat)(x:Bs)(n:Int):Value:=.agg #[.int .u8 (kd:Int),.int .i64 (at_:Int),.int .i64 (en:Int),.string (yX x),.int .i64 n]
theorem zRt:zAq ⟨#[97,98,99,100,101,102,103,104,105,106,107,108,109,110,111,112,113,114,115,116,117,118,119,120,121,122,48,49,50,51,52,53,54,55,56,57,95]⟩ JA:=by unfold zAq; decide +kernel
theorem zOf:zAq ⟨#[48,49,50,51,52,53,54,55,56,57]⟩ jA:=zFm
theorem Mod.YD {g b:Nat}{w w' w'':World}(h:Mod g w w')(t:Touch b w' w'')(hb:w.heap.size≤b):Mod g w w'':=
 ⟨t.os.trans h.os,t.tape.trans h.tape,t.output.trans h.output,by rw[t.size]; exact h.size,fun k hk hg=>(t.other k (by omega)).trans (h.other k hk hg)⟩
theorem Rd.YD {w w':World}{g b:Nat}{A:Option Addr}{l:Bs}{c k:Nat}(h:Rd w g A l c k)(t:Touch b w w')(hb:b≠g)(ha:∀b' off,A=some ⟨b',off,none⟩→b'≠b):Rd w' g A l c k:=
 ⟨t.blk h.blk (Ne.symm hb),t.cells h.src ha,h.far,h.le,h.cap,h.zJZ,h.big⟩
theorem Rd.ext {w w':World}{g:Nat}{A:Option Addr}{l:Bs}{c k:Nat}(h:Rd w g A l c k)(t:Ext w w'):Rd w' g A l c k:=
 ⟨h.blk.ext t,h.src.ext t,h.far,h.le,h.cap,h.zJZ,h.big⟩
theorem Rd.XZ {w:World}{g b:Nat}{A:Option Addr}{l:Bs}{c k:Nat}(h:Rd w g A l c k)(hb:b≠g)(ha:∀b' off,A=some ⟨b',off,none⟩→b'≠b)(i:Nat)(v:Value):Rd (w.setCell ⟨b,i,none⟩ v) g A l c k:=
 h.YD ⟨rfl,rfl,rfl,by simp[World.setCell],fun k hk=>zQ _ _ _ _ hk⟩ hb ha
theorem zP5 (g:Nat)(A:Option Addr)(l:Bs)(c k:Nat)(s:ByteArray)(p:UInt8→Bool)(hs:zAq s p)(w:World)(hr:Rd w g A l c k)(u:Bs)(hu:Hid ((l.drop k).takeWhile p=u))(en:Nat)(hen:Hid (k+u.length=en)) :
  Calls Tryz.prog 67 #[.pointer (some ⟨g,0,none⟩),.string s] w fun e w'=>e=.returned (.string (yX u))∧Mod g w w'∧Rd w' g A l c en:=by
 have h:=zEU g A l c k s p hs w hr;rw[hu.out,hen.out] at h;exact h
theorem XH {b off g:Nat}(h:b≠g):∀b' AA,(some (⟨b,off,none⟩:Addr))=some ⟨b',AA,none⟩→b'≠g:=by
 intro b' AA e;injection e with e;injection e with e1;subst e1;exact h
theorem zIL {kd k en en':Nat}{x x':Bs}{n er:Int}(h1:en=en')(h2:x=x'):Ending.returned (.tuple #[zD1 kd k en x n,.int .i64 er])=.returned (.tuple #[zD1 kd k en' x' n,.int .i64 er]):=by rw[h1,h2]
theorem zVY {x:UInt8}(h:JD x=1):jJ x=true:=by
 unfold JD at h; split at h
 ·assumption
 ·split at h
  ·omega
  ·split at h <;> omega
theorem zVN {x:UInt8}(h:JD x=2):jJ x=false∧jA x=true:=by
 unfold JD at h; split at h
 ·omega
 ·rename_i h1
  split at h
  ·rename_i h2; exact⟨by simpa using h1,h2⟩
  ·split at h <;> omega
theorem zWn {x:UInt8}(h:JD x=3):jJ x=false∧jA x=false∧zHj x=true:=by
 unfold JD at h; split at h
 ·omega
 ·rename_i h1
  split at h
  ·omega
  ·rename_i h2
   split at h
   ·rename_i h3; exact⟨by simpa using h1,by simpa using h2,h3⟩
   ·omega
theorem zWo {x:UInt8}(h:JD x=0):jJ x=false∧jA x=false∧zHj x=false:=by
 unfold JD at h; split at h
 ·omega
 ·rename_i h1
  split at h
  ·omega
  ·rename_i h2
   split at h
   ·omega
   ·rename_i h3; exact⟨by simpa using h1,by simpa using h2,by simpa using h3⟩
theorem zWl {x:UInt8}{r:Bs}(hb:YF x=false)(hh:(x==35)=false)(hk:JD x=1):XM x r=.tok 1 ((x::r).takeWhile JA).length 0:=by
 have h:=zVY hk
 have hw:JA x=true:=by unfold JA; rw[h]; rfl
 unfold XM;rw[hb,hh,h,List.takeWhile_cons,hw];simp[Nat.add_comm]
theorem zSA {x:UInt8}{r:Bs}(hb:YF x=false)(hh:(x==35)=false)(hk:JD x=2):XM x r=match zAU 0 ((x::r).takeWhile jA) with | none=>.bad 31 | some n=>.tok 2 ((x::r).takeWhile jA).length n:=by
 obtain⟨h1,h2⟩:=zVN hk;unfold XM zKD;rw[hb,hh,h1,h2,List.takeWhile_cons,h2];simp only[Bool.false_eq_true,if_false,if_true,zJ];rw[Nat.add_comm]
 cases zAU 0 (x::r.takeWhile jA) <;> rfl
theorem zSz {x:UInt8}{r:Bs}(hb:YF x=false)(hh:(x==35)=false)(hk:JD x=3):XM x r=if x==61&&r.head?==some 61 then .tok 3 2 0 else .tok 3 1 0:=by
 obtain⟨h1,h2,h3⟩:=zWn hk;unfold XM;rw[hb,hh,h1,h2,h3]
 simp
theorem zWb {x:UInt8}{r:Bs}(hb:YF x=false)(hh:(x==35)=false)(hk:JD x=0):XM x r=.bad 30:=by
 obtain⟨h1,h2,h3⟩:=zWo hk
 have AA:(x==61)=false:=by
  rw[yF];intro e;subst e
  revert h3
  decide
 unfold XM;rw[hb,hh,h1,h2,h3,AA]
 rfl
def zCf (N:Nat)(Fs:List (Value→World→Prop))(w w':World):Prop:=Below N w w'∧N≤w.heap.size∧∀F ∈ Fs,∀v,F v w→F v w'
theorem zCf.trans {N:Nat}{Fs:List (Value→World→Prop)}(a b c:World)(h:zCf N Fs a b)(k:zCf N Fs b c):zCf N Fs a c:=⟨h.1.trans k.1,h.2.1,fun F hF v hv=>k.2.2 F hF v (h.2.2 F hF v hv)⟩
theorem zCf.ext {N:Nat}{Fs:List (Value→World→Prop)}{w w':World}(hE:∀F ∈ Fs,∀v w w',F v w→Ext w w'→F v w')(hN:N≤w.heap.size)(h:Ext w w'):zCf N Fs w w':=⟨Below.mono h hN,hN,fun F hF v hv=>hE F hF v _ _ hv h⟩
theorem zLJ {P:Program}{id:Nat}{Q':Exit→Act→World→Prop}{a:Act}{w:World}{l:List Oper}{ks:List Take}(N:Nat)(Fs:List (Value→World→Prop))(m:Nat)(hm:P.follows .mixedOrders=true)(hB:zAm l.toArray m=true)(hT:zDY l.toArray m=true)
  (hE:∀F ∈ Fs,∀v w w',F v w→Ext w w'→F v w') (hN:N≤w.heap.size)
  (h:YT P l.toArray (zCf N Fs) w (fun a' w'=>wpList P l.toArray Q' (l.drop m) a' w') (l.take m) ks a []):(Code.region id l.toArray true).wp P Q' a w:=
 zAB (R:=zCf N Fs) m ks hm hB hT (fun _ _ _=>zCf.trans _ _ _) (zCf.ext hE hN (Below.drew (Below.refl _ _))) h
theorem XV {N:Nat}{Fs:List (Value→World→Prop)}{w0 w:World}(h:zCf N Fs w0 w):zCf N Fs w w:=⟨Below.refl _ _,Nat.le_trans h.2.1 h.1.size,fun F hF v hv=>hv⟩
theorem zGL {N:Nat}{Fs:List (Value→World→Prop)}{w0 w:World}(h:zCf N Fs w0 w):N≤w.heap.size:=Nat.le_trans h.2.1 h.1.size
def zBb (N:Nat)(v:Value)(w:World):Prop:=∃(g:Nat) (fr:Nat × Nat),v=.slice (some ⟨g,0,none⟩) 2 2∧N≤g∧w.heap[g]?=some (.cells #[.int .u8 61,.int .u8 61] 5 fr)
theorem zBb.ext (N:Nat):∀F ∈ [zBb N],∀v w w',F v w→Ext w w'→F v w':=by
 intro F hF v w w' h hx;rw[yK] at hF;subst hF;obtain⟨g,fr,h1,h2,h3⟩:=h;exact⟨g,fr,h1,h2,(hx.block g (Array.getElem?_eq_some_iff.1 h3).1).trans h3⟩
theorem zBb.mono {N:Nat}(v:Value)(w w':World)(h:zBb N v w)(hx:zCf N [zBb N] w w'):zBb N v w':=hx.2.2 _ (List.mem_singleton.2 rfl) v h
theorem zEp (w:World)(g i k:Nat)(h:k≠g):(w.freeze ⟨g,i,none⟩ 1).heap[k]?=w.heap[k]?:=by
 simp only[World.freeze];rw[if_neg (by omega)];simp only[Array.getElem?_modify];rw[if_neg (by omega)]
theorem zA3 (w:World)(g i:Nat){cs:Array Value}{t:TypeId}{fr:Nat × Nat}(h:w.heap[g]?=some (.cells cs t fr)):∃fr',(w.freeze ⟨g,i,none⟩ 1).heap[g]?=some (.cells cs t fr'):=by
 simp only[World.freeze];rw[if_neg (by omega)];simp only[Array.getElem?_modify];simp[h]
theorem zLQ {N g:Nat}{w:World}(hN:N≤w.heap.size)(hg:N≤g)(i:Nat):zCf N [zBb N] w (w.freeze ⟨g,i,none⟩ 1):=by
 refine⟨⟨rfl,rfl,rfl,by simp[World.freeze],fun k hk=>zEp w g i k (by omega)⟩,hN,fun F hF v h=>?_⟩;rw[yK] at hF;subst hF;obtain⟨g',fr,h1,h2,h3⟩:=h
 by_cases AA:g'=g
 ·subst AA;obtain⟨AB,h4⟩:=zA3 w g' i h3;exact⟨g',AB,h1,h2,h4⟩
 ·exact⟨g',fr,h1,h2,(zEp w g i g' AA).trans h3⟩
theorem zDo {P:Program}(w:World)(t e:TypeId)(ht:P.underlying t=some (.slice e))(he:P.underlying e=some (.int .u8))(g n c:Nat){cs:Array Value}{fr:Nat × Nat}{e':TypeId}(h:w.heap[g]?=some (.cells cs e' fr)) :
  (convert t t (.slice (some ⟨g,0,none⟩) n c)).run P w=.ok (.slice (some ⟨g,0,none⟩) n c) (w.freeze ⟨g,cs.size,none⟩ 1):=by
 have AA:w.shape? g=some (e',cs.size):=by unfold World.shape?; rw[h]
 simp[convert,run_underlying ht,run_underlying he,markStringish,AA,Result.andThen]
theorem zS8 {w:World}{g:Nat}{fr:Nat × Nat}(h:w.heap[g]?=some (.cells #[.int .u8 61,.int .u8 61] 5 fr)):Cells w (some ⟨g,0,none⟩) (xO [61,61]):=
 .inr ⟨g,0,rfl,(Array.getElem?_eq_some_iff.1 h).1,fun k hk=>by rw[Nat.zero_add,cell_of_row w g k _ _ fr h]; simp[xO]⟩
theorem zC7:yX []=⟨#[]⟩:=rfl
theorem zIT {b off c k:Nat}(h:k<c):zGQ (some ⟨b,off,none⟩) c k=some ⟨b,off+k,none⟩:=by
 unfold zGQ;rw[if_neg (by omega)];simp only[Option.map_some,Addr.add]
 split
 ·rename_i h0; subst h0; rfl
 ·rfl
theorem zMJ (A B:Option Addr)(a b:Bs)(n m c d:Nat)(w:World)(hn:n=a.length)(hm:m=b.length)(hc:n≤c)(hA:Cells w A (xO a))(hB:Cells w B (xO b))(t:Bool)(ht:Hid ((decide (b.length≤a.length)&&(a.take b.length==b))=t)) :
  Calls Tryz.prog 72 #[.slice A n c,.slice B m d] w fun e w'=>e=.returned (.bool t)∧w'=w:=by
 have h:=zKc A B a b n m c d w hn hm hc hA hB;rw[ht.out] at h;exact h
def zEg (g:Nat)(A:Option Addr)(l:Bs)(c k:Nat)(w:World)(e:Ending)(w':World):Prop:=
 Mod g w w'∧((∃kd j n,step (l.drop k)=.tok kd j n∧e=.returned (.tuple #[zD1 kd k (k+j) ((l.drop k).take j) n,.int .i64 0])∧Rd w' g A l c (k+j)) ∨
    (∃er kd en x n,step (l.drop k)=.bad er∧er≠0∧e=.returned (.tuple #[zD1 kd k en x n,.int .i64 er])))
theorem zNL (g:Nat)(A:Option Addr)(l:Bs)(c k:Nat)(w:World)(hr:Rd w g A l c k)(hlt:k<l.length)(hb:YF l[k]=false)(hh:(l[k]==35)=false)(hkd:JD l[k]=1) :
  Calls Tryz.prog 32 #[.pointer (some ⟨g,0,none⟩)] w (zEg g A l c k w):=by
 have A1:=hr.big;have A5:=hr.le;have Ay:=hr.cap;have AD:=hr.blk.lt;have HR:=yD hr;have AE:Hid (step (l.drop k)=XM l[k] (l.drop (k+1))):=yD (by rw[List.drop_eq_getElem_cons hlt]; rfl);have b1:w.cell? ⟨g,1,none⟩=some (.int .i64 (k:Int)):=hr.blk.cell 1;have Ap:=yD (List.drop_eq_getElem_cons hlt);obtain⟨b,AB,hA,A7,At,AQ⟩:=hr.byte (by omega);have Aa:=yD (AQ k hlt)
 have q0:(k:Int)<(l.length:Int):=by omega
 have HB:=yD AQ
 have As:=yD hb;have Aw:=yD hh;have Ag:=yD hkd;clear hr AQ hb hh hkd;generalize l[k]=x at *;subst hA;have Ab:Hid (Blk ((w.alloc (.cells #[.int .u8 0,.int .i64 0,.int .i64 0,.string ⟨#[]⟩,.int .i64 0] 29)).alloc (.cells #[.int .u8 0,.int .i64 (k:Int),.int .i64 0,.string ⟨#[]⟩,.int .i64 0] 29)) (w.heap.size+1) 29 #[.int .u8 0,.int .i64 (k:Int),.int .i64 0,.string ⟨#[]⟩,.int .i64 0]):=yD (Blk.newAt (by simp));have AV:Hid (Blk ((w.alloc (.cells #[.int .u8 0,.int .i64 0,.int .i64 0,.string ⟨#[]⟩,.int .i64 0] 29)).alloc (.cells #[.int .u8 0,.int .i64 (k:Int),.int .i64 0,.string ⟨#[]⟩,.int .i64 0] 29)) w.heap.size 29 #[.int .u8 0,.int .i64 0,.int .i64 0,.string ⟨#[]⟩,.int .i64 0]):=yD ((Blk.new _ _ _).alloc _);have Af:Hid (Mod g w ((w.alloc (.cells #[.int .u8 0,.int .i64 0,.int .i64 0,.string ⟨#[]⟩,.int .i64 0] 29)).alloc (.cells #[.int .u8 0,.int .i64 (k:Int),.int .i64 0,.string ⟨#[]⟩,.int .i64 0] 29))):=yD (((Mod.refl g w).alloc _).alloc _);have AF:Hid (Rd ((w.alloc (.cells #[.int .u8 0,.int .i64 0,.int .i64 0,.string ⟨#[]⟩,.int .i64 0] 29)).alloc (.cells #[.int .u8 0,.int .i64 (k:Int),.int .i64 0,.string ⟨#[]⟩,.int .i64 0] 29)) g (some ⟨b,AB,none⟩) l c k):=yD ⟨(HR.out.blk.alloc _).alloc _,HR.out.src.ext ((Ext.alloc _ _).trans (Ext.alloc _ _)),HR.out.far,HR.out.le,HR.out.cap,HR.out.zJZ,HR.out.big⟩
 have AZ:Hid (((w.alloc (.cells #[.int .u8 0,.int .i64 0,.int .i64 0,.string ⟨#[]⟩,.int .i64 0] 29)).alloc (.cells #[.int .u8 0,.int .i64 (k:Int),.int .i64 0,.string ⟨#[]⟩,.int .i64 0] 29)).cell? ⟨b,AB+k,none⟩=some (.int .u8 (x.toNat:Int))):=yD ((((Ext.alloc _ _).trans (Ext.alloc _ _)).cell (p:=⟨b,AB+k,none⟩) At).trans Aa.out)
 have AR:w.heap.size+1<((w.alloc (.cells #[.int .u8 0,.int .i64 0,.int .i64 0,.string ⟨#[]⟩,.int .i64 0] 29)).alloc (.cells #[.int .u8 0,.int .i64 (k:Int),.int .i64 0,.string ⟨#[]⟩,.int .i64 0] 29)).heap.size:=by simp
 go_enter Tryz.func32,Tryz.ntmps32
 go_upto_region 4 with fail
 clear b1 Aa HR HB;generalize hw1:((w.alloc (.cells #[.int .u8 0,.int .i64 0,.int .i64 0,.string ⟨#[]⟩,.int .i64 0] 29)).alloc (.cells #[.int .u8 0,.int .i64 (k:Int),.int .i64 0,.string ⟨#[]⟩,.int .i64 0] 29))=w1 at *
 have AJ:w.heap.size+1≠g:=by omega
 have Aj:w.heap.size≠g:=by omega
 have Am:=yD hw1;clear hw1 AD
 have AK:b<w1.heap.size:=by omega
 have AT:Hid (w.heap.size≤w.heap.size):=yD (zU _);generalize hgs:w.heap.size=gs at *;have AL:=yD hgs;clear hgs;have b0:w1.cell? ⟨g,0,none⟩=some (.slice (some ⟨b,AB,none⟩) l.length c):=AF.out.blk.cell 0;have b1:w1.cell? ⟨g,1,none⟩=some (.int .i64 (k:Int)):=AF.out.blk.cell 1;have AD:g<w1.heap.size:=AF.out.blk.lt;have e0:=AZ.out;apply xE 13 (by kernel_rfl) (by kernel_rfl) (by kernel_rfl);dsimp only[List.take_succ_cons,List.take_zero,List.drop_succ_cons,List.drop_zero];apply sP q0 (.func (.func 69) #[] #[]);apply sP q0 (.pointer (some ⟨g,0,none⟩));apply sP q0 (.pointer (some ⟨g,0,none⟩));apply sP q0 (.pointer (some ⟨g,0,none⟩));apply sR b0 AD q0 (.slice (some ⟨b,AB,none⟩) l.length c);apply sP q0 (.pointer (some ⟨g,0,none⟩));apply sP q0 (.pointer (some ⟨g,0,none⟩));apply sP q0 (.pointer (some ⟨g,1,none⟩));apply sR b1 AD q0 (.int .i64 (k:Int));apply sP q0 (.pointer (some ⟨b,AB+k,none⟩));apply sR e0 AK q0 (.int .u8 (x.toNat:Int));apply xA (.int .u8 1) rfl rfl rfl
 ·intro w' A6 hH;clear hH;simp[yY,go_sem];refine(zGc x w').mono ?_;rintro e w2 ⟨rfl,hx⟩;exact⟨_,rfl,by rw[Ag.out]; rfl,hx⟩
 apply sP q0 (.pointer (some ⟨gs+1,0,none⟩));apply vA;intro w2 AG hH;clear hH;(try simp only[Act.put,yA,yC,yB]);refine zAG rfl 5 (.tmp 24) (.tmp 23) rfl (gs+1) 0 (by kernel_rfl) (.int .u8 1) (by kernel_rfl) 29 _ (Ab.out.ext AG) (Nat.zero_lt_succ _) rfl rfl zCS ?_;intro w3 AM Ah;have AC:Blk w3 (gs+1) 29 #[.int .u8 1,.int .i64 (k:Int),.int .i64 0,.string ⟨#[]⟩,.int .i64 0]:=Ah;have AP:=yD AC;have AX:=yD (AM.blk (AV.out.ext AG) (by omega));have Ae:=yD ((Af.out.trans (Mod.ZZ AG g)).YD AM (by rw[AL.out]; omega));have AU:=yD ((AF.out.ext AG).YD AM AJ (XH (by omega)));have Av:gs+1<w3.heap.size:=AC.lt;have A0:g<w3.heap.size:=AU.out.blk.lt
 have AH:b≠gs+1:=by omega
 have Ao:g≠gs+1:=fun e=>AJ e.symm;clear AG Ah AC AM Ab AV Af AF AZ AR AT b0 b1 AD e0 AK;have t0:w3.cell? ⟨gs+1,0,none⟩=some (.int .u8 1):=AP.out.cell 0;obtain⟨u,HU⟩:∃u,Hid ((l.drop k).takeWhile JA=u):=⟨_,yD rfl⟩;obtain⟨en,AS⟩:∃en,Hid (k+u.length=en):=⟨_,yD rfl⟩
 go_wp2_with fail
 refine(zP5 g _ l c k _ JA zRt w3 AU.out u HU en AS).mono ?_;rintro e w4 ⟨rfl,AN,Ac⟩;have AA:=yD (AN.blk AP.out AJ);have Aq:=yD (AN.blk AX.out Aj);have Al:=yD (Ae.out.trans AN);have AO:=yD Ac;have Ar:gs+1<w4.heap.size:=AA.out.lt;have A4:g<w4.heap.size:=AO.out.blk.lt;have a1:w4.cell? ⟨g,1,none⟩=some (.int .i64 (en:Int)):=AO.out.blk.cell 1;clear AN Ac AP AX Ae AU t0;have t0:=AA.out.cell 0;have t1:=AA.out.cell 1;have t2:=AA.out.cell 2;have t3:=AA.out.cell 3;have t4:=AA.out.cell 4;have f2:=AA.out.frozen 2;have f3:=AA.out.frozen 3;have f4:=AA.out.frozen 4;have Ai:Hid (Blk (w4.setCell ⟨gs+1,3,none⟩ (.string (yX u))) (gs+1) 29 #[.int .u8 1,.int .i64 (k:Int),.int .i64 0,.string (yX u),.int .i64 0]):=yD (AA.out.put 3 _);have Ak:=yD (Aq.out.far (p:=⟨gs+1,3,none⟩) (by simp) (.string (yX u)));have AY:=yD (Al.out.far (b:=gs+1) (by rw[AL.out]; omega) 3 (.string (yX u)));have Ad:=yD (AO.out.XZ AJ (XH AH) 3 (.string (yX u)))
 go_upto_region 18 with fail
 have Ax:Hid (Blk ((w4.setCell ⟨gs+1,3,none⟩ (.string (yX u))).setCell ⟨gs+1,2,none⟩ (.int .i64 (en:Int))) (gs+1) 29 #[.int .u8 1,.int .i64 (k:Int),.int .i64 (en:Int),.string (yX u),.int .i64 0]):=yD (Ai.out.put 2 _);have Az:Hid (Blk ((w4.setCell ⟨gs+1,3,none⟩ (.string (yX u))).setCell ⟨gs+1,2,none⟩ (.int .i64 (en:Int))) gs 29 #[.int .u8 0,.int .i64 0,.int .i64 0,.string ⟨#[]⟩,.int .i64 0]):=yD (Ak.out.far (by simp) _);have An:Hid (Mod g w ((w4.setCell ⟨gs+1,3,none⟩ (.string (yX u))).setCell ⟨gs+1,2,none⟩ (.int .i64 (en:Int)))):=yD (AY.out.far (by rw[AL.out]; omega) 2 _);have A3:Hid (Rd ((w4.setCell ⟨gs+1,3,none⟩ (.string (yX u))).setCell ⟨gs+1,2,none⟩ (.int .i64 (en:Int))) g (some ⟨b,AB,none⟩) l c en):=yD (Ad.out.XZ AJ (XH AH) 2 _);clear Ai Ak AY Ad;generalize (w4.setCell ⟨gs+1,3,none⟩ (.string (yX u))).setCell ⟨gs+1,2,none⟩ (.int .i64 (en:Int))=w5 at *
 go_wp2_with (first
  | refine zBj rfl 29 (.tmp 4) rfl (gs+1) rfl 29 _ _ Ax.out Tryz.underlying29 rfl (by kernel_rfl) ?_
  | (refine vJ rfl 29 (.tmp 2) (.tmp 90) rfl gs _ rfl rfl 29 _ Az.out (by kernel_rfl) rfl rfl ?_; intro w6 AW AI))
 have z0:=AI.cell 0;have z1:=AI.cell 1;have z2:=AI.cell 2;have z3:=AI.cell 3;have z4:=AI.cell 4;refine bodyPost_ret (v:=.tuple #[zD1 1 k en u 0,.int .i64 0]) (by simp[results,Tryz.results32,go_sem,z0,z1,z2,z3,z4,zD1,zC7]) rfl ?_;have A2:=An.out.YD AW (by rw[AL.out]; exact zU _);have Au:=A3.out.YD AW Aj (XH (by omega));refine⟨A2,.inl ⟨1,u.length,0,?_,zIL AS.out.symm ?_,by rw[AS.out]; exact Au⟩⟩
 ·rw[AE.out,zWl As.out Aw.out Ag.out,←Ap.out,HU.out]
 ·rw[←HU.out,zIH]
theorem zON (g:Nat)(A:Option Addr)(l:Bs)(c k:Nat)(w:World)(hr:Rd w g A l c k)(hlt:k<l.length)(hb:YF l[k]=false)(hh:(l[k]==35)=false)(hkd:JD l[k]=2) :
  Calls Tryz.prog 32 #[.pointer (some ⟨g,0,none⟩)] w (zEg g A l c k w):=by
 have BI:=hr.big;have BJ:=hr.le;have BG:=hr.cap;have AP:=hr.blk.lt;have HR:=yD hr;have AG:Hid (step (l.drop k)=XM l[k] (l.drop (k+1))):=yD (by rw[List.drop_eq_getElem_cons hlt]; rfl);have b1:w.cell? ⟨g,1,none⟩=some (.int .i64 (k:Int)):=hr.blk.cell 1;have Az:=yD (List.drop_eq_getElem_cons hlt);obtain⟨b,AD,hA,BL,A6,AX⟩:=hr.byte (by omega);have Al:=yD (AX k hlt)
 have q0:(k:Int)<(l.length:Int):=by omega
 have HB:=yD AX
 have An:=yD hb;have Aq:=yD hh;have AZ:=yD hkd;clear hr AX hb hh hkd;generalize l[k]=x at *;subst hA;have A0:Hid (Blk ((w.alloc (.cells #[.int .u8 0,.int .i64 0,.int .i64 0,.string ⟨#[]⟩,.int .i64 0] 29)).alloc (.cells #[.int .u8 0,.int .i64 (k:Int),.int .i64 0,.string ⟨#[]⟩,.int .i64 0] 29)) (w.heap.size+1) 29 #[.int .u8 0,.int .i64 (k:Int),.int .i64 0,.string ⟨#[]⟩,.int .i64 0]):=yD (Blk.newAt (by simp));have Av:Hid (Blk ((w.alloc (.cells #[.int .u8 0,.int .i64 0,.int .i64 0,.string ⟨#[]⟩,.int .i64 0] 29)).alloc (.cells #[.int .u8 0,.int .i64 (k:Int),.int .i64 0,.string ⟨#[]⟩,.int .i64 0] 29)) w.heap.size 29 #[.int .u8 0,.int .i64 0,.int .i64 0,.string ⟨#[]⟩,.int .i64 0]):=yD ((Blk.new _ _ _).alloc _);have Ao:Hid (Mod g w ((w.alloc (.cells #[.int .u8 0,.int .i64 0,.int .i64 0,.string ⟨#[]⟩,.int .i64 0] 29)).alloc (.cells #[.int .u8 0,.int .i64 (k:Int),.int .i64 0,.string ⟨#[]⟩,.int .i64 0] 29))):=yD (((Mod.refl g w).alloc _).alloc _);have AQ:Hid (Rd ((w.alloc (.cells #[.int .u8 0,.int .i64 0,.int .i64 0,.string ⟨#[]⟩,.int .i64 0] 29)).alloc (.cells #[.int .u8 0,.int .i64 (k:Int),.int .i64 0,.string ⟨#[]⟩,.int .i64 0] 29)) g (some ⟨b,AD,none⟩) l c k):=yD ⟨(HR.out.blk.alloc _).alloc _,HR.out.src.ext ((Ext.alloc _ _).trans (Ext.alloc _ _)),HR.out.far,HR.out.le,HR.out.cap,HR.out.zJZ,HR.out.big⟩
 have Ax:Hid (((w.alloc (.cells #[.int .u8 0,.int .i64 0,.int .i64 0,.string ⟨#[]⟩,.int .i64 0] 29)).alloc (.cells #[.int .u8 0,.int .i64 (k:Int),.int .i64 0,.string ⟨#[]⟩,.int .i64 0] 29)).cell? ⟨b,AD+k,none⟩=some (.int .u8 (x.toNat:Int))):=yD ((((Ext.alloc _ _).trans (Ext.alloc _ _)).cell (p:=⟨b,AD+k,none⟩) A6).trans Al.out)
 have AY:w.heap.size+1<((w.alloc (.cells #[.int .u8 0,.int .i64 0,.int .i64 0,.string ⟨#[]⟩,.int .i64 0] 29)).alloc (.cells #[.int .u8 0,.int .i64 (k:Int),.int .i64 0,.string ⟨#[]⟩,.int .i64 0] 29)).heap.size:=by simp
 go_enter Tryz.func32,Tryz.ntmps32
 go_upto_region 4 with fail
 clear b1 Al HR HB;generalize hw1:((w.alloc (.cells #[.int .u8 0,.int .i64 0,.int .i64 0,.string ⟨#[]⟩,.int .i64 0] 29)).alloc (.cells #[.int .u8 0,.int .i64 (k:Int),.int .i64 0,.string ⟨#[]⟩,.int .i64 0] 29))=w1 at *
 have AF:w.heap.size+1≠g:=by omega
 have Ag:w.heap.size≠g:=by omega
 have BB:=yD hw1;clear hw1 AP
 have AM:b<w1.heap.size:=by omega
 have Ac:Hid (w.heap.size≤w.heap.size):=yD (zU _);generalize hgs:w.heap.size=gs at *;have AE:=yD hgs;clear hgs;have b0:w1.cell? ⟨g,0,none⟩=some (.slice (some ⟨b,AD,none⟩) l.length c):=AQ.out.blk.cell 0;have b1:w1.cell? ⟨g,1,none⟩=some (.int .i64 (k:Int)):=AQ.out.blk.cell 1;have AP:g<w1.heap.size:=AQ.out.blk.lt;have e0:=Ax.out;apply xE 13 (by kernel_rfl) (by kernel_rfl) (by kernel_rfl);dsimp only[List.take_succ_cons,List.take_zero,List.drop_succ_cons,List.drop_zero];apply sP q0 (.func (.func 69) #[] #[]);apply sP q0 (.pointer (some ⟨g,0,none⟩));apply sP q0 (.pointer (some ⟨g,0,none⟩));apply sP q0 (.pointer (some ⟨g,0,none⟩));apply sR b0 AP q0 (.slice (some ⟨b,AD,none⟩) l.length c);apply sP q0 (.pointer (some ⟨g,0,none⟩));apply sP q0 (.pointer (some ⟨g,0,none⟩));apply sP q0 (.pointer (some ⟨g,1,none⟩));apply sR b1 AP q0 (.int .i64 (k:Int));apply sP q0 (.pointer (some ⟨b,AD+k,none⟩));apply sR e0 AM q0 (.int .u8 (x.toNat:Int));apply xA (.int .u8 2) rfl rfl rfl
 ·intro w' BK hH;clear hH;simp[yY,go_sem];refine(zGc x w').mono ?_;rintro e w2 ⟨rfl,hx⟩;exact⟨_,rfl,by rw[AZ.out]; rfl,hx⟩
 apply sP q0 (.pointer (some ⟨gs+1,0,none⟩));apply vA;intro w2 AK hH;clear hH;(try simp only[Act.put,yA,yC,yB]);refine zAG rfl 5 (.tmp 24) (.tmp 23) rfl (gs+1) 0 (by kernel_rfl) (.int .u8 2) (by kernel_rfl) 29 _ (A0.out.ext AK) (Nat.zero_lt_succ _) rfl rfl zCS ?_;intro w3 AT Ar;have AH:Blk w3 (gs+1) 29 #[.int .u8 2,.int .i64 (k:Int),.int .i64 0,.string ⟨#[]⟩,.int .i64 0]:=Ar;have AW:=yD AH;have Ak:=yD (AT.blk (Av.out.ext AK) (by omega));have A2:=yD ((Ao.out.trans (Mod.ZZ AK g)).YD AT (by rw[AE.out]; omega));have Aj:=yD ((AQ.out.ext AK).YD AT AF (XH (by omega)));have BF:gs+1<w3.heap.size:=AH.lt;have BH:g<w3.heap.size:=Aj.out.blk.lt
 have AB:b≠gs+1:=by omega
 have BC:g≠gs+1:=fun e=>AF e.symm;clear AK Ar AH AT A0 Av Ao AQ Ax AY Ac b0 b1 AP e0 AM;have t0:w3.cell? ⟨gs+1,0,none⟩=some (.int .u8 2):=AW.out.cell 0;obtain⟨u,HU⟩:∃u,Hid ((l.drop k).takeWhile jA=u):=⟨_,yD rfl⟩;obtain⟨en,Ah⟩:∃en,Hid (k+u.length=en):=⟨_,yD rfl⟩;obtain⟨r,Ae⟩:∃r,Hid (zAU 0 u=r):=⟨_,yD rfl⟩;have A7:Hid (∀c ∈ u,jA c=true):=yD (by rw[←HU.out]; exact fun c hc=>by have:=zSY (p:=jA) ((l.drop k).takeWhile jA) (by have h:=zP2 (p:=jA) (l.drop k) _ (zU _); rw[zIH] at h; exact h) c hc; exact this)
 have A8:u.length≤140737488355328:=by
  have:=zNJ jA (l.drop k)
  rw[HU.out,List.length_drop] at this;omega
 go_wp2_with fail
 refine(zP5 g _ l c k _ jA zOf w3 Aj.out u HU en Ah).mono ?_;rintro e w4 ⟨rfl,AV,A1⟩;have AI:=yD (AV.blk AW.out AF);have Am:=yD (AV.blk Ak.out Ag);have Au:=yD (A2.out.trans AV);have Aw:=yD A1;have BE:gs+1<w4.heap.size:=AI.out.lt;clear AV A1 AW Ak A2 Aj t0;have t3:=AI.out.cell 3;have f3:=AI.out.frozen 3;have As:Hid (Blk (w4.setCell ⟨gs+1,3,none⟩ (.string (yX u))) (gs+1) 29 #[.int .u8 2,.int .i64 (k:Int),.int .i64 0,.string (yX u),.int .i64 0]):=yD (AI.out.put 3 _);have A5:=yD (Am.out.far (p:=⟨gs+1,3,none⟩) (by simp) (.string (yX u)));have A4:=yD (Au.out.far (b:=gs+1) (by rw[AE.out]; omega) 3 (.string (yX u)));have At:=yD (Aw.out.XZ AF (XH AB) 3 (.string (yX u)))
 go_wp2_with fail
 refine(zOP u A7.out A8 _ r Ae).mono ?_;rintro e w5 ⟨rfl,AJ⟩;have AA:=yD (As.out.ext AJ);have Ay:=yD (A5.out.ext AJ);have Ap:=yD (A4.out.trans (Mod.ZZ AJ g));have AU:=yD (At.out.ext AJ);have BA:gs+1<w5.heap.size:=AA.out.lt;have A9:g<w5.heap.size:=AU.out.blk.lt;have a1:w5.cell? ⟨g,1,none⟩=some (.int .i64 (en:Int)):=AU.out.blk.cell 1;clear AJ AI Am Au Aw t3 f3 As A5 A4 At
 cases r with
 | none=>
  dsimp only[zJe];have t0:=AA.out.cell 0;have t1:=AA.out.cell 1;have t2:=AA.out.cell 2;have t3:=AA.out.cell 3;have t4:=AA.out.cell 4;have f2:=AA.out.frozen 2;have f3:=AA.out.frozen 3;have f4:=AA.out.frozen 4;have AL:Hid (Blk (w5.setCell ⟨gs+1,4,none⟩ (.int .i64 0)) (gs+1) 29 #[.int .u8 2,.int .i64 (k:Int),.int .i64 0,.string (yX u),.int .i64 0]):=yD (AA.out.put 4 _);have AS:=yD (Ay.out.far (p:=⟨gs+1,4,none⟩) (by simp) (.int .i64 0));have AO:=yD (Ap.out.far (b:=gs+1) (by rw[AE.out]; omega) 4 (.int .i64 0));have AR:=yD (AU.out.XZ AF (XH AB) 4 (.int .i64 0))
  go_upto_region 18 with fail
  have Aa:Hid (Blk ((w5.setCell ⟨gs+1,4,none⟩ (.int .i64 0)).setCell ⟨gs+1,2,none⟩ (.int .i64 (en:Int))) (gs+1) 29 #[.int .u8 2,.int .i64 (k:Int),.int .i64 (en:Int),.string (yX u),.int .i64 0]):=yD (AL.out.put 2 _);have Af:Hid (Blk ((w5.setCell ⟨gs+1,4,none⟩ (.int .i64 0)).setCell ⟨gs+1,2,none⟩ (.int .i64 (en:Int))) gs 29 #[.int .u8 0,.int .i64 0,.int .i64 0,.string ⟨#[]⟩,.int .i64 0]):=yD (AS.out.far (by simp) _);have Ad:Hid (Mod g w ((w5.setCell ⟨gs+1,4,none⟩ (.int .i64 0)).setCell ⟨gs+1,2,none⟩ (.int .i64 (en:Int)))):=yD (AO.out.far (by rw[AE.out]; omega) 2 _);have Ab:Hid (Rd ((w5.setCell ⟨gs+1,4,none⟩ (.int .i64 0)).setCell ⟨gs+1,2,none⟩ (.int .i64 (en:Int))) g (some ⟨b,AD,none⟩) l c en):=yD (AR.out.XZ AF (XH AB) 2 _);clear AL AS AO AR;generalize (w5.setCell ⟨gs+1,4,none⟩ (.int .i64 0)).setCell ⟨gs+1,2,none⟩ (.int .i64 (en:Int))=w5 at *
  go_wp2_with (first
   | refine zBj rfl 29 (.tmp 4) rfl (gs+1) rfl 29 _ _ Aa.out Tryz.underlying29 rfl (by kernel_rfl) ?_
   | (refine vJ rfl 29 (.tmp 2) (.tmp 90) rfl gs _ rfl rfl 29 _ Af.out (by kernel_rfl) rfl rfl ?_; intro w6 AN AC))
  have z0:=AC.cell 0;have z1:=AC.cell 1;have z2:=AC.cell 2;have z3:=AC.cell 3;have z4:=AC.cell 4;refine bodyPost_ret (v:=.tuple #[zD1 2 k en u 0,.int .i64 31]) (by simp[results,Tryz.results32,go_sem,z0,z1,z2,z3,z4,zD1,zC7]) rfl ?_;have Ai:=Ad.out.YD AN (by rw[AE.out]; exact zU _);have A3:=Ab.out.YD AN Ag (XH (by omega));refine⟨Ai,.inr ⟨31,2,en,u,0,?_,by decide,rfl⟩⟩;rw[AG.out,zSA An.out Aq.out AZ.out,←Az.out,HU.out,Ae.out]
 | some m=>
  dsimp only[zJe];have t0:=AA.out.cell 0;have t1:=AA.out.cell 1;have t2:=AA.out.cell 2;have t3:=AA.out.cell 3;have t4:=AA.out.cell 4;have f2:=AA.out.frozen 2;have f3:=AA.out.frozen 3;have f4:=AA.out.frozen 4;have AL:Hid (Blk (w5.setCell ⟨gs+1,4,none⟩ (.int .i64 m)) (gs+1) 29 #[.int .u8 2,.int .i64 (k:Int),.int .i64 0,.string (yX u),.int .i64 m]):=yD (AA.out.put 4 _);have AS:=yD (Ay.out.far (p:=⟨gs+1,4,none⟩) (by simp) (.int .i64 m));have AO:=yD (Ap.out.far (b:=gs+1) (by rw[AE.out]; omega) 4 (.int .i64 m));have AR:=yD (AU.out.XZ AF (XH AB) 4 (.int .i64 m))
  go_upto_region 18 with fail
  have Aa:Hid (Blk ((w5.setCell ⟨gs+1,4,none⟩ (.int .i64 m)).setCell ⟨gs+1,2,none⟩ (.int .i64 (en:Int))) (gs+1) 29 #[.int .u8 2,.int .i64 (k:Int),.int .i64 (en:Int),.string (yX u),.int .i64 m]):=yD (AL.out.put 2 _);have Af:Hid (Blk ((w5.setCell ⟨gs+1,4,none⟩ (.int .i64 m)).setCell ⟨gs+1,2,none⟩ (.int .i64 (en:Int))) gs 29 #[.int .u8 0,.int .i64 0,.int .i64 0,.string ⟨#[]⟩,.int .i64 0]):=yD (AS.out.far (by simp) _);have Ad:Hid (Mod g w ((w5.setCell ⟨gs+1,4,none⟩ (.int .i64 m)).setCell ⟨gs+1,2,none⟩ (.int .i64 (en:Int)))):=yD (AO.out.far (by rw[AE.out]; omega) 2 _);have Ab:Hid (Rd ((w5.setCell ⟨gs+1,4,none⟩ (.int .i64 m)).setCell ⟨gs+1,2,none⟩ (.int .i64 (en:Int))) g (some ⟨b,AD,none⟩) l c en):=yD (AR.out.XZ AF (XH AB) 2 _);clear AL AS AO AR;generalize (w5.setCell ⟨gs+1,4,none⟩ (.int .i64 m)).setCell ⟨gs+1,2,none⟩ (.int .i64 (en:Int))=w5 at *
  go_wp2_with (first
   | refine zBj rfl 29 (.tmp 4) rfl (gs+1) rfl 29 _ _ Aa.out Tryz.underlying29 rfl (by kernel_rfl) ?_
   | (refine vJ rfl 29 (.tmp 2) (.tmp 90) rfl gs _ rfl rfl 29 _ Af.out (by kernel_rfl) rfl rfl ?_; intro w6 AN AC))
  have z0:=AC.cell 0;have z1:=AC.cell 1;have z2:=AC.cell 2;have z3:=AC.cell 3;have z4:=AC.cell 4;refine bodyPost_ret (v:=.tuple #[zD1 2 k en u m,.int .i64 0]) (by simp[results,Tryz.results32,go_sem,z0,z1,z2,z3,z4,zD1,zC7]) rfl ?_;have Ai:=Ad.out.YD AN (by rw[AE.out]; exact zU _);have A3:=Ab.out.YD AN Ag (XH (by omega));refine⟨Ai,.inl ⟨2,u.length,m,?_,zIL Ah.out.symm ?_,by rw[Ah.out]; exact A3⟩⟩
  ·rw[AG.out,zSA An.out Aq.out AZ.out,←Az.out,HU.out,Ae.out]
  ·rw[←HU.out,zIH]
theorem zQD (g:Nat)(A:Option Addr)(l:Bs)(c k:Nat)(w:World)(hr:Rd w g A l c k)(hlt:k<l.length)(hb:YF l[k]=false)(hh:(l[k]==35)=false)(hkd:JD l[k]=3) :
  Calls Tryz.prog 32 #[.pointer (some ⟨g,0,none⟩)] w (zEg g A l c k w):=by
 have Bo:=hr.big;have Bf:=hr.le;have At:=hr.cap;have Ap:=hr.blk.lt;have HR:=yD hr;have AR:Hid (step (l.drop k)=XM l[k] (l.drop (k+1))):=yD (by rw[List.drop_eq_getElem_cons hlt]; rfl);have b1:w.cell? ⟨g,1,none⟩=some (.int .i64 (k:Int)):=hr.blk.cell 1;have A0:=yD (List.drop_eq_getElem_cons hlt);obtain⟨b,AB,hA,Bp,Bh,A5⟩:=hr.byte (by omega);have BL:=yD (A5 k hlt)
 have q0:(k:Int)<(l.length:Int):=by omega
 have HB:=yD A5
 have BM:=yD hb;have BP:=yD hh;have A7:=yD hkd;clear hr A5 hb hh hkd;generalize l[k]=x at *;subst hA;have BZ:Hid (Blk ((w.alloc (.cells #[.int .u8 0,.int .i64 0,.int .i64 0,.string ⟨#[]⟩,.int .i64 0] 29)).alloc (.cells #[.int .u8 0,.int .i64 (k:Int),.int .i64 0,.string ⟨#[]⟩,.int .i64 0] 29)) (w.heap.size+1) 29 #[.int .u8 0,.int .i64 (k:Int),.int .i64 0,.string ⟨#[]⟩,.int .i64 0]):=yD (Blk.newAt (by simp));have BV:Hid (Blk ((w.alloc (.cells #[.int .u8 0,.int .i64 0,.int .i64 0,.string ⟨#[]⟩,.int .i64 0] 29)).alloc (.cells #[.int .u8 0,.int .i64 (k:Int),.int .i64 0,.string ⟨#[]⟩,.int .i64 0] 29)) w.heap.size 29 #[.int .u8 0,.int .i64 0,.int .i64 0,.string ⟨#[]⟩,.int .i64 0]):=yD ((Blk.new _ _ _).alloc _);have BN:Hid (Mod g w ((w.alloc (.cells #[.int .u8 0,.int .i64 0,.int .i64 0,.string ⟨#[]⟩,.int .i64 0] 29)).alloc (.cells #[.int .u8 0,.int .i64 (k:Int),.int .i64 0,.string ⟨#[]⟩,.int .i64 0] 29))):=yD (((Mod.refl g w).alloc _).alloc _);have As:Hid (Rd ((w.alloc (.cells #[.int .u8 0,.int .i64 0,.int .i64 0,.string ⟨#[]⟩,.int .i64 0] 29)).alloc (.cells #[.int .u8 0,.int .i64 (k:Int),.int .i64 0,.string ⟨#[]⟩,.int .i64 0] 29)) g (some ⟨b,AB,none⟩) l c k):=yD ⟨(HR.out.blk.alloc _).alloc _,HR.out.src.ext ((Ext.alloc _ _).trans (Ext.alloc _ _)),HR.out.far,HR.out.le,HR.out.cap,HR.out.zJZ,HR.out.big⟩
 have BW:Hid (((w.alloc (.cells #[.int .u8 0,.int .i64 0,.int .i64 0,.string ⟨#[]⟩,.int .i64 0] 29)).alloc (.cells #[.int .u8 0,.int .i64 (k:Int),.int .i64 0,.string ⟨#[]⟩,.int .i64 0] 29)).cell? ⟨b,AB+k,none⟩=some (.int .u8 (x.toNat:Int))):=yD ((((Ext.alloc _ _).trans (Ext.alloc _ _)).cell (p:=⟨b,AB+k,none⟩) Bh).trans BL.out)
 have A6:w.heap.size+1<((w.alloc (.cells #[.int .u8 0,.int .i64 0,.int .i64 0,.string ⟨#[]⟩,.int .i64 0] 29)).alloc (.cells #[.int .u8 0,.int .i64 (k:Int),.int .i64 0,.string ⟨#[]⟩,.int .i64 0] 29)).heap.size:=by simp
 go_enter Tryz.func32,Tryz.ntmps32
 go_upto_region 4 with fail
 clear b1 BL HR HB;generalize AQ:((w.alloc (.cells #[.int .u8 0,.int .i64 0,.int .i64 0,.string ⟨#[]⟩,.int .i64 0] 29)).alloc (.cells #[.int .u8 0,.int .i64 (k:Int),.int .i64 0,.string ⟨#[]⟩,.int .i64 0] 29))=w1 at *
 have AP:w.heap.size+1≠g:=by omega
 have A1:w.heap.size≠g:=by omega
 have Bj:=yD AQ;clear AQ Ap
 have Am:b<w1.heap.size:=by omega
 have BB:Hid (w.heap.size≤w.heap.size):=yD (zU _);generalize hgs:w.heap.size=gs at *;have AU:=yD hgs;clear hgs;have b0:w1.cell? ⟨g,0,none⟩=some (.slice (some ⟨b,AB,none⟩) l.length c):=As.out.blk.cell 0;have b1:w1.cell? ⟨g,1,none⟩=some (.int .i64 (k:Int)):=As.out.blk.cell 1;have Ap:g<w1.heap.size:=As.out.blk.lt;have e0:=BW.out;apply xE 13 (by kernel_rfl) (by kernel_rfl) (by kernel_rfl);dsimp only[List.take_succ_cons,List.take_zero,List.drop_succ_cons,List.drop_zero];apply sP q0 (.func (.func 69) #[] #[]);apply sP q0 (.pointer (some ⟨g,0,none⟩));apply sP q0 (.pointer (some ⟨g,0,none⟩));apply sP q0 (.pointer (some ⟨g,0,none⟩));apply sR b0 Ap q0 (.slice (some ⟨b,AB,none⟩) l.length c);apply sP q0 (.pointer (some ⟨g,0,none⟩));apply sP q0 (.pointer (some ⟨g,0,none⟩));apply sP q0 (.pointer (some ⟨g,1,none⟩));apply sR b1 Ap q0 (.int .i64 (k:Int));apply sP q0 (.pointer (some ⟨b,AB+k,none⟩));apply sR e0 Am q0 (.int .u8 (x.toNat:Int));apply xA (.int .u8 3) rfl rfl rfl
 ·intro w' AA hH;clear hH;simp[yY,go_sem];refine(zGc x w').mono ?_;rintro e w2 ⟨rfl,hx⟩;exact⟨_,rfl,by rw[A7.out]; rfl,hx⟩
 apply sP q0 (.pointer (some ⟨gs+1,0,none⟩));apply vA;intro w2 Aj hH;clear hH;(try simp only[Act.put,yA,yC,yB]);refine zAG rfl 5 (.tmp 24) (.tmp 23) rfl (gs+1) 0 (by kernel_rfl) (.int .u8 3) (by kernel_rfl) 29 _ (BZ.out.ext Aj) (Nat.zero_lt_succ _) rfl rfl zCS ?_;intro w3 Ay BR;have AS:Blk w3 (gs+1) 29 #[.int .u8 3,.int .i64 (k:Int),.int .i64 0,.string ⟨#[]⟩,.int .i64 0]:=BR;have A2:=yD AS;have BK:=yD (Ay.blk (BV.out.ext Aj) (by omega));have Bb:=yD ((BN.out.trans (Mod.ZZ Aj g)).YD Ay (by rw[AU.out]; omega));have Ab:=yD ((As.out.ext Aj).YD Ay AP (XH (by omega)));have Bm:gs+1<w3.heap.size:=AS.lt;have Aa:g<w3.heap.size:=Ab.out.blk.lt
 have AF:b≠gs+1:=by omega
 have Bl:g≠gs+1:=fun e=>AP e.symm;clear Aj BR AS Ay BZ BV BN As BW A6 BB b0 b1 Ap e0 Am;have t0:w3.cell? ⟨gs+1,0,none⟩=some (.int .u8 3):=A2.out.cell 0;obtain⟨tp,HP⟩:∃t,Hid ((decide (([61,61]:Bs).length≤(l.drop k).length)&&((l.drop k).take ([61,61]:Bs).length==[61,61]))=t):=⟨_,yD rfl⟩
 have Ba:Hid (Cells w3 (some ⟨b,AB+k,none⟩) (xO (l.drop k))):=yD (by
  have h:=zDe Ab.out.src At k l.length;rw[zIT (by omega),List.take_of_length_le (by simp)] at h
  exact h)
 have BS:Hid (Cells w3 (some ⟨b,AB+k,none⟩) (xO [x])):=yD (by
  have h:=zDe Ab.out.src At k 1;rw[zIT (by omega),A0.out] at h
  exact h)
 have BO:∀W,(Instr.slice 22 (.slice (some ⟨b,AB,none⟩) l.length c) (some (.int .i64 (k:Int))) (some (.int .i64 ((k:Int)+1))) none).run Tryz.prog W=.ok (.slice (some ⟨b,AB+k,none⟩) 1 (c-k)) W:=fun W=>by
  have h:=zP0 W _ _ Tryz.underlying22 zCS (some ⟨b,AB,none⟩) l.length c k (k+1) (by omega) (by omega);rw[zIT (by omega),show k+1-k=1 from by omega] at h;exact h
 have Af:∀W,(Instr.slice 22 (.slice (some ⟨b,AB,none⟩) l.length c) (some (.int .i64 (k:Int))) none none).run Tryz.prog W=.ok (.slice (some ⟨b,AB+k,none⟩) (l.length-k) (c-k)) W:=fun W=>by
  have h:=zFY W _ _ Tryz.underlying22 zCS (some ⟨b,AB,none⟩) l.length c k Bf;rw[zIT (by omega)] at h;exact h
 have Bg:=yD BO;have A4:=yD Af;clear BO Af
 go_upto_region 13 with fail
 clear t0;have b0:w3.cell? ⟨g,0,none⟩=some (.slice (some ⟨b,AB,none⟩) l.length c):=Ab.out.blk.cell 0;have b1:w3.cell? ⟨g,1,none⟩=some (.int .i64 (k:Int)):=Ab.out.blk.cell 1;apply xE 16 (by kernel_rfl) (by kernel_rfl) (by kernel_rfl);dsimp only[List.take_succ_cons,List.take_zero,List.drop_succ_cons,List.drop_zero];apply sP q0 (.pointer (some ⟨g,0,none⟩));apply sP q0 (.pointer (some ⟨g,0,none⟩));apply sP q0 (.pointer (some ⟨g,0,none⟩));apply sR b0 Aa q0 (.slice (some ⟨b,AB,none⟩) l.length c);apply sP q0 (.pointer (some ⟨g,0,none⟩));apply sP q0 (.pointer (some ⟨g,0,none⟩));apply sP q0 (.pointer (some ⟨g,1,none⟩));apply sR b1 Aa q0 (.int .i64 (k:Int));apply sP q0 (.pointer (some ⟨g,0,none⟩));apply sP q0 (.pointer (some ⟨g,0,none⟩));apply sP q0 (.pointer (some ⟨g,1,none⟩));apply sR b1 Aa q0 (.int .i64 (k:Int));apply xA (.int .i64 ((k:Int)+1)) rfl rfl rfl
 ·intro w' AA hH;clear hH;have AQ:IntKind.i64.wrap ((k:Int)+1)=(k:Int)+1:=IntWalk.i64_in _ (by omega);simp[yY,go_sem,AQ]
  try exact⟨by omega,Ext.refl _⟩
  try exact Ext.refl _
 apply xA (.slice (some ⟨b,AB+k,none⟩) 1 (c-k)) rfl rfl rfl
 ·intro w' AA hH;clear hH;have hs:=Bg.out w';simp[yY,go_sem,hs]
  try exact Ext.refl _
 apply xA (.string (yX [x])) rfl rfl rfl
 ·intro w' AA hH;clear hH;have Be:=XE (P:=Tryz.prog) (n:=1) (c:=c-k) Tryz.underlying22 Tryz.underlying5 Tryz.underlying9 rfl (BS.out.ext AA);simp[yY,go_sem,Be]
  try exact Ext.refl _
 apply sP q0 (.pointer (some ⟨gs+1,3,none⟩));apply vA;intro w4 Ac hH;clear hH;(try simp only[Act.put,yA,yC,yB]);refine zAG rfl 9 (.tmp 61) (.tmp 60) rfl (gs+1) 3 (by kernel_rfl) (.string (yX [x])) (by kernel_rfl) 29 _ (A2.out.ext Ac) (by show 3<5; decide) rfl rfl (fun w=>by kernel_rfl) ?_;intro w5 Ae BY;have AZ:Blk w5 (gs+1) 29 #[.int .u8 3,.int .i64 (k:Int),.int .i64 0,.string (yX [x]),.int .i64 0]:=BY;have Ak:=yD AZ;have Ar:=yD (Ae.blk (BK.out.ext Ac) (by omega));have Ai:=yD ((Bb.out.trans (Mod.ZZ Ac g)).YD Ae (by rw[AU.out]; omega));have AH:=yD ((Ab.out.ext Ac).YD Ae AP (XH AF));have Bc:=yD (Ae.cells (Ba.out.ext Ac) (XH AF));have Bi:gs+1<w5.heap.size:=AZ.lt;have Al:g<w5.heap.size:=AH.out.blk.lt
 have BG:∀b' Ah,(some ⟨b,AB+k,none⟩:Option Addr)=some ⟨b',Ah,none⟩→b'<w5.heap.size:=fun b' Ah e=>by
  injection e with e;injection e with e;subst e;omega
 clear Ac BY AZ Ae A2 BK Bb Ab b0 b1 Ba BS;have b0:w5.cell? ⟨g,0,none⟩=some (.slice (some ⟨b,AB,none⟩) l.length c):=AH.out.blk.cell 0;have b1:w5.cell? ⟨g,1,none⟩=some (.int .i64 (k:Int)):=AH.out.blk.cell 1
 go_upto_region 14 with fail
 apply zLJ w5.heap.size [zBb w5.heap.size] 12 (by kernel_rfl) (by kernel_rfl) (by kernel_rfl) (zBb.ext _) (zU _);dsimp only[List.take_succ_cons,List.take_zero,List.drop_succ_cons,List.drop_zero];apply xA (.pointer (some ⟨g,0,none⟩)) rfl rfl rfl
 ·intro w' AA hH;clear hH;simp[yY,go_sem,q0];exact XV AA
 apply xA (.pointer (some ⟨g,0,none⟩)) rfl rfl rfl
 ·intro w' AA hH;clear hH;simp[yY,go_sem,q0];exact XV AA
 apply xA (.pointer (some ⟨g,0,none⟩)) rfl rfl rfl
 ·intro w' AA hH;clear hH;simp[yY,go_sem,q0];exact XV AA
 apply xA (.slice (some ⟨b,AB,none⟩) l.length c) rfl rfl rfl
 ·intro w' AA hH;clear hH;have z0:=(AA.1.cell (p:=⟨g,0,none⟩) Al).trans b0;simp[yY,go_sem,z0,q0];exact XV AA
 apply xA (.pointer (some ⟨g,0,none⟩)) rfl rfl rfl
 ·intro w' AA hH;clear hH;simp[yY,go_sem,q0];exact XV AA
 apply xA (.pointer (some ⟨g,0,none⟩)) rfl rfl rfl
 ·intro w' AA hH;clear hH;simp[yY,go_sem,q0];exact XV AA
 apply xA (.pointer (some ⟨g,1,none⟩)) rfl rfl rfl
 ·intro w' AA hH;clear hH;simp[yY,go_sem,q0];exact XV AA
 apply xA (.int .i64 (k:Int)) rfl rfl rfl
 ·intro w' AA hH;clear hH;have z0:=(AA.1.cell (p:=⟨g,1,none⟩) Al).trans b1;simp[yY,go_sem,z0,q0];exact XV AA
 apply xA (.slice (some ⟨b,AB+k,none⟩) (l.length-k) (c-k)) rfl rfl rfl
 ·intro w' AA hH;clear hH;have hs:=A4.out w';simp[yY,go_sem,hs];exact XV AA
 apply vF (zBb w5.heap.size) zBb.mono rfl rfl rfl
 ·intro w' AA hH;clear hH;simp[yY,go_sem];exact⟨⟨w'.heap.size,(0,0),rfl,zGL AA,zO _ _⟩,zCf.ext (zBb.ext _) (zGL AA) (Ext.alloc _ _)⟩
 intro BQ;apply vF (zBb w5.heap.size) zBb.mono rfl rfl rfl
 ·intro w' AA hH;have hy:zBb w5.heap.size BQ w':=hH (some 71,zBb w5.heap.size BQ) (List.mem_cons_self ..) ⟨71,rfl,by decide⟩;clear hH;have h1:=hy.choose_spec.choose_spec.1;have h2:=hy.choose_spec.choose_spec.2.1;have h3:=hy.choose_spec.choose_spec.2.2;generalize hy.choose_spec.choose=fr at h1 h2 h3;generalize hy.choose=g1 at h1 h2 h3;clear hy;subst h1;have Bk:=zDo (P:=Tryz.prog) w' 22 5 Tryz.underlying22 Tryz.underlying5 g1 2 2 h3;simp[yY,go_sem,Bk];exact⟨⟨g1,(zA3 w' g1 2 h3).choose,rfl,h2,(zA3 w' g1 2 h3).choose_spec⟩,zLQ (zGL AA) h2 2⟩
 intro BT;apply xA (.bool tp) rfl rfl rfl
 ·intro w' AA hH;have hy:zBb w5.heap.size BT w':=hH (some 72,zBb w5.heap.size BT) (List.mem_cons_self ..) ⟨72,rfl,by decide⟩;clear hH;have h1:=hy.choose_spec.choose_spec.1;have h2:=hy.choose_spec.choose_spec.2.1;have h3:=hy.choose_spec.choose_spec.2.2;generalize hy.choose_spec.choose=fr at h1 h2 h3;generalize hy.choose=g1 at h1 h2 h3;clear hy;subst h1;simp[yY,go_sem];refine(zMJ (some ⟨b,AB+k,none⟩) (some ⟨g1,0,none⟩) (l.drop k) [61,61] (l.length-k) 2 (c-k) 2 w' (by simp) rfl (by omega) (Bc.out.below BG AA.1) (zS8 h3) tp HP).mono ?_;rintro e w2 ⟨rfl,rfl⟩;exact⟨_,rfl,rfl,XV AA⟩
 apply vA;intro w6 Av hH;clear hH;have Au:Ext w5 w6:=Av.1;clear Av;refine wpList_nil ?_;(try simp only[Act.put,yA,yC,yB]);have AW:=yD (Ak.out.ext Au);have Az:=yD (Ar.out.ext Au);have AL:=yD (Ai.out.trans (Mod.ZZ Au g));have AI:=yD (AH.out.ext Au);have A3:gs+1<w6.heap.size:=AW.out.lt;have BE:g<w6.heap.size:=AI.out.blk.lt;clear Au Ak Ar Ai AH b0 b1 Bc
 cases tp with
 | true=>
  have t3:=AW.out.cell 3;have f3:=AW.out.frozen 3;have AO:Hid (Blk (w6.setCell ⟨gs+1,3,none⟩ (.string (yX [61,61]))) (gs+1) 29 #[.int .u8 3,.int .i64 (k:Int),.int .i64 0,.string (yX [61,61]),.int .i64 0]):=yD (AW.out.put 3 _);have Ag:=yD (Az.out.far (p:=⟨gs+1,3,none⟩) (by simp) (.string (yX [61,61])));have Ax:=yD (AL.out.far (b:=gs+1) (by rw[AU.out]; omega) 3 (.string (yX [61,61])));have AD:=yD (AI.out.XZ AP (XH AF) 3 (.string (yX [61,61])));have AT:gs+1<(w6.setCell ⟨gs+1,3,none⟩ (.string (yX [61,61]))).heap.size:=AO.out.lt;have AV:g<(w6.setCell ⟨gs+1,3,none⟩ (.string (yX [61,61]))).heap.size:=AD.out.blk.lt
  go_upto_region 16 with fail
  clear t3 f3 AW Az AL AI;have Bd:(⟨#[61,61]⟩:ByteArray)=yX [61,61]:=rfl;rw[Bd];clear Bd;generalize w6.setCell ⟨gs+1,3,none⟩ (.string (yX [61,61]))=w7 at *;have b1:w7.cell? ⟨g,1,none⟩=some (.int .i64 (k:Int)):=AD.out.blk.cell 1;have c3:w7.cell? ⟨gs+1,3,none⟩=some (.string (yX [61,61])):=AO.out.cell 3
  have AY:(yX [61,61]).size=2:=by simp[yX,ByteArray.size]
  obtain⟨en,AN⟩:∃en,Hid (k+2=en):=⟨_,yD rfl⟩;apply xE 10 (by kernel_rfl) (by kernel_rfl) (by kernel_rfl);dsimp only[List.take_succ_cons,List.take_zero,List.drop_succ_cons,List.drop_zero];apply sQ (.pointer (some ⟨g,0,none⟩));apply sQ (.pointer (some ⟨g,0,none⟩));apply sQ (.pointer (some ⟨g,1,none⟩));apply sL b1 AV (.int .i64 (k:Int));apply sQ (.pointer (some ⟨gs+1,3,none⟩));apply sL c3 AT (.string (yX [61,61]));apply xA (.int .i64 2) rfl rfl rfl
  ·intro w' AA hH;clear hH;simp[yY,go_sem,AY]
   try exact Ext.refl _
  apply xA (.int .i64 (en:Int)) rfl rfl rfl
  ·intro w' AA hH;clear hH;have Bn:=AN.out;have AQ:IntKind.i64.wrap ((k:Int)+2)=(k:Int)+2:=IntWalk.i64_in _ (by omega);simp[yY,go_sem,AQ]
   try exact⟨by omega,Ext.refl _⟩
  apply sQ (.pointer (some ⟨g,0,none⟩));apply sQ (.pointer (some ⟨g,1,none⟩));apply vA;intro w8 AE hH;clear hH;(try simp only[Act.put,yA,yC,yB]);refine zAG rfl 3 (.tmp 84) (.tmp 82) rfl g 1 (by kernel_rfl) (.int .i64 (en:Int)) (by kernel_rfl) 65 _ (AD.out.ext AE).blk (by show 1<2; decide) rfl rfl (fun w=>by kernel_rfl) ?_;intro w9 AJ Aq;have AK:Blk w9 g 65 #[.slice (some ⟨b,AB,none⟩) l.length c,.int .i64 (en:Int)]:=Aq;have AC:=yD (AJ.blk (AO.out.ext AE) AP);have Aw:=yD (AJ.blk (Ag.out.ext AE) A1);have Ao:=yD ((Ax.out.trans (Mod.ZZ AE g)).trans (Mod.zFU AJ));have AM:Hid (Rd w9 g (some ⟨b,AB,none⟩) l c en):=yD ⟨AK,AJ.cells (AD.out.src.ext AE) (AD.out.far (by omega)),AD.out.far,(by have h:=HP.out; rw[←AN.out]; simp only[zF,zE,List.length_drop] at h; have:=h.1; simp at this; omega),AD.out.cap,AD.out.zJZ,AD.out.big⟩;clear AE Aq AK AJ AO Ag Ax AD b1 c3;have A9:gs+1<w9.heap.size:=AC.out.lt;have BJ:g<w9.heap.size:=AM.out.blk.lt;have a1:w9.cell? ⟨g,1,none⟩=some (.int .i64 (en:Int)):=AM.out.blk.cell 1;have t0:=AC.out.cell 0;have t1:=AC.out.cell 1;have t2:=AC.out.cell 2;have t3:=AC.out.cell 3;have t4:=AC.out.cell 4;have f2:=AC.out.frozen 2;have f3:=AC.out.frozen 3;have f4:=AC.out.frozen 4
  go_upto_region 18 with fail
  have A8:Hid (Blk ((w9).setCell ⟨gs+1,2,none⟩ (.int .i64 (en:Int))) (gs+1) 29 #[.int .u8 3,.int .i64 (k:Int),.int .i64 (en:Int),.string (yX [61,61]),.int .i64 0]):=yD (AC.out.put 2 _);have BH:Hid (Blk ((w9).setCell ⟨gs+1,2,none⟩ (.int .i64 (en:Int))) gs 29 #[.int .u8 0,.int .i64 0,.int .i64 0,.string ⟨#[]⟩,.int .i64 0]):=yD (Aw.out.far (by simp) _);have BC:Hid (Mod g w ((w9).setCell ⟨gs+1,2,none⟩ (.int .i64 (en:Int)))):=yD (Ao.out.far (by rw[AU.out]; omega) 2 _);have BA:Hid (Rd ((w9).setCell ⟨gs+1,2,none⟩ (.int .i64 (en:Int))) g (some ⟨b,AB,none⟩) l c en):=yD (AM.out.XZ AP (XH AF) 2 _);clear AC Aw Ao AM;generalize (w9).setCell ⟨gs+1,2,none⟩ (.int .i64 (en:Int))=w5 at *
  go_wp2_with (first
   | refine zBj rfl 29 (.tmp 4) rfl (gs+1) rfl 29 _ _ A8.out Tryz.underlying29 rfl (by kernel_rfl) ?_
   | (refine vJ rfl 29 (.tmp 2) (.tmp 90) rfl gs _ rfl rfl 29 _ BH.out (by kernel_rfl) rfl rfl ?_; intro w6 An AG))
  have z0:=AG.cell 0;have z1:=AG.cell 1;have z2:=AG.cell 2;have z3:=AG.cell 3;have z4:=AG.cell 4;refine bodyPost_ret (v:=.tuple #[zD1 3 k en [61,61] 0,.int .i64 0]) (by simp[results,Tryz.results32,go_sem,z0,z1,z2,z3,z4,zD1,zC7]) rfl ?_;have BI:=BC.out.YD An (by rw[AU.out]; exact zU _);have BF:=BA.out.YD An A1 (XH (by omega));have Ad:=HP.out;simp only[zF,zE,zN] at Ad;have AX:(l.drop k).take 2=[61,61]:=Ad.2;refine⟨BI,.inl ⟨3,2,0,?_,zIL AN.out.symm AX.symm,by rw[AN.out]; exact BF⟩⟩;rw[A0.out] at AX;rw[AR.out,zSz BM.out BP.out A7.out]
  cases hd:l.drop (k+1) with
  | nil=>rw[hd] at AX; cases AX
  | cons y r'=>
   rw[hd] at AX;simp only[List.take_succ_cons,List.take_zero,List.cons.injEq] at AX;obtain⟨rfl,rfl,_⟩:=AX
   rfl
 | false=>
  have AO:=AW;have Ag:=Az;have Ax:=AL;have AD:=AI
  go_upto_region 16 with fail
  clear AW Az AL AI;have AT:=A3;have AV:=BE;generalize w6=w7 at *;have b1:w7.cell? ⟨g,1,none⟩=some (.int .i64 (k:Int)):=AD.out.blk.cell 1;have c3:w7.cell? ⟨gs+1,3,none⟩=some (.string (yX [x])):=AO.out.cell 3
  have AY:(yX [x]).size=1:=by simp[yX,ByteArray.size]
  obtain⟨en,AN⟩:∃en,Hid (k+1=en):=⟨_,yD rfl⟩;apply xE 10 (by kernel_rfl) (by kernel_rfl) (by kernel_rfl);dsimp only[List.take_succ_cons,List.take_zero,List.drop_succ_cons,List.drop_zero];apply sQ (.pointer (some ⟨g,0,none⟩));apply sQ (.pointer (some ⟨g,0,none⟩));apply sQ (.pointer (some ⟨g,1,none⟩));apply sL b1 AV (.int .i64 (k:Int));apply sQ (.pointer (some ⟨gs+1,3,none⟩));apply sL c3 AT (.string (yX [x]));apply xA (.int .i64 1) rfl rfl rfl
  ·intro w' AA hH;clear hH;simp[yY,go_sem,AY]
   try exact Ext.refl _
  apply xA (.int .i64 (en:Int)) rfl rfl rfl
  ·intro w' AA hH;clear hH;have Bn:=AN.out;have AQ:IntKind.i64.wrap ((k:Int)+1)=(k:Int)+1:=IntWalk.i64_in _ (by omega);simp[yY,go_sem,AQ]
   try exact⟨by omega,Ext.refl _⟩
  apply sQ (.pointer (some ⟨g,0,none⟩));apply sQ (.pointer (some ⟨g,1,none⟩));apply vA;intro w8 AE hH;clear hH;(try simp only[Act.put,yA,yC,yB]);refine zAG rfl 3 (.tmp 84) (.tmp 82) rfl g 1 (by kernel_rfl) (.int .i64 (en:Int)) (by kernel_rfl) 65 _ (AD.out.ext AE).blk (by show 1<2; decide) rfl rfl (fun w=>by kernel_rfl) ?_;intro w9 AJ Aq;have AK:Blk w9 g 65 #[.slice (some ⟨b,AB,none⟩) l.length c,.int .i64 (en:Int)]:=Aq;have AC:=yD (AJ.blk (AO.out.ext AE) AP);have Aw:=yD (AJ.blk (Ag.out.ext AE) A1);have Ao:=yD ((Ax.out.trans (Mod.ZZ AE g)).trans (Mod.zFU AJ));have AM:Hid (Rd w9 g (some ⟨b,AB,none⟩) l c en):=yD ⟨AK,AJ.cells (AD.out.src.ext AE) (AD.out.far (by omega)),AD.out.far,(by rw[←AN.out]; omega),AD.out.cap,AD.out.zJZ,AD.out.big⟩;clear AE Aq AK AJ AO Ag Ax AD b1 c3;have A9:gs+1<w9.heap.size:=AC.out.lt;have BJ:g<w9.heap.size:=AM.out.blk.lt;have a1:w9.cell? ⟨g,1,none⟩=some (.int .i64 (en:Int)):=AM.out.blk.cell 1;have t0:=AC.out.cell 0;have t1:=AC.out.cell 1;have t2:=AC.out.cell 2;have t3:=AC.out.cell 3;have t4:=AC.out.cell 4;have f2:=AC.out.frozen 2;have f3:=AC.out.frozen 3;have f4:=AC.out.frozen 4
  go_upto_region 18 with fail
  have A8:Hid (Blk ((w9).setCell ⟨gs+1,2,none⟩ (.int .i64 (en:Int))) (gs+1) 29 #[.int .u8 3,.int .i64 (k:Int),.int .i64 (en:Int),.string (yX [x]),.int .i64 0]):=yD (AC.out.put 2 _);have BH:Hid (Blk ((w9).setCell ⟨gs+1,2,none⟩ (.int .i64 (en:Int))) gs 29 #[.int .u8 0,.int .i64 0,.int .i64 0,.string ⟨#[]⟩,.int .i64 0]):=yD (Aw.out.far (by simp) _);have BC:Hid (Mod g w ((w9).setCell ⟨gs+1,2,none⟩ (.int .i64 (en:Int)))):=yD (Ao.out.far (by rw[AU.out]; omega) 2 _);have BA:Hid (Rd ((w9).setCell ⟨gs+1,2,none⟩ (.int .i64 (en:Int))) g (some ⟨b,AB,none⟩) l c en):=yD (AM.out.XZ AP (XH AF) 2 _);clear AC Aw Ao AM;generalize (w9).setCell ⟨gs+1,2,none⟩ (.int .i64 (en:Int))=w5 at *
  go_wp2_with (first
   | refine zBj rfl 29 (.tmp 4) rfl (gs+1) rfl 29 _ _ A8.out Tryz.underlying29 rfl (by kernel_rfl) ?_
   | (refine vJ rfl 29 (.tmp 2) (.tmp 90) rfl gs _ rfl rfl 29 _ BH.out (by kernel_rfl) rfl rfl ?_; intro w6 An AG))
  have z0:=AG.cell 0;have z1:=AG.cell 1;have z2:=AG.cell 2;have z3:=AG.cell 3;have z4:=AG.cell 4;refine bodyPost_ret (v:=.tuple #[zD1 3 k en [x] 0,.int .i64 0]) (by simp[results,Tryz.results32,go_sem,z0,z1,z2,z3,z4,zD1,zC7]) rfl ?_;have BI:=BC.out.YD An (by rw[AU.out]; exact zU _);have BF:=BA.out.YD An A1 (XH (by omega));have Ad:=HP.out;refine⟨BI,.inl ⟨3,1,0,?_,zIL AN.out.symm (by rw[A0.out]; rfl),by rw[AN.out]; exact BF⟩⟩;rw[AR.out,zSz BM.out BP.out A7.out];rw[A0.out] at Ad;refine if_neg ?_;intro hc;simp only[zF,zN] at hc;obtain⟨rfl,h2⟩:=hc
  cases hd:l.drop (k+1) with
  | nil=>rw[hd] at h2; cases h2
  | cons y r'=>
   rw[hd] at h2 Ad;injection h2 with h2;subst h2
   simp at Ad
theorem zQT (g:Nat)(A:Option Addr)(l:Bs)(c k:Nat)(w:World)(hr:Rd w g A l c k)(hlt:k<l.length)(hb:YF l[k]=false)(hh:(l[k]==35)=false)(hkd:JD l[k]=0) :
  Calls Tryz.prog 32 #[.pointer (some ⟨g,0,none⟩)] w (zEg g A l c k w):=by
 have As:=hr.big;have Aw:=hr.le;have Ao:=hr.cap;have AD:=hr.blk.lt;have HR:=yD hr;have AE:Hid (step (l.drop k)=XM l[k] (l.drop (k+1))):=yD (by rw[List.drop_eq_getElem_cons hlt]; rfl);have b1:w.cell? ⟨g,1,none⟩=some (.int .i64 (k:Int)):=hr.blk.cell 1;have Av:=yD (List.drop_eq_getElem_cons hlt);obtain⟨b,AB,hA,Az,Aj,AK⟩:=hr.byte (by omega);have AV:=yD (AK k hlt)
 have q0:(k:Int)<(l.length:Int):=by omega
 have HB:=yD AK
 have Ai:=yD hb;have Am:=yD hh;have AZ:=yD hkd;clear hr AK hb hh hkd;generalize l[k]=x at *;subst hA;have AW:Hid (Blk ((w.alloc (.cells #[.int .u8 0,.int .i64 0,.int .i64 0,.string ⟨#[]⟩,.int .i64 0] 29)).alloc (.cells #[.int .u8 0,.int .i64 (k:Int),.int .i64 0,.string ⟨#[]⟩,.int .i64 0] 29)) (w.heap.size+1) 29 #[.int .u8 0,.int .i64 (k:Int),.int .i64 0,.string ⟨#[]⟩,.int .i64 0]):=yD (Blk.newAt (by simp));have AS:Hid (Blk ((w.alloc (.cells #[.int .u8 0,.int .i64 0,.int .i64 0,.string ⟨#[]⟩,.int .i64 0] 29)).alloc (.cells #[.int .u8 0,.int .i64 (k:Int),.int .i64 0,.string ⟨#[]⟩,.int .i64 0] 29)) w.heap.size 29 #[.int .u8 0,.int .i64 0,.int .i64 0,.string ⟨#[]⟩,.int .i64 0]):=yD ((Blk.new _ _ _).alloc _);have AY:Hid (Mod g w ((w.alloc (.cells #[.int .u8 0,.int .i64 0,.int .i64 0,.string ⟨#[]⟩,.int .i64 0] 29)).alloc (.cells #[.int .u8 0,.int .i64 (k:Int),.int .i64 0,.string ⟨#[]⟩,.int .i64 0] 29))):=yD (((Mod.refl g w).alloc _).alloc _);have AF:Hid (Rd ((w.alloc (.cells #[.int .u8 0,.int .i64 0,.int .i64 0,.string ⟨#[]⟩,.int .i64 0] 29)).alloc (.cells #[.int .u8 0,.int .i64 (k:Int),.int .i64 0,.string ⟨#[]⟩,.int .i64 0] 29)) g (some ⟨b,AB,none⟩) l c k):=yD ⟨(HR.out.blk.alloc _).alloc _,HR.out.src.ext ((Ext.alloc _ _).trans (Ext.alloc _ _)),HR.out.far,HR.out.le,HR.out.cap,HR.out.zJZ,HR.out.big⟩
 have AU:Hid (((w.alloc (.cells #[.int .u8 0,.int .i64 0,.int .i64 0,.string ⟨#[]⟩,.int .i64 0] 29)).alloc (.cells #[.int .u8 0,.int .i64 (k:Int),.int .i64 0,.string ⟨#[]⟩,.int .i64 0] 29)).cell? ⟨b,AB+k,none⟩=some (.int .u8 (x.toNat:Int))):=yD ((((Ext.alloc _ _).trans (Ext.alloc _ _)).cell (p:=⟨b,AB+k,none⟩) Aj).trans AV.out)
 have AM:w.heap.size+1<((w.alloc (.cells #[.int .u8 0,.int .i64 0,.int .i64 0,.string ⟨#[]⟩,.int .i64 0] 29)).alloc (.cells #[.int .u8 0,.int .i64 (k:Int),.int .i64 0,.string ⟨#[]⟩,.int .i64 0] 29)).heap.size:=by simp
 go_enter Tryz.func32,Tryz.ntmps32
 go_upto_region 4 with fail
 clear b1 AV HR HB;generalize hw1:((w.alloc (.cells #[.int .u8 0,.int .i64 0,.int .i64 0,.string ⟨#[]⟩,.int .i64 0] 29)).alloc (.cells #[.int .u8 0,.int .i64 (k:Int),.int .i64 0,.string ⟨#[]⟩,.int .i64 0] 29))=w1 at *
 have AO:w.heap.size+1≠g:=by omega
 have Ar:w.heap.size≠g:=by omega
 have Ad:=yD hw1;clear hw1 AD
 have AI:b<w1.heap.size:=by omega
 have AP:Hid (w.heap.size≤w.heap.size):=yD (zU _);generalize hgs:w.heap.size=gs at *;have AL:=yD hgs;clear hgs;have b0:w1.cell? ⟨g,0,none⟩=some (.slice (some ⟨b,AB,none⟩) l.length c):=AF.out.blk.cell 0;have b1:w1.cell? ⟨g,1,none⟩=some (.int .i64 (k:Int)):=AF.out.blk.cell 1;have AD:g<w1.heap.size:=AF.out.blk.lt;have e0:=AU.out;apply xE 13 (by kernel_rfl) (by kernel_rfl) (by kernel_rfl);dsimp only[List.take_succ_cons,List.take_zero,List.drop_succ_cons,List.drop_zero];apply sP q0 (.func (.func 69) #[] #[]);apply sP q0 (.pointer (some ⟨g,0,none⟩));apply sP q0 (.pointer (some ⟨g,0,none⟩));apply sP q0 (.pointer (some ⟨g,0,none⟩));apply sR b0 AD q0 (.slice (some ⟨b,AB,none⟩) l.length c);apply sP q0 (.pointer (some ⟨g,0,none⟩));apply sP q0 (.pointer (some ⟨g,0,none⟩));apply sP q0 (.pointer (some ⟨g,1,none⟩));apply sR b1 AD q0 (.int .i64 (k:Int));apply sP q0 (.pointer (some ⟨b,AB+k,none⟩));apply sR e0 AI q0 (.int .u8 (x.toNat:Int));apply xA (.int .u8 0) rfl rfl rfl
 ·intro w' Ay hH;clear hH;simp[yY,go_sem];refine(zGc x w').mono ?_;rintro e w2 ⟨rfl,hx⟩;exact⟨_,rfl,by rw[AZ.out]; rfl,hx⟩
 apply sP q0 (.pointer (some ⟨gs+1,0,none⟩));apply vA;intro w2 AG hH;clear hH;(try simp only[Act.put,yA,yC,yB]);refine zAG rfl 5 (.tmp 24) (.tmp 23) rfl (gs+1) 0 (by kernel_rfl) (.int .u8 0) (by kernel_rfl) 29 _ (AW.out.ext AG) (Nat.zero_lt_succ _) rfl rfl zCS ?_;intro w3 AJ Aa;have AC:Blk w3 (gs+1) 29 #[.int .u8 0,.int .i64 (k:Int),.int .i64 0,.string ⟨#[]⟩,.int .i64 0]:=Aa;have AA:=yD AC;have Af:=yD (AJ.blk (AS.out.ext AG) (by omega));have Ak:=yD ((AY.out.trans (Mod.ZZ AG g)).YD AJ (by rw[AL.out]; omega));have AQ:=yD ((AF.out.ext AG).YD AJ AO (XH (by omega)));have Al:gs+1<w3.heap.size:=AC.lt;have Aq:g<w3.heap.size:=AQ.out.blk.lt
 have AN:b≠gs+1:=by omega
 have Ag:g≠gs+1:=fun e=>AO e.symm;clear AG Aa AC AJ AW AS AY AF AU AM AP b0 b1 AD e0 AI;have t0:w3.cell? ⟨gs+1,0,none⟩=some (.int .u8 0):=AA.out.cell 0;have Ah:gs+1<w3.heap.size:=AA.out.lt;have a1:w3.cell? ⟨g,1,none⟩=some (.int .i64 (k:Int)):=AQ.out.blk.cell 1;clear t0;have t0:=AA.out.cell 0;have t1:=AA.out.cell 1;have t2:=AA.out.cell 2;have t3:=AA.out.cell 3;have t4:=AA.out.cell 4;have f2:=AA.out.frozen 2;have f3:=AA.out.frozen 3;have f4:=AA.out.frozen 4;have Ab:=AA;have Ac:=Af;have AT:=Ak;have AX:=AQ
 go_upto_region 18 with fail
 have An:Hid (Blk ((w3).setCell ⟨gs+1,2,none⟩ (.int .i64 (k:Int))) (gs+1) 29 #[.int .u8 0,.int .i64 (k:Int),.int .i64 (k:Int),.string ⟨#[]⟩,.int .i64 0]):=yD (Ab.out.put 2 _);have Ap:Hid (Blk ((w3).setCell ⟨gs+1,2,none⟩ (.int .i64 (k:Int))) gs 29 #[.int .u8 0,.int .i64 0,.int .i64 0,.string ⟨#[]⟩,.int .i64 0]):=yD (Ac.out.far (by simp) _);have Ae:Hid (Mod g w ((w3).setCell ⟨gs+1,2,none⟩ (.int .i64 (k:Int)))):=yD (AT.out.far (by rw[AL.out]; omega) 2 _);have Au:Hid (Rd ((w3).setCell ⟨gs+1,2,none⟩ (.int .i64 (k:Int))) g (some ⟨b,AB,none⟩) l c k):=yD (AX.out.XZ AO (XH AN) 2 _);clear Ab Ac AT AX;generalize (w3).setCell ⟨gs+1,2,none⟩ (.int .i64 (k:Int))=w5 at *
 go_wp2_with (first
  | refine zBj rfl 29 (.tmp 4) rfl (gs+1) rfl 29 _ _ An.out Tryz.underlying29 rfl (by kernel_rfl) ?_
  | (refine vJ rfl 29 (.tmp 2) (.tmp 90) rfl gs _ rfl rfl 29 _ Ap.out (by kernel_rfl) rfl rfl ?_; intro w6 AR AH))
 have z0:=AH.cell 0;have z1:=AH.cell 1;have z2:=AH.cell 2;have z3:=AH.cell 3;have z4:=AH.cell 4;refine bodyPost_ret (v:=.tuple #[zD1 0 k k [] 0,.int .i64 30]) (by simp[results,Tryz.results32,go_sem,z0,z1,z2,z3,z4,zD1,zC7]) rfl ?_;have At:=Ae.out.YD AR (by rw[AL.out]; exact zU _);have Ax:=Au.out.YD AR Ar (XH (by omega));refine⟨At,.inr ⟨30,0,k,[],0,?_,by decide,rfl⟩⟩;rw[AE.out,zWb Ai.out Am.out AZ.out]
theorem zSh (g:Nat)(A:Option Addr)(l:Bs)(c k:Nat)(w:World)(hr:Rd w g A l c k)(hlt:k<l.length)(hb:YF l[k]=false)(hh:(l[k]==35)=false) :
  Calls Tryz.prog 32 #[.pointer (some ⟨g,0,none⟩)] w (zEg g A l c k w):=by
 have h:JD l[k]=1∨JD l[k]=2∨JD l[k]=3∨JD l[k]=0:=by
  unfold JD
  split
  ·exact .inl rfl
  ·split
   ·exact .inr (.inl rfl)
   ·split
    ·exact .inr (.inr (.inl rfl))
    ·exact .inr (.inr (.inr rfl))
 rcases h with h | h | h | h
 ·exact zNL g A l c k w hr hlt hb hh h
 ·exact zON g A l c k w hr hlt hb hh h
 ·exact zQD g A l c k w hr hlt hb hh h
 ·exact zQT g A l c k w hr hlt hb hh h
end Go.Proofs.YtioffpjajhalaaaGreatDoor
