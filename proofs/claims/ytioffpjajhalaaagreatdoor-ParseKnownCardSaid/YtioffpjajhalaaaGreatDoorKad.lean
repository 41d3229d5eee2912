/- reader.next, walked. Condition: the reader's block is known whole, the source does not lie in it, and a byte is left. -/
import Derived.Test.YtioffpjajhalaaaGreatDoorKaa
import Derived.Test.YtioffpjajhalaaaGreatDoorKac
import Derived.StillTailTactics
import Derived.Deep.Cut
import Derived.IntWalk
set_option linter.unusedVariables false
set_option linter.unusedSimpArgs false
set_option maxRecDepth 100000
set_option maxHeartbeats 16000000
namespace Go.Proofs.YtioffpjajhalaaaGreatDoor
open Go Go.RowKit
theorem zAQ {P:Program}{ops:Array Oper}{rest:List Oper}{o:Oper}{a:Act}{w:World}{Q:Exit→Act→World→Prop}(hgd:o.guard=none)(ty:TypeId)(x y:Operand)(ho:o.op=.store ty x y)
  (g i:Nat) (hx:a.eval x=.pointer (some ⟨g,i,none⟩)) (v:Value) (hy:a.eval y=v) (t:TypeId) (cs:Array Value) (hg:Blk w g t cs) (hi:i<cs.size) (h1:v.oneCell'=true) (hv:v.cells=#[v]) (hsz:∀w,(Go.sizeOf ty).run P w=.ok 1 w)
  (h:∀w',Touch g w w'→Blk w' g t (cs.setIfInBounds i v)→wpList P ops Q rest (a.put o.dst undef) w'):wpList P ops Q (o::rest) a w:=by
 have hc:w.cell? ⟨g,i,none⟩=some cs[i]:=by rw[hg.cell]; simp[hi]
 have hf:=hg.frozen i
 have AA:(storeVar ty ⟨g,i,none⟩ v).run P w=.ok () (w.setCell ⟨g,i,none⟩ v):=by
  simp[storeVar,hv,hsz,storeCells,Addr.add,Result.andThen];rw[run_store P w _ _ _ h1];simp[hc,hf]
 refine wpList_plain hgd fun K hK=>?_;unfold Oper.wp execOp;simp only[ho,hx,hy,Instr.storeAt,Instr.sureAddr,Sem.run_bind,Sem.run_pure,AA,Result.andThen_ok];refine hK _ _ (h (w.setCell ⟨g,i,none⟩ v) ⟨rfl,rfl,rfl,by simp[World.setCell],fun k hk=>zQ _ _ _ _ hk⟩ (hg.put i v))
theorem Blk.newAt {w:World}{o:Obj}{t:TypeId}{cs:Array Value}{g:Nat}(hg:(w.alloc o).heap.size=g):Blk ((w.alloc o).alloc (.cells cs t)) g t cs:=by subst hg; exact Blk.new _ _ _
def zEq (kd at_ en:Nat)(x:Bs)(n:Int):Value:=.agg #[.int .u8 (kd:Int),.int .i64 (at_:Int),.int .i64 (en:Int),.string (xE x),.int .i64 n]
theorem zQT:zAD ⟨#[97,98,99,100,101,102,103,104,105,106,107,108,109,110,111,112,113,114,115,116,117,118,119,120,121,122,48,49,50,51,52,53,54,55,56,57,95]⟩ JR:=by unfold zAD; decide +kernel
theorem zNV:zAD ⟨#[48,49,50,51,52,53,54,55,56,57]⟩ vN:=zFM
theorem Mod.ZE {g b:Nat}{w w' w'':World}(h:Mod g w w')(t:Touch b w' w'')(hb:w.heap.size≤b):Mod g w w'':=
 ⟨t.os.trans h.os,t.tape.trans h.tape,t.output.trans h.output,by rw[t.size]; exact h.size,fun k hk hg=>(t.other k (by omega)).trans (h.other k hk hg)⟩
theorem Rd.ZE {w w':World}{g b:Nat}{A:Option Addr}{l:Bs}{c k:Nat}(h:Rd w g A l c k)(t:Touch b w w')(hb:b≠g)(ha:∀b' off,A=some ⟨b',off,none⟩→b'≠b):Rd w' g A l c k:=
 ⟨t.blk h.blk (Ne.symm hb),t.cells h.src ha,h.far,h.le,h.cap,h.zJ9,h.big⟩
theorem Rd.ext {w w':World}{g:Nat}{A:Option Addr}{l:Bs}{c k:Nat}(h:Rd w g A l c k)(t:Ext w w'):Rd w' g A l c k:=
 ⟨h.blk.ext t,h.src.ext t,h.far,h.le,h.cap,h.zJ9,h.big⟩
theorem Rd.JQ {w:World}{g b:Nat}{A:Option Addr}{l:Bs}{c k:Nat}(h:Rd w g A l c k)(hb:b≠g)(ha:∀b' off,A=some ⟨b',off,none⟩→b'≠b)(i:Nat)(v:Value):Rd (w.setCell ⟨b,i,none⟩ v) g A l c k:=
 h.ZE ⟨rfl,rfl,rfl,by simp[World.setCell],fun k hk=>zQ _ _ _ _ hk⟩ hb ha
theorem zPt (g:Nat)(A:Option Addr)(l:Bs)(c k:Nat)(s:ByteArray)(p:UInt8→Bool)(hs:zAD s p)(w:World)(hr:Rd w g A l c k)(u:Bs)(hu:Hid ((l.drop k).takeWhile p=u))(en:Nat)(hen:Hid (k+u.length=en)) :
  Calls Tryz.prog 67 #[.pointer (some ⟨g,0,none⟩),.string s] w fun e w'=>e=.returned (.string (xE u))∧Mod g w w'∧Rd w' g A l c en:=by
 have h:=zFn g A l c k s p hs w hr;rw[hu.out,hen.out] at h;exact h
theorem XY {b off g:Nat}(h:b≠g):∀b' AA,(some (⟨b,off,none⟩:Addr))=some ⟨b',AA,none⟩→b'≠g:=by
 intro b' AA e;injection e with e;injection e with e1;subst e1;exact h
theorem zIZ {kd k en en':Nat}{x x':Bs}{n er:Int}(h1:en=en')(h2:x=x'):Ending.returned (.tuple #[zEq kd k en x n,.int .i64 er])=.returned (.tuple #[zEq kd k en' x' n,.int .i64 er]):=by rw[h1,h2]
theorem zUt {x:UInt8}(h:JV x=1):ZO x=true:=by
 unfold JV at h; split at h
 ·assumption
 ·split at h
  ·omega
  ·split at h <;> omega
theorem zUo {x:UInt8}(h:JV x=2):ZO x=false∧vN x=true:=by
 unfold JV at h; split at h
 ·omega
 ·rename_i h1
  split at h
  ·rename_i h2; exact⟨by simpa using h1,h2⟩
  ·split at h <;> omega
theorem zUD {x:UInt8}(h:JV x=3):ZO x=false∧vN x=false∧zFw x=true:=by
 unfold JV at h; split at h
 ·omega
 ·rename_i h1
  split at h
  ·omega
  ·rename_i h2
   split at h
   ·rename_i h3; exact⟨by simpa using h1,by simpa using h2,h3⟩
   ·omega
theorem zUE {x:UInt8}(h:JV x=0):ZO x=false∧vN x=false∧zFw x=false:=by
 unfold JV at h; split at h
 ·omega
 ·rename_i h1
  split at h
  ·omega
  ·rename_i h2
   split at h
   ·omega
   ·rename_i h3; exact⟨by simpa using h1,by simpa using h2,by simpa using h3⟩
theorem zUC {x:UInt8}{r:Bs}(hb:ZV x=false)(hh:(x==35)=false)(hk:JV x=1):jS x r=.tok 1 ((x::r).takeWhile JR).length 0:=by
 have h:=zUt hk
 have hw:JR x=true:=by unfold JR; rw[h]; rfl
 unfold jS;rw[hb,hh,h,List.takeWhile_cons,hw];simp[Nat.add_comm]
theorem zR4 {x:UInt8}{r:Bs}(hb:ZV x=false)(hh:(x==35)=false)(hk:JV x=2):jS x r=match zBQ 0 ((x::r).takeWhile vN) with | none=>.bad 31 | some n=>.tok 2 ((x::r).takeWhile vN).length n:=by
 obtain⟨h1,h2⟩:=zUo hk;unfold jS zDb;rw[hb,hh,h1,h2,List.takeWhile_cons,h2];simp only[Bool.false_eq_true,if_false,if_true,zJ];rw[Nat.add_comm]
 cases zBQ 0 (x::r.takeWhile vN) <;> rfl
theorem zRY {x:UInt8}{r:Bs}(hb:ZV x=false)(hh:(x==35)=false)(hk:JV x=3):jS x r=if x==61&&r.head?==some 61 then .tok 3 2 0 else .tok 3 1 0:=by
 obtain⟨h1,h2,h3⟩:=zUD hk;unfold jS;rw[hb,hh,h1,h2,h3]
 simp
theorem zUz {x:UInt8}{r:Bs}(hb:ZV x=false)(hh:(x==35)=false)(hk:JV x=0):jS x r=.bad 30:=by
 obtain⟨h1,h2,h3⟩:=zUE hk
 have AA:(x==61)=false:=by
  rw[yG];intro e;subst e
  revert h3
  decide
 unfold jS;rw[hb,hh,h1,h2,h3,AA]
 rfl
def zCp (N:Nat)(Fs:List (Value→World→Prop))(w w':World):Prop:=Below N w w'∧N≤w.heap.size∧∀F ∈ Fs,∀v,F v w→F v w'
theorem zCp.trans {N:Nat}{Fs:List (Value→World→Prop)}(a b c:World)(h:zCp N Fs a b)(k:zCp N Fs b c):zCp N Fs a c:=⟨h.1.trans k.1,h.2.1,fun F hF v hv=>k.2.2 F hF v (h.2.2 F hF v hv)⟩
theorem zCp.ext {N:Nat}{Fs:List (Value→World→Prop)}{w w':World}(hE:∀F ∈ Fs,∀v w w',F v w→Ext w w'→F v w')(hN:N≤w.heap.size)(h:Ext w w'):zCp N Fs w w':=⟨Below.mono h hN,hN,fun F hF v hv=>hE F hF v _ _ hv h⟩
theorem zLH {P:Program}{id:Nat}{Q':Exit→Act→World→Prop}{a:Act}{w:World}{l:List Oper}{ks:List Take}(N:Nat)(Fs:List (Value→World→Prop))(m:Nat)(hm:P.follows .mixedOrders=true)(hB:zAr l.toArray m=true)(hT:zDE l.toArray m=true)
  (hE:∀F ∈ Fs,∀v w w',F v w→Ext w w'→F v w') (hN:N≤w.heap.size)
  (h:XJ P l.toArray (zCp N Fs) w (fun a' w'=>wpList P l.toArray Q' (l.drop m) a' w') (l.take m) ks a []):(Code.region id l.toArray true).wp P Q' a w:=
 zCk (R:=zCp N Fs) m ks hm hB hT (fun _ _ _=>zCp.trans _ _ _) (zCp.ext hE hN (Below.drew (Below.refl _ _))) h
theorem JL {N:Nat}{Fs:List (Value→World→Prop)}{w0 w:World}(h:zCp N Fs w0 w):zCp N Fs w w:=⟨Below.refl _ _,Nat.le_trans h.2.1 h.1.size,fun F hF v hv=>hv⟩
theorem zHa {N:Nat}{Fs:List (Value→World→Prop)}{w0 w:World}(h:zCp N Fs w0 w):N≤w.heap.size:=Nat.le_trans h.2.1 h.1.size
def zBm (N:Nat)(v:Value)(w:World):Prop:=∃(g:Nat) (fr:Nat × Nat),v=.slice (some ⟨g,0,none⟩) 2 2∧N≤g∧w.heap[g]?=some (.cells #[.int .u8 61,.int .u8 61] 5 fr)
theorem zBm.ext (N:Nat):∀F ∈ [zBm N],∀v w w',F v w→Ext w w'→F v w':=by
 intro F hF v w w' h hx;rw[yL] at hF;subst hF;obtain⟨g,fr,h1,h2,h3⟩:=h;exact⟨g,fr,h1,h2,(hx.block g (Array.getElem?_eq_some_iff.1 h3).1).trans h3⟩
theorem zBm.mono {N:Nat}(v:Value)(w w':World)(h:zBm N v w)(hx:zCp N [zBm N] w w'):zBm N v w':=hx.2.2 _ (List.mem_singleton.2 rfl) v h
theorem zDh (w:World)(g i k:Nat)(h:k≠g):(w.freeze ⟨g,i,none⟩ 1).heap[k]?=w.heap[k]?:=by
 simp only[World.freeze];rw[if_neg (by omega)];simp only[Array.getElem?_modify];rw[if_neg (by omega)]
theorem zAq (w:World)(g i:Nat){cs:Array Value}{t:TypeId}{fr:Nat × Nat}(h:w.heap[g]?=some (.cells cs t fr)):∃fr',(w.freeze ⟨g,i,none⟩ 1).heap[g]?=some (.cells cs t fr'):=by
 simp only[World.freeze];rw[if_neg (by omega)];simp only[Array.getElem?_modify];simp[h]
theorem zLN {N g:Nat}{w:World}(hN:N≤w.heap.size)(hg:N≤g)(i:Nat):zCp N [zBm N] w (w.freeze ⟨g,i,none⟩ 1):=by
 refine⟨⟨rfl,rfl,rfl,by simp[World.freeze],fun k hk=>zDh w g i k (by omega)⟩,hN,fun F hF v h=>?_⟩;rw[yL] at hF;subst hF;obtain⟨g',fr,h1,h2,h3⟩:=h
 by_cases AA:g'=g
 ·subst AA;obtain⟨AB,h4⟩:=zAq w g' i h3;exact⟨g',AB,h1,h2,h4⟩
 ·exact⟨g',fr,h1,h2,(zDh w g i g' AA).trans h3⟩
theorem zBA {P:Program}(w:World)(t e:TypeId)(ht:P.underlying t=some (.slice e))(he:P.underlying e=some (.int .u8))(g n c:Nat){cs:Array Value}{fr:Nat × Nat}{e':TypeId}(h:w.heap[g]?=some (.cells cs e' fr)) :
  (convert t t (.slice (some ⟨g,0,none⟩) n c)).run P w=.ok (.slice (some ⟨g,0,none⟩) n c) (w.freeze ⟨g,cs.size,none⟩ 1):=by
 have AA:w.shape? g=some (e',cs.size):=by unfold World.shape?; rw[h]
 simp[convert,run_underlying ht,run_underlying he,markStringish,AA,Result.andThen]
theorem zSu {w:World}{g:Nat}{fr:Nat × Nat}(h:w.heap[g]?=some (.cells #[.int .u8 61,.int .u8 61] 5 fr)):Cells w (some ⟨g,0,none⟩) (xL [61,61]):=
 .inr ⟨g,0,rfl,(Array.getElem?_eq_some_iff.1 h).1,fun k hk=>by rw[Nat.zero_add,cell_of_row w g k _ _ fr h]; simp[xL]⟩
theorem zDw:xE []=⟨#[]⟩:=rfl
theorem zCx {b off c k:Nat}(h:k<c):zHd (some ⟨b,off,none⟩) c k=some ⟨b,off+k,none⟩:=by
 unfold zHd;rw[if_neg (by omega)];simp only[Option.map_some,Addr.add]
 split
 ·rename_i h0; subst h0; rfl
 ·rfl
theorem zME (A B:Option Addr)(a b:Bs)(n m c d:Nat)(w:World)(hn:n=a.length)(hm:m=b.length)(hc:n≤c)(hA:Cells w A (xL a))(hB:Cells w B (xL b))(t:Bool)(ht:Hid ((decide (b.length≤a.length)&&(a.take b.length==b))=t)) :
  Calls Tryz.prog 72 #[.slice A n c,.slice B m d] w fun e w'=>e=.returned (.bool t)∧w'=w:=by
 have h:=zKn A B a b n m c d w hn hm hc hA hB;rw[ht.out] at h;exact h
def zEA (g:Nat)(A:Option Addr)(l:Bs)(c k:Nat)(w:World)(e:Ending)(w':World):Prop:=
 Mod g w w'∧((∃kd j n,step (l.drop k)=.tok kd j n∧e=.returned (.tuple #[zEq kd k (k+j) ((l.drop k).take j) n,.int .i64 0])∧Rd w' g A l c (k+j)) ∨
    (∃er kd en x n,step (l.drop k)=.bad er∧er≠0∧e=.returned (.tuple #[zEq kd k en x n,.int .i64 er])))
theorem zNx (g:Nat)(A:Option Addr)(l:Bs)(c k:Nat)(w:World)(hr:Rd w g A l c k)(hlt:k<l.length)(hb:ZV l[k]=false)(hh:(l[k]==35)=false)(hkd:JV l[k]=1) :
  Calls Tryz.prog 32 #[.pointer (some ⟨g,0,none⟩)] w (zEA g A l c k w):=by
 have Au:=hr.big;have A7:=hr.le;have Ao:=hr.cap;have AG:=hr.blk.lt;have HR:=yE hr;have AI:Hid (step (l.drop k)=jS l[k] (l.drop (k+1))):=yE (by rw[List.drop_eq_getElem_cons hlt]; rfl);have b1:w.cell? ⟨g,1,none⟩=some (.int .i64 (k:Int)):=hr.blk.cell 1;have Ar:=yE (List.drop_eq_getElem_cons hlt);obtain⟨b,AB,hA,A6,A4,AQ⟩:=hr.byte (by omega);have AW:=yE (AQ k hlt)
 have q0:(k:Int)<(l.length:Int):=by omega
 have HB:=yE AQ
 have Av:=yE hb;have A3:=yE hh;have Ag:=yE hkd;clear hr AQ hb hh hkd;generalize l[k]=x at *;subst hA;have Ac:Hid (Blk ((w.alloc (.cells #[.int .u8 0,.int .i64 0,.int .i64 0,.string ⟨#[]⟩,.int .i64 0] 29)).alloc (.cells #[.int .u8 0,.int .i64 (k:Int),.int .i64 0,.string ⟨#[]⟩,.int .i64 0] 29)) (w.heap.size+1) 29 #[.int .u8 0,.int .i64 (k:Int),.int .i64 0,.string ⟨#[]⟩,.int .i64 0]):=yE (Blk.newAt (by simp));have Aa:Hid (Blk ((w.alloc (.cells #[.int .u8 0,.int .i64 0,.int .i64 0,.string ⟨#[]⟩,.int .i64 0] 29)).alloc (.cells #[.int .u8 0,.int .i64 (k:Int),.int .i64 0,.string ⟨#[]⟩,.int .i64 0] 29)) w.heap.size 29 #[.int .u8 0,.int .i64 0,.int .i64 0,.string ⟨#[]⟩,.int .i64 0]):=yE ((Blk.new _ _ _).alloc _);have AY:Hid (Mod g w ((w.alloc (.cells #[.int .u8 0,.int .i64 0,.int .i64 0,.string ⟨#[]⟩,.int .i64 0] 29)).alloc (.cells #[.int .u8 0,.int .i64 (k:Int),.int .i64 0,.string ⟨#[]⟩,.int .i64 0] 29))):=yE (((Mod.refl g w).alloc _).alloc _);have AJ:Hid (Rd ((w.alloc (.cells #[.int .u8 0,.int .i64 0,.int .i64 0,.string ⟨#[]⟩,.int .i64 0] 29)).alloc (.cells #[.int .u8 0,.int .i64 (k:Int),.int .i64 0,.string ⟨#[]⟩,.int .i64 0] 29)) g (some ⟨b,AB,none⟩) l c k):=yE ⟨(HR.out.blk.alloc _).alloc _,HR.out.src.ext ((Ext.alloc _ _).trans (Ext.alloc _ _)),HR.out.far,HR.out.le,HR.out.cap,HR.out.zJ9,HR.out.big⟩
 have Aj:Hid (((w.alloc (.cells #[.int .u8 0,.int .i64 0,.int .i64 0,.string ⟨#[]⟩,.int .i64 0] 29)).alloc (.cells #[.int .u8 0,.int .i64 (k:Int),.int .i64 0,.string ⟨#[]⟩,.int .i64 0] 29)).cell? ⟨b,AB+k,none⟩=some (.int .u8 (x.toNat:Int))):=yE ((((Ext.alloc _ _).trans (Ext.alloc _ _)).cell (p:=⟨b,AB+k,none⟩) A4).trans AW.out)
 have AT:w.heap.size+1<((w.alloc (.cells #[.int .u8 0,.int .i64 0,.int .i64 0,.string ⟨#[]⟩,.int .i64 0] 29)).alloc (.cells #[.int .u8 0,.int .i64 (k:Int),.int .i64 0,.string ⟨#[]⟩,.int .i64 0] 29)).heap.size:=by simp
 go_enter Tryz.func32,Tryz.ntmps32
 go_upto_region 4 with fail
 clear b1 AW HR HB;generalize hw1:((w.alloc (.cells #[.int .u8 0,.int .i64 0,.int .i64 0,.string ⟨#[]⟩,.int .i64 0] 29)).alloc (.cells #[.int .u8 0,.int .i64 (k:Int),.int .i64 0,.string ⟨#[]⟩,.int .i64 0] 29))=w1 at *
 have AD:w.heap.size+1≠g:=by omega
 have Ae:w.heap.size≠g:=by omega
 have Ax:=yE hw1;clear hw1 AG
 have AK:b<w1.heap.size:=by omega
 have AR:Hid (w.heap.size≤w.heap.size):=yE (zU _);generalize hgs:w.heap.size=gs at *;have AN:=yE hgs;clear hgs;have b0:w1.cell? ⟨g,0,none⟩=some (.slice (some ⟨b,AB,none⟩) l.length c):=AJ.out.blk.cell 0;have b1:w1.cell? ⟨g,1,none⟩=some (.int .i64 (k:Int)):=AJ.out.blk.cell 1;have AG:g<w1.heap.size:=AJ.out.blk.lt;have e0:=Aj.out;apply jJ 13 (by kernel_rfl) (by kernel_rfl) (by kernel_rfl);dsimp only[List.take_succ_cons,List.take_zero,List.drop_succ_cons,List.drop_zero];apply sP q0 (.func (.func 69) #[] #[]);apply sP q0 (.pointer (some ⟨g,0,none⟩));apply sP q0 (.pointer (some ⟨g,0,none⟩));apply sP q0 (.pointer (some ⟨g,0,none⟩));apply sR b0 AG q0 (.slice (some ⟨b,AB,none⟩) l.length c);apply sP q0 (.pointer (some ⟨g,0,none⟩));apply sP q0 (.pointer (some ⟨g,0,none⟩));apply sP q0 (.pointer (some ⟨g,1,none⟩));apply sR b1 AG q0 (.int .i64 (k:Int));apply sP q0 (.pointer (some ⟨b,AB+k,none⟩));apply sR e0 AK q0 (.int .u8 (x.toNat:Int));apply xN (.int .u8 1) rfl rfl rfl
 ·intro w' A5 hH;clear hH;simp[xH,go_sem];refine(zGD x w').mono ?_;rintro e w2 ⟨rfl,hx⟩;exact⟨_,rfl,by rw[Ag.out]; rfl,hx⟩
 apply sP q0 (.pointer (some ⟨gs+1,0,none⟩));apply ZQ;intro w2 AF hH;clear hH;(try simp only[Act.put,yB,yD,yC]);refine zAQ rfl 5 (.tmp 24) (.tmp 23) rfl (gs+1) 0 (by kernel_rfl) (.int .u8 1) (by kernel_rfl) 29 _ (Ac.out.ext AF) (Nat.zero_lt_succ _) rfl rfl zCt ?_;intro w3 AM AX;have AC:Blk w3 (gs+1) 29 #[.int .u8 1,.int .i64 (k:Int),.int .i64 0,.string ⟨#[]⟩,.int .i64 0]:=AX;have AO:=yE AC;have Ah:=yE (AM.blk (Aa.out.ext AF) (by omega));have AZ:=yE ((AY.out.trans (Mod.ZN AF g)).ZE AM (by rw[AN.out]; omega));have AU:=yE ((AJ.out.ext AF).ZE AM AD (XY (by omega)));have Ay:gs+1<w3.heap.size:=AC.lt;have An:g<w3.heap.size:=AU.out.blk.lt
 have AH:b≠gs+1:=by omega
 have As:g≠gs+1:=fun e=>AD e.symm;clear AF AX AC AM Ac Aa AY AJ Aj AT AR b0 b1 AG e0 AK;have t0:w3.cell? ⟨gs+1,0,none⟩=some (.int .u8 1):=AO.out.cell 0;obtain⟨u,HU⟩:∃u,Hid ((l.drop k).takeWhile JR=u):=⟨_,yE rfl⟩;obtain⟨en,AP⟩:∃en,Hid (k+u.length=en):=⟨_,yE rfl⟩
 go_wp2_with fail
 refine(zPt g _ l c k _ JR zQT w3 AU.out u HU en AP).mono ?_;rintro e w4 ⟨rfl,AL,Ai⟩;have AA:=yE (AL.blk AO.out AD);have A1:=yE (AL.blk Ah.out Ae);have At:=yE (AZ.out.trans AL);have AS:=yE Ai;have Al:gs+1<w4.heap.size:=AA.out.lt;have Az:g<w4.heap.size:=AS.out.blk.lt;have a1:w4.cell? ⟨g,1,none⟩=some (.int .i64 (en:Int)):=AS.out.blk.cell 1;clear AL Ai AO Ah AZ AU t0;have t0:=AA.out.cell 0;have t1:=AA.out.cell 1;have t2:=AA.out.cell 2;have t3:=AA.out.cell 3;have t4:=AA.out.cell 4;have f2:=AA.out.frozen 2;have f3:=AA.out.frozen 3;have f4:=AA.out.frozen 4;have Af:Hid (Blk (w4.setCell ⟨gs+1,3,none⟩ (.string (xE u))) (gs+1) 29 #[.int .u8 1,.int .i64 (k:Int),.int .i64 0,.string (xE u),.int .i64 0]):=yE (AA.out.put 3 _);have AV:=yE (A1.out.far (p:=⟨gs+1,3,none⟩) (by simp) (.string (xE u)));have Ad:=yE (At.out.far (b:=gs+1) (by rw[AN.out]; omega) 3 (.string (xE u)));have Ak:=yE (AS.out.JQ AD (XY AH) 3 (.string (xE u)))
 go_upto_region 18 with fail
 have A0:Hid (Blk ((w4.setCell ⟨gs+1,3,none⟩ (.string (xE u))).setCell ⟨gs+1,2,none⟩ (.int .i64 (en:Int))) (gs+1) 29 #[.int .u8 1,.int .i64 (k:Int),.int .i64 (en:Int),.string (xE u),.int .i64 0]):=yE (Af.out.put 2 _);have Aw:Hid (Blk ((w4.setCell ⟨gs+1,3,none⟩ (.string (xE u))).setCell ⟨gs+1,2,none⟩ (.int .i64 (en:Int))) gs 29 #[.int .u8 0,.int .i64 0,.int .i64 0,.string ⟨#[]⟩,.int .i64 0]):=yE (AV.out.far (by simp) _);have Am:Hid (Mod g w ((w4.setCell ⟨gs+1,3,none⟩ (.string (xE u))).setCell ⟨gs+1,2,none⟩ (.int .i64 (en:Int)))):=yE (Ad.out.far (by rw[AN.out]; omega) 2 _);have A2:Hid (Rd ((w4.setCell ⟨gs+1,3,none⟩ (.string (xE u))).setCell ⟨gs+1,2,none⟩ (.int .i64 (en:Int))) g (some ⟨b,AB,none⟩) l c en):=yE (Ak.out.JQ AD (XY AH) 2 _);clear Af AV Ad Ak;generalize (w4.setCell ⟨gs+1,3,none⟩ (.string (xE u))).setCell ⟨gs+1,2,none⟩ (.int .i64 (en:Int))=w5 at *
 go_wp2_with (first
  | refine zBr rfl 29 (.tmp 4) rfl (gs+1) rfl 29 _ _ A0.out Tryz.underlying29 rfl (by kernel_rfl) ?_
  | (refine vD rfl 29 (.tmp 2) (.tmp 90) rfl gs _ rfl rfl 29 _ Aw.out (by kernel_rfl) rfl rfl ?_; intro w6 Ab AE))
 have z0:=AE.cell 0;have z1:=AE.cell 1;have z2:=AE.cell 2;have z3:=AE.cell 3;have z4:=AE.cell 4;refine bodyPost_ret (v:=.tuple #[zEq 1 k en u 0,.int .i64 0]) (by simp[results,Tryz.results32,go_sem,z0,z1,z2,z3,z4,zEq,zDw]) rfl ?_;have Ap:=Am.out.ZE Ab (by rw[AN.out]; exact zU _);have Aq:=A2.out.ZE Ab Ae (XY (by omega));refine⟨Ap,.inl ⟨1,u.length,0,?_,zIZ AP.out.symm ?_,by rw[AP.out]; exact Aq⟩⟩
 ·rw[AI.out,zUC Av.out A3.out Ag.out,←Ar.out,HU.out]
 ·rw[←HU.out,zBI]
theorem zOo (g:Nat)(A:Option Addr)(l:Bs)(c k:Nat)(w:World)(hr:Rd w g A l c k)(hlt:k<l.length)(hb:ZV l[k]=false)(hh:(l[k]==35)=false)(hkd:JV l[k]=2) :
  Calls Tryz.prog 32 #[.pointer (some ⟨g,0,none⟩)] w (zEA g A l c k w):=by
 have BE:=hr.big;have BI:=hr.le;have BA:=hr.cap;have AL:=hr.blk.lt;have HR:=yE hr;have AF:Hid (step (l.drop k)=jS l[k] (l.drop (k+1))):=yE (by rw[List.drop_eq_getElem_cons hlt]; rfl);have b1:w.cell? ⟨g,1,none⟩=some (.int .i64 (k:Int)):=hr.blk.cell 1;have Ao:=yE (List.drop_eq_getElem_cons hlt);obtain⟨b,AD,hA,BK,BH,AZ⟩:=hr.byte (by omega);have Aw:=yE (AZ k hlt)
 have q0:(k:Int)<(l.length:Int):=by omega
 have HB:=yE AZ
 have Ar:=yE hb;have Au:=yE hh;have Ac:=yE hkd;clear hr AZ hb hh hkd;generalize l[k]=x at *;subst hA;have Ap:Hid (Blk ((w.alloc (.cells #[.int .u8 0,.int .i64 0,.int .i64 0,.string ⟨#[]⟩,.int .i64 0] 29)).alloc (.cells #[.int .u8 0,.int .i64 (k:Int),.int .i64 0,.string ⟨#[]⟩,.int .i64 0] 29)) (w.heap.size+1) 29 #[.int .u8 0,.int .i64 (k:Int),.int .i64 0,.string ⟨#[]⟩,.int .i64 0]):=yE (Blk.newAt (by simp));have A2:Hid (Blk ((w.alloc (.cells #[.int .u8 0,.int .i64 0,.int .i64 0,.string ⟨#[]⟩,.int .i64 0] 29)).alloc (.cells #[.int .u8 0,.int .i64 (k:Int),.int .i64 0,.string ⟨#[]⟩,.int .i64 0] 29)) w.heap.size 29 #[.int .u8 0,.int .i64 0,.int .i64 0,.string ⟨#[]⟩,.int .i64 0]):=yE ((Blk.new _ _ _).alloc _);have Al:Hid (Mod g w ((w.alloc (.cells #[.int .u8 0,.int .i64 0,.int .i64 0,.string ⟨#[]⟩,.int .i64 0] 29)).alloc (.cells #[.int .u8 0,.int .i64 (k:Int),.int .i64 0,.string ⟨#[]⟩,.int .i64 0] 29))):=yE (((Mod.refl g w).alloc _).alloc _);have AP:Hid (Rd ((w.alloc (.cells #[.int .u8 0,.int .i64 0,.int .i64 0,.string ⟨#[]⟩,.int .i64 0] 29)).alloc (.cells #[.int .u8 0,.int .i64 (k:Int),.int .i64 0,.string ⟨#[]⟩,.int .i64 0] 29)) g (some ⟨b,AD,none⟩) l c k):=yE ⟨(HR.out.blk.alloc _).alloc _,HR.out.src.ext ((Ext.alloc _ _).trans (Ext.alloc _ _)),HR.out.far,HR.out.le,HR.out.cap,HR.out.zJ9,HR.out.big⟩
 have At:Hid (((w.alloc (.cells #[.int .u8 0,.int .i64 0,.int .i64 0,.string ⟨#[]⟩,.int .i64 0] 29)).alloc (.cells #[.int .u8 0,.int .i64 (k:Int),.int .i64 0,.string ⟨#[]⟩,.int .i64 0] 29)).cell? ⟨b,AD+k,none⟩=some (.int .u8 (x.toNat:Int))):=yE ((((Ext.alloc _ _).trans (Ext.alloc _ _)).cell (p:=⟨b,AD+k,none⟩) BH).trans Aw.out)
 have Ah:w.heap.size+1<((w.alloc (.cells #[.int .u8 0,.int .i64 0,.int .i64 0,.string ⟨#[]⟩,.int .i64 0] 29)).alloc (.cells #[.int .u8 0,.int .i64 (k:Int),.int .i64 0,.string ⟨#[]⟩,.int .i64 0] 29)).heap.size:=by simp
 go_enter Tryz.func32,Tryz.ntmps32
 go_upto_region 4 with fail
 clear b1 Aw HR HB;generalize hw1:((w.alloc (.cells #[.int .u8 0,.int .i64 0,.int .i64 0,.string ⟨#[]⟩,.int .i64 0] 29)).alloc (.cells #[.int .u8 0,.int .i64 (k:Int),.int .i64 0,.string ⟨#[]⟩,.int .i64 0] 29))=w1 at *
 have AE:w.heap.size+1≠g:=by omega
 have Ab:w.heap.size≠g:=by omega
 have A9:=yE hw1;clear hw1 AL
 have AS:b<w1.heap.size:=by omega
 have Ag:Hid (w.heap.size≤w.heap.size):=yE (zU _);generalize hgs:w.heap.size=gs at *;have AG:=yE hgs;clear hgs;have b0:w1.cell? ⟨g,0,none⟩=some (.slice (some ⟨b,AD,none⟩) l.length c):=AP.out.blk.cell 0;have b1:w1.cell? ⟨g,1,none⟩=some (.int .i64 (k:Int)):=AP.out.blk.cell 1;have AL:g<w1.heap.size:=AP.out.blk.lt;have e0:=At.out;apply jJ 13 (by kernel_rfl) (by kernel_rfl) (by kernel_rfl);dsimp only[List.take_succ_cons,List.take_zero,List.drop_succ_cons,List.drop_zero];apply sP q0 (.func (.func 69) #[] #[]);apply sP q0 (.pointer (some ⟨g,0,none⟩));apply sP q0 (.pointer (some ⟨g,0,none⟩));apply sP q0 (.pointer (some ⟨g,0,none⟩));apply sR b0 AL q0 (.slice (some ⟨b,AD,none⟩) l.length c);apply sP q0 (.pointer (some ⟨g,0,none⟩));apply sP q0 (.pointer (some ⟨g,0,none⟩));apply sP q0 (.pointer (some ⟨g,1,none⟩));apply sR b1 AL q0 (.int .i64 (k:Int));apply sP q0 (.pointer (some ⟨b,AD+k,none⟩));apply sR e0 AS q0 (.int .u8 (x.toNat:Int));apply xN (.int .u8 2) rfl rfl rfl
 ·intro w' BJ hH;clear hH;simp[xH,go_sem];refine(zGD x w').mono ?_;rintro e w2 ⟨rfl,hx⟩;exact⟨_,rfl,by rw[Ac.out]; rfl,hx⟩
 apply sP q0 (.pointer (some ⟨gs+1,0,none⟩));apply ZQ;intro w2 AJ hH;clear hH;(try simp only[Act.put,yB,yD,yC]);refine zAQ rfl 5 (.tmp 24) (.tmp 23) rfl (gs+1) 0 (by kernel_rfl) (.int .u8 2) (by kernel_rfl) 29 _ (Ap.out.ext AJ) (Nat.zero_lt_succ _) rfl rfl zCt ?_;intro w3 AU A0;have AH:Blk w3 (gs+1) 29 #[.int .u8 2,.int .i64 (k:Int),.int .i64 0,.string ⟨#[]⟩,.int .i64 0]:=A0;have Af:=yE AH;have A3:=yE (AU.blk (A2.out.ext AJ) (by omega));have Am:=yE ((Al.out.trans (Mod.ZN AJ g)).ZE AU (by rw[AG.out]; omega));have Aj:=yE ((AP.out.ext AJ).ZE AU AE (XY (by omega)));have BF:gs+1<w3.heap.size:=AH.lt;have A7:g<w3.heap.size:=Aj.out.blk.lt
 have AB:b≠gs+1:=by omega
 have BC:g≠gs+1:=fun e=>AE e.symm;clear AJ A0 AH AU Ap A2 Al AP At Ah Ag b0 b1 AL e0 AS;have t0:w3.cell? ⟨gs+1,0,none⟩=some (.int .u8 2):=Af.out.cell 0;obtain⟨u,HU⟩:∃u,Hid ((l.drop k).takeWhile vN=u):=⟨_,yE rfl⟩;obtain⟨en,AY⟩:∃en,Hid (k+u.length=en):=⟨_,yE rfl⟩;obtain⟨r,Aa⟩:∃r,Hid (zBQ 0 u=r):=⟨_,yE rfl⟩;have BG:Hid (∀c ∈ u,vN c=true):=yE (by rw[←HU.out]; exact fun c hc=>by have:=zL0 (p:=vN) ((l.drop k).takeWhile vN) (by have h:=zDg (p:=vN) (l.drop k) _ (zU _); rw[zBI] at h; exact h) c hc; exact this)
 have BD:u.length≤140737488355328:=by
  have:=zHP vN (l.drop k)
  rw[HU.out,List.length_drop] at this;omega
 go_wp2_with fail
 refine(zPt g _ l c k _ vN zNV w3 Aj.out u HU en AY).mono ?_;rintro e w4 ⟨rfl,AV,As⟩;have AO:=yE (AV.blk Af.out AE);have A4:=yE (AV.blk A3.out Ab);have Aq:=yE (Am.out.trans AV);have A1:=yE As;have A6:gs+1<w4.heap.size:=AO.out.lt;clear AV As Af A3 Am Aj t0;have t3:=AO.out.cell 3;have f3:=AO.out.frozen 3;have Ay:Hid (Blk (w4.setCell ⟨gs+1,3,none⟩ (.string (xE u))) (gs+1) 29 #[.int .u8 2,.int .i64 (k:Int),.int .i64 0,.string (xE u),.int .i64 0]):=yE (AO.out.put 3 _);have A5:=yE (A4.out.far (p:=⟨gs+1,3,none⟩) (by simp) (.string (xE u)));have Ak:=yE (Aq.out.far (b:=gs+1) (by rw[AG.out]; omega) 3 (.string (xE u)));have Ax:=yE (A1.out.JQ AE (XY AB) 3 (.string (xE u)))
 go_wp2_with fail
 refine(zOq u BG.out BD _ r Aa).mono ?_;rintro e w5 ⟨rfl,AN⟩;have AA:=yE (Ay.out.ext AN);have Av:=yE (A5.out.ext AN);have Az:=yE (Ak.out.trans (Mod.ZN AN g));have AT:=yE (Ax.out.ext AN);have A8:gs+1<w5.heap.size:=AA.out.lt;have BB:g<w5.heap.size:=AT.out.blk.lt;have a1:w5.cell? ⟨g,1,none⟩=some (.int .i64 (en:Int)):=AT.out.blk.cell 1;clear AN AO A4 Aq A1 t3 f3 Ay A5 Ak Ax
 cases r with
 | none=>
  dsimp only[zJz];have t0:=AA.out.cell 0;have t1:=AA.out.cell 1;have t2:=AA.out.cell 2;have t3:=AA.out.cell 3;have t4:=AA.out.cell 4;have f2:=AA.out.frozen 2;have f3:=AA.out.frozen 3;have f4:=AA.out.frozen 4;have AM:Hid (Blk (w5.setCell ⟨gs+1,4,none⟩ (.int .i64 0)) (gs+1) 29 #[.int .u8 2,.int .i64 (k:Int),.int .i64 0,.string (xE u),.int .i64 0]):=yE (AA.out.put 4 _);have AQ:=yE (Av.out.far (p:=⟨gs+1,4,none⟩) (by simp) (.int .i64 0));have AK:=yE (Az.out.far (b:=gs+1) (by rw[AG.out]; omega) 4 (.int .i64 0));have AR:=yE (AT.out.JQ AE (XY AB) 4 (.int .i64 0))
  go_upto_region 18 with fail
  have Ai:Hid (Blk ((w5.setCell ⟨gs+1,4,none⟩ (.int .i64 0)).setCell ⟨gs+1,2,none⟩ (.int .i64 (en:Int))) (gs+1) 29 #[.int .u8 2,.int .i64 (k:Int),.int .i64 (en:Int),.string (xE u),.int .i64 0]):=yE (AM.out.put 2 _);have Ad:Hid (Blk ((w5.setCell ⟨gs+1,4,none⟩ (.int .i64 0)).setCell ⟨gs+1,2,none⟩ (.int .i64 (en:Int))) gs 29 #[.int .u8 0,.int .i64 0,.int .i64 0,.string ⟨#[]⟩,.int .i64 0]):=yE (AQ.out.far (by simp) _);have AW:Hid (Mod g w ((w5.setCell ⟨gs+1,4,none⟩ (.int .i64 0)).setCell ⟨gs+1,2,none⟩ (.int .i64 (en:Int)))):=yE (AK.out.far (by rw[AG.out]; omega) 2 _);have Ae:Hid (Rd ((w5.setCell ⟨gs+1,4,none⟩ (.int .i64 0)).setCell ⟨gs+1,2,none⟩ (.int .i64 (en:Int))) g (some ⟨b,AD,none⟩) l c en):=yE (AR.out.JQ AE (XY AB) 2 _);clear AM AQ AK AR;generalize (w5.setCell ⟨gs+1,4,none⟩ (.int .i64 0)).setCell ⟨gs+1,2,none⟩ (.int .i64 (en:Int))=w5 at *
  go_wp2_with (first
   | refine zBr rfl 29 (.tmp 4) rfl (gs+1) rfl 29 _ _ Ai.out Tryz.underlying29 rfl (by kernel_rfl) ?_
   | (refine vD rfl 29 (.tmp 2) (.tmp 90) rfl gs _ rfl rfl 29 _ Ad.out (by kernel_rfl) rfl rfl ?_; intro w6 AI AC))
  have z0:=AC.cell 0;have z1:=AC.cell 1;have z2:=AC.cell 2;have z3:=AC.cell 3;have z4:=AC.cell 4;refine bodyPost_ret (v:=.tuple #[zEq 2 k en u 0,.int .i64 31]) (by simp[results,Tryz.results32,go_sem,z0,z1,z2,z3,z4,zEq,zDw]) rfl ?_;have AX:=AW.out.ZE AI (by rw[AG.out]; exact zU _);have An:=Ae.out.ZE AI Ab (XY (by omega));refine⟨AX,.inr ⟨31,2,en,u,0,?_,by decide,rfl⟩⟩;rw[AF.out,zR4 Ar.out Au.out Ac.out,←Ao.out,HU.out,Aa.out]
 | some m=>
  dsimp only[zJz];have t0:=AA.out.cell 0;have t1:=AA.out.cell 1;have t2:=AA.out.cell 2;have t3:=AA.out.cell 3;have t4:=AA.out.cell 4;have f2:=AA.out.frozen 2;have f3:=AA.out.frozen 3;have f4:=AA.out.frozen 4;have AM:Hid (Blk (w5.setCell ⟨gs+1,4,none⟩ (.int .i64 m)) (gs+1) 29 #[.int .u8 2,.int .i64 (k:Int),.int .i64 0,.string (xE u),.int .i64 m]):=yE (AA.out.put 4 _);have AQ:=yE (Av.out.far (p:=⟨gs+1,4,none⟩) (by simp) (.int .i64 m));have AK:=yE (Az.out.far (b:=gs+1) (by rw[AG.out]; omega) 4 (.int .i64 m));have AR:=yE (AT.out.JQ AE (XY AB) 4 (.int .i64 m))
  go_upto_region 18 with fail
  have Ai:Hid (Blk ((w5.setCell ⟨gs+1,4,none⟩ (.int .i64 m)).setCell ⟨gs+1,2,none⟩ (.int .i64 (en:Int))) (gs+1) 29 #[.int .u8 2,.int .i64 (k:Int),.int .i64 (en:Int),.string (xE u),.int .i64 m]):=yE (AM.out.put 2 _);have Ad:Hid (Blk ((w5.setCell ⟨gs+1,4,none⟩ (.int .i64 m)).setCell ⟨gs+1,2,none⟩ (.int .i64 (en:Int))) gs 29 #[.int .u8 0,.int .i64 0,.int .i64 0,.string ⟨#[]⟩,.int .i64 0]):=yE (AQ.out.far (by simp) _);have AW:Hid (Mod g w ((w5.setCell ⟨gs+1,4,none⟩ (.int .i64 m)).setCell ⟨gs+1,2,none⟩ (.int .i64 (en:Int)))):=yE (AK.out.far (by rw[AG.out]; omega) 2 _);have Ae:Hid (Rd ((w5.setCell ⟨gs+1,4,none⟩ (.int .i64 m)).setCell ⟨gs+1,2,none⟩ (.int .i64 (en:Int))) g (some ⟨b,AD,none⟩) l c en):=yE (AR.out.JQ AE (XY AB) 2 _);clear AM AQ AK AR;generalize (w5.setCell ⟨gs+1,4,none⟩ (.int .i64 m)).setCell ⟨gs+1,2,none⟩ (.int .i64 (en:Int))=w5 at *
  go_wp2_with (first
   | refine zBr rfl 29 (.tmp 4) rfl (gs+1) rfl 29 _ _ Ai.out Tryz.underlying29 rfl (by kernel_rfl) ?_
   | (refine vD rfl 29 (.tmp 2) (.tmp 90) rfl gs _ rfl rfl 29 _ Ad.out (by kernel_rfl) rfl rfl ?_; intro w6 AI AC))
  have z0:=AC.cell 0;have z1:=AC.cell 1;have z2:=AC.cell 2;have z3:=AC.cell 3;have z4:=AC.cell 4;refine bodyPost_ret (v:=.tuple #[zEq 2 k en u m,.int .i64 0]) (by simp[results,Tryz.results32,go_sem,z0,z1,z2,z3,z4,zEq,zDw]) rfl ?_;have AX:=AW.out.ZE AI (by rw[AG.out]; exact zU _);have An:=Ae.out.ZE AI Ab (XY (by omega));refine⟨AX,.inl ⟨2,u.length,m,?_,zIZ AY.out.symm ?_,by rw[AY.out]; exact An⟩⟩
  ·rw[AF.out,zR4 Ar.out Au.out Ac.out,←Ao.out,HU.out,Aa.out]
  ·rw[←HU.out,zBI]
theorem zP5 (g:Nat)(A:Option Addr)(l:Bs)(c k:Nat)(w:World)(hr:Rd w g A l c k)(hlt:k<l.length)(hb:ZV l[k]=false)(hh:(l[k]==35)=false)(hkd:JV l[k]=3) :
  Calls Tryz.prog 32 #[.pointer (some ⟨g,0,none⟩)] w (zEA g A l c k w):=by
 have Bj:=hr.big;have Bg:=hr.le;have An:=hr.cap;have Aj:=hr.blk.lt;have HR:=yE hr;have AR:Hid (step (l.drop k)=jS l[k] (l.drop (k+1))):=yE (by rw[List.drop_eq_getElem_cons hlt]; rfl);have b1:w.cell? ⟨g,1,none⟩=some (.int .i64 (k:Int)):=hr.blk.cell 1;have Ay:=yE (List.drop_eq_getElem_cons hlt);obtain⟨b,AB,hA,Bm,Bl,A4⟩:=hr.byte (by omega);have BT:=yE (A4 k hlt)
 have q0:(k:Int)<(l.length:Int):=by omega
 have HB:=yE A4
 have BO:=yE hb;have BR:=yE hh;have A6:=yE hkd;clear hr A4 hb hh hkd;generalize l[k]=x at *;subst hA;have BM:Hid (Blk ((w.alloc (.cells #[.int .u8 0,.int .i64 0,.int .i64 0,.string ⟨#[]⟩,.int .i64 0] 29)).alloc (.cells #[.int .u8 0,.int .i64 (k:Int),.int .i64 0,.string ⟨#[]⟩,.int .i64 0] 29)) (w.heap.size+1) 29 #[.int .u8 0,.int .i64 (k:Int),.int .i64 0,.string ⟨#[]⟩,.int .i64 0]):=yE (Blk.newAt (by simp));have BV:Hid (Blk ((w.alloc (.cells #[.int .u8 0,.int .i64 0,.int .i64 0,.string ⟨#[]⟩,.int .i64 0] 29)).alloc (.cells #[.int .u8 0,.int .i64 (k:Int),.int .i64 0,.string ⟨#[]⟩,.int .i64 0] 29)) w.heap.size 29 #[.int .u8 0,.int .i64 0,.int .i64 0,.string ⟨#[]⟩,.int .i64 0]):=yE ((Blk.new _ _ _).alloc _);have BK:Hid (Mod g w ((w.alloc (.cells #[.int .u8 0,.int .i64 0,.int .i64 0,.string ⟨#[]⟩,.int .i64 0] 29)).alloc (.cells #[.int .u8 0,.int .i64 (k:Int),.int .i64 0,.string ⟨#[]⟩,.int .i64 0] 29))):=yE (((Mod.refl g w).alloc _).alloc _);have Ak:Hid (Rd ((w.alloc (.cells #[.int .u8 0,.int .i64 0,.int .i64 0,.string ⟨#[]⟩,.int .i64 0] 29)).alloc (.cells #[.int .u8 0,.int .i64 (k:Int),.int .i64 0,.string ⟨#[]⟩,.int .i64 0] 29)) g (some ⟨b,AB,none⟩) l c k):=yE ⟨(HR.out.blk.alloc _).alloc _,HR.out.src.ext ((Ext.alloc _ _).trans (Ext.alloc _ _)),HR.out.far,HR.out.le,HR.out.cap,HR.out.zJ9,HR.out.big⟩
 have BQ:Hid (((w.alloc (.cells #[.int .u8 0,.int .i64 0,.int .i64 0,.string ⟨#[]⟩,.int .i64 0] 29)).alloc (.cells #[.int .u8 0,.int .i64 (k:Int),.int .i64 0,.string ⟨#[]⟩,.int .i64 0] 29)).cell? ⟨b,AB+k,none⟩=some (.int .u8 (x.toNat:Int))):=yE ((((Ext.alloc _ _).trans (Ext.alloc _ _)).cell (p:=⟨b,AB+k,none⟩) Bl).trans BT.out)
 have BH:w.heap.size+1<((w.alloc (.cells #[.int .u8 0,.int .i64 0,.int .i64 0,.string ⟨#[]⟩,.int .i64 0] 29)).alloc (.cells #[.int .u8 0,.int .i64 (k:Int),.int .i64 0,.string ⟨#[]⟩,.int .i64 0] 29)).heap.size:=by simp
 go_enter Tryz.func32,Tryz.ntmps32
 go_upto_region 4 with fail
 clear b1 BT HR HB;generalize AO:((w.alloc (.cells #[.int .u8 0,.int .i64 0,.int .i64 0,.string ⟨#[]⟩,.int .i64 0] 29)).alloc (.cells #[.int .u8 0,.int .i64 (k:Int),.int .i64 0,.string ⟨#[]⟩,.int .i64 0] 29))=w1 at *
 have AQ:w.heap.size+1≠g:=by omega
 have Az:w.heap.size≠g:=by omega
 have Be:=yE AO;clear AO Aj
 have Av:b<w1.heap.size:=by omega
 have BD:Hid (w.heap.size≤w.heap.size):=yE (zU _);generalize hgs:w.heap.size=gs at *;have Aa:=yE hgs;clear hgs;have b0:w1.cell? ⟨g,0,none⟩=some (.slice (some ⟨b,AB,none⟩) l.length c):=Ak.out.blk.cell 0;have b1:w1.cell? ⟨g,1,none⟩=some (.int .i64 (k:Int)):=Ak.out.blk.cell 1;have Aj:g<w1.heap.size:=Ak.out.blk.lt;have e0:=BQ.out;apply jJ 13 (by kernel_rfl) (by kernel_rfl) (by kernel_rfl);dsimp only[List.take_succ_cons,List.take_zero,List.drop_succ_cons,List.drop_zero];apply sP q0 (.func (.func 69) #[] #[]);apply sP q0 (.pointer (some ⟨g,0,none⟩));apply sP q0 (.pointer (some ⟨g,0,none⟩));apply sP q0 (.pointer (some ⟨g,0,none⟩));apply sR b0 Aj q0 (.slice (some ⟨b,AB,none⟩) l.length c);apply sP q0 (.pointer (some ⟨g,0,none⟩));apply sP q0 (.pointer (some ⟨g,0,none⟩));apply sP q0 (.pointer (some ⟨g,1,none⟩));apply sR b1 Aj q0 (.int .i64 (k:Int));apply sP q0 (.pointer (some ⟨b,AB+k,none⟩));apply sR e0 Av q0 (.int .u8 (x.toNat:Int));apply xN (.int .u8 3) rfl rfl rfl
 ·intro w' AA hH;clear hH;simp[xH,go_sem];refine(zGD x w').mono ?_;rintro e w2 ⟨rfl,hx⟩;exact⟨_,rfl,by rw[A6.out]; rfl,hx⟩
 apply sP q0 (.pointer (some ⟨gs+1,0,none⟩));apply ZQ;intro w2 Ah hH;clear hH;(try simp only[Act.put,yB,yD,yC]);refine zAQ rfl 5 (.tmp 24) (.tmp 23) rfl (gs+1) 0 (by kernel_rfl) (.int .u8 3) (by kernel_rfl) 29 _ (BM.out.ext Ah) (Nat.zero_lt_succ _) rfl rfl zCt ?_;intro w3 A1 BU;have AY:Blk w3 (gs+1) 29 #[.int .u8 3,.int .i64 (k:Int),.int .i64 0,.string ⟨#[]⟩,.int .i64 0]:=BU;have BB:=yE AY;have Ba:=yE (A1.blk (BV.out.ext Ah) (by omega));have BL:=yE ((BK.out.trans (Mod.ZN Ah g)).ZE A1 (by rw[Aa.out]; omega));have Ab:=yE ((Ak.out.ext Ah).ZE A1 AQ (XY (by omega)));have Bk:gs+1<w3.heap.size:=AY.lt;have AT:g<w3.heap.size:=Ab.out.blk.lt
 have AG:b≠gs+1:=by omega
 have Bh:g≠gs+1:=fun e=>AQ e.symm;clear Ah BU AY A1 BM BV BK Ak BQ BH BD b0 b1 Aj e0 Av;have t0:w3.cell? ⟨gs+1,0,none⟩=some (.int .u8 3):=BB.out.cell 0;obtain⟨tp,HP⟩:∃t,Hid ((decide (([61,61]:Bs).length≤(l.drop k).length)&&((l.drop k).take ([61,61]:Bs).length==[61,61]))=t):=⟨_,yE rfl⟩
 have BW:Hid (Cells w3 (some ⟨b,AB+k,none⟩) (xL (l.drop k))):=yE (by
  have h:=zAu Ab.out.src An k l.length;rw[zCx (by omega),List.take_of_length_le (by simp)] at h
  exact h)
 have BY:Hid (Cells w3 (some ⟨b,AB+k,none⟩) (xL [x])):=yE (by
  have h:=zAu Ab.out.src An k 1;rw[zCx (by omega),Ay.out] at h
  exact h)
 have BN:∀W,(Instr.slice 22 (.slice (some ⟨b,AB,none⟩) l.length c) (some (.int .i64 (k:Int))) (some (.int .i64 ((k:Int)+1))) none).run Tryz.prog W=.ok (.slice (some ⟨b,AB+k,none⟩) 1 (c-k)) W:=fun W=>by
  have h:=zLW W _ _ Tryz.underlying22 zCt (some ⟨b,AB,none⟩) l.length c k (k+1) (by omega) (by omega);rw[zCx (by omega),show k+1-k=1 from by omega] at h;exact h
 have Au:∀W,(Instr.slice 22 (.slice (some ⟨b,AB,none⟩) l.length c) (some (.int .i64 (k:Int))) none none).run Tryz.prog W=.ok (.slice (some ⟨b,AB+k,none⟩) (l.length-k) (c-k)) W:=fun W=>by
  have h:=zGq W _ _ Tryz.underlying22 zCt (some ⟨b,AB,none⟩) l.length c k Bg;rw[zCx (by omega)] at h;exact h
 have Bf:=yE BN;have BC:=yE Au;clear BN Au
 go_upto_region 13 with fail
 clear t0;have b0:w3.cell? ⟨g,0,none⟩=some (.slice (some ⟨b,AB,none⟩) l.length c):=Ab.out.blk.cell 0;have b1:w3.cell? ⟨g,1,none⟩=some (.int .i64 (k:Int)):=Ab.out.blk.cell 1;apply jJ 16 (by kernel_rfl) (by kernel_rfl) (by kernel_rfl);dsimp only[List.take_succ_cons,List.take_zero,List.drop_succ_cons,List.drop_zero];apply sP q0 (.pointer (some ⟨g,0,none⟩));apply sP q0 (.pointer (some ⟨g,0,none⟩));apply sP q0 (.pointer (some ⟨g,0,none⟩));apply sR b0 AT q0 (.slice (some ⟨b,AB,none⟩) l.length c);apply sP q0 (.pointer (some ⟨g,0,none⟩));apply sP q0 (.pointer (some ⟨g,0,none⟩));apply sP q0 (.pointer (some ⟨g,1,none⟩));apply sR b1 AT q0 (.int .i64 (k:Int));apply sP q0 (.pointer (some ⟨g,0,none⟩));apply sP q0 (.pointer (some ⟨g,0,none⟩));apply sP q0 (.pointer (some ⟨g,1,none⟩));apply sR b1 AT q0 (.int .i64 (k:Int));apply xN (.int .i64 ((k:Int)+1)) rfl rfl rfl
 ·intro w' AA hH;clear hH;have AO:IntKind.i64.wrap ((k:Int)+1)=(k:Int)+1:=IntWalk.i64_in _ (by omega);simp[xH,go_sem,AO]
  try exact⟨by omega,Ext.refl _⟩
  try exact Ext.refl _
 apply xN (.slice (some ⟨b,AB+k,none⟩) 1 (c-k)) rfl rfl rfl
 ·intro w' AA hH;clear hH;have hs:=Bf.out w';simp[xH,go_sem,hs]
  try exact Ext.refl _
 apply xN (.string (xE [x])) rfl rfl rfl
 ·intro w' AA hH;clear hH;have Bi:=jZ (P:=Tryz.prog) (n:=1) (c:=c-k) Tryz.underlying22 Tryz.underlying5 Tryz.underlying9 rfl (BY.out.ext AA);simp[xH,go_sem,Bi]
  try exact Ext.refl _
 apply sP q0 (.pointer (some ⟨gs+1,3,none⟩));apply ZQ;intro w4 Ad hH;clear hH;(try simp only[Act.put,yB,yD,yC]);refine zAQ rfl 9 (.tmp 61) (.tmp 60) rfl (gs+1) 3 (by kernel_rfl) (.string (xE [x])) (by kernel_rfl) 29 _ (BB.out.ext Ad) (by show 3<5; decide) rfl rfl (fun w=>by kernel_rfl) ?_;intro w5 Ar BJ;have AV:Blk w5 (gs+1) 29 #[.int .u8 3,.int .i64 (k:Int),.int .i64 0,.string (xE [x]),.int .i64 0]:=BJ;have Aw:=yE AV;have Ax:=yE (Ar.blk (Ba.out.ext Ad) (by omega));have Aq:=yE ((BL.out.trans (Mod.ZN Ad g)).ZE Ar (by rw[Aa.out]; omega));have AF:=yE ((Ab.out.ext Ad).ZE Ar AQ (XY AG));have BZ:=yE (Ar.cells (BW.out.ext Ad) (XY AG));have Bd:gs+1<w5.heap.size:=AV.lt;have Ap:g<w5.heap.size:=AF.out.blk.lt
 have BF:∀b' Ae,(some ⟨b,AB+k,none⟩:Option Addr)=some ⟨b',Ae,none⟩→b'<w5.heap.size:=fun b' Ae e=>by
  injection e with e;injection e with e;subst e;omega
 clear Ad BJ AV Ar BB Ba BL Ab b0 b1 BW BY;have b0:w5.cell? ⟨g,0,none⟩=some (.slice (some ⟨b,AB,none⟩) l.length c):=AF.out.blk.cell 0;have b1:w5.cell? ⟨g,1,none⟩=some (.int .i64 (k:Int)):=AF.out.blk.cell 1
 go_upto_region 14 with fail
 apply zLH w5.heap.size [zBm w5.heap.size] 12 (by kernel_rfl) (by kernel_rfl) (by kernel_rfl) (zBm.ext _) (zU _);dsimp only[List.take_succ_cons,List.take_zero,List.drop_succ_cons,List.drop_zero];apply xN (.pointer (some ⟨g,0,none⟩)) rfl rfl rfl
 ·intro w' AA hH;clear hH;simp[xH,go_sem,q0];exact JL AA
 apply xN (.pointer (some ⟨g,0,none⟩)) rfl rfl rfl
 ·intro w' AA hH;clear hH;simp[xH,go_sem,q0];exact JL AA
 apply xN (.pointer (some ⟨g,0,none⟩)) rfl rfl rfl
 ·intro w' AA hH;clear hH;simp[xH,go_sem,q0];exact JL AA
 apply xN (.slice (some ⟨b,AB,none⟩) l.length c) rfl rfl rfl
 ·intro w' AA hH;clear hH;have z0:=(AA.1.cell (p:=⟨g,0,none⟩) Ap).trans b0;simp[xH,go_sem,z0,q0];exact JL AA
 apply xN (.pointer (some ⟨g,0,none⟩)) rfl rfl rfl
 ·intro w' AA hH;clear hH;simp[xH,go_sem,q0];exact JL AA
 apply xN (.pointer (some ⟨g,0,none⟩)) rfl rfl rfl
 ·intro w' AA hH;clear hH;simp[xH,go_sem,q0];exact JL AA
 apply xN (.pointer (some ⟨g,1,none⟩)) rfl rfl rfl
 ·intro w' AA hH;clear hH;simp[xH,go_sem,q0];exact JL AA
 apply xN (.int .i64 (k:Int)) rfl rfl rfl
 ·intro w' AA hH;clear hH;have z0:=(AA.1.cell (p:=⟨g,1,none⟩) Ap).trans b1;simp[xH,go_sem,z0,q0];exact JL AA
 apply xN (.slice (some ⟨b,AB+k,none⟩) (l.length-k) (c-k)) rfl rfl rfl
 ·intro w' AA hH;clear hH;have hs:=BC.out w';simp[xH,go_sem,hs];exact JL AA
 apply ZK (zBm w5.heap.size) zBm.mono rfl rfl rfl
 ·intro w' AA hH;clear hH;simp[xH,go_sem];exact⟨⟨w'.heap.size,(0,0),rfl,zHa AA,zO _ _⟩,zCp.ext (zBm.ext _) (zHa AA) (Ext.alloc _ _)⟩
 intro BP;apply ZK (zBm w5.heap.size) zBm.mono rfl rfl rfl
 ·intro w' AA hH;have hy:zBm w5.heap.size BP w':=hH (some 71,zBm w5.heap.size BP) (List.mem_cons_self ..) ⟨71,rfl,by decide⟩;clear hH;have h1:=hy.choose_spec.choose_spec.1;have h2:=hy.choose_spec.choose_spec.2.1;have h3:=hy.choose_spec.choose_spec.2.2;generalize hy.choose_spec.choose=fr at h1 h2 h3;generalize hy.choose=g1 at h1 h2 h3;clear hy;subst h1;have Bc:=zBA (P:=Tryz.prog) w' 22 5 Tryz.underlying22 Tryz.underlying5 g1 2 2 h3;simp[xH,go_sem,Bc];exact⟨⟨g1,(zAq w' g1 2 h3).choose,rfl,h2,(zAq w' g1 2 h3).choose_spec⟩,zLN (zHa AA) h2 2⟩
 intro BS;apply xN (.bool tp) rfl rfl rfl
 ·intro w' AA hH;have hy:zBm w5.heap.size BS w':=hH (some 72,zBm w5.heap.size BS) (List.mem_cons_self ..) ⟨72,rfl,by decide⟩;clear hH;have h1:=hy.choose_spec.choose_spec.1;have h2:=hy.choose_spec.choose_spec.2.1;have h3:=hy.choose_spec.choose_spec.2.2;generalize hy.choose_spec.choose=fr at h1 h2 h3;generalize hy.choose=g1 at h1 h2 h3;clear hy;subst h1;simp[xH,go_sem];refine(zME (some ⟨b,AB+k,none⟩) (some ⟨g1,0,none⟩) (l.drop k) [61,61] (l.length-k) 2 (c-k) 2 w' (by simp) rfl (by omega) (BZ.out.below BF AA.1) (zSu h3) tp HP).mono ?_;rintro e w2 ⟨rfl,rfl⟩;exact⟨_,rfl,rfl,JL AA⟩
 apply ZQ;intro w6 Af hH;clear hH;have As:Ext w5 w6:=Af.1;clear Af;refine wpList_nil ?_;(try simp only[Act.put,yB,yD,yC]);have AZ:=yE (Aw.out.ext As);have A0:=yE (Ax.out.ext As);have AM:=yE (Aq.out.trans (Mod.ZN As g));have AJ:=yE (AF.out.ext As);have BG:gs+1<w6.heap.size:=AZ.out.lt;have BE:g<w6.heap.size:=AJ.out.blk.lt;clear As Aw Ax Aq AF b0 b1 BZ
 cases tp with
 | true=>
  have t3:=AZ.out.cell 3;have f3:=AZ.out.frozen 3;have AP:Hid (Blk (w6.setCell ⟨gs+1,3,none⟩ (.string (xE [61,61]))) (gs+1) 29 #[.int .u8 3,.int .i64 (k:Int),.int .i64 0,.string (xE [61,61]),.int .i64 0]):=yE (AZ.out.put 3 _);have At:=yE (A0.out.far (p:=⟨gs+1,3,none⟩) (by simp) (.string (xE [61,61])));have Al:=yE (AM.out.far (b:=gs+1) (by rw[Aa.out]; omega) 3 (.string (xE [61,61])));have AD:=yE (AJ.out.JQ AQ (XY AG) 3 (.string (xE [61,61])));have AW:gs+1<(w6.setCell ⟨gs+1,3,none⟩ (.string (xE [61,61]))).heap.size:=AP.out.lt;have AX:g<(w6.setCell ⟨gs+1,3,none⟩ (.string (xE [61,61]))).heap.size:=AD.out.blk.lt
  go_upto_region 16 with fail
  clear t3 f3 AZ A0 AM AJ;have BX:(⟨#[61,61]⟩:ByteArray)=xE [61,61]:=rfl;rw[BX];clear BX;generalize w6.setCell ⟨gs+1,3,none⟩ (.string (xE [61,61]))=w7 at *;have b1:w7.cell? ⟨g,1,none⟩=some (.int .i64 (k:Int)):=AD.out.blk.cell 1;have c3:w7.cell? ⟨gs+1,3,none⟩=some (.string (xE [61,61])):=AP.out.cell 3
  have AU:(xE [61,61]).size=2:=by simp[xE,ByteArray.size]
  obtain⟨en,AL⟩:∃en,Hid (k+2=en):=⟨_,yE rfl⟩;apply jJ 10 (by kernel_rfl) (by kernel_rfl) (by kernel_rfl);dsimp only[List.take_succ_cons,List.take_zero,List.drop_succ_cons,List.drop_zero];apply sQ (.pointer (some ⟨g,0,none⟩));apply sQ (.pointer (some ⟨g,0,none⟩));apply sQ (.pointer (some ⟨g,1,none⟩));apply sL b1 AX (.int .i64 (k:Int));apply sQ (.pointer (some ⟨gs+1,3,none⟩));apply sL c3 AW (.string (xE [61,61]));apply xN (.int .i64 2) rfl rfl rfl
  ·intro w' AA hH;clear hH;simp[xH,go_sem,AU]
   try exact Ext.refl _
  apply xN (.int .i64 (en:Int)) rfl rfl rfl
  ·intro w' AA hH;clear hH;have Bb:=AL.out;have AO:IntKind.i64.wrap ((k:Int)+2)=(k:Int)+2:=IntWalk.i64_in _ (by omega);simp[xH,go_sem,AO]
   try exact⟨by omega,Ext.refl _⟩
  apply sQ (.pointer (some ⟨g,0,none⟩));apply sQ (.pointer (some ⟨g,1,none⟩));apply ZQ;intro w8 AE hH;clear hH;(try simp only[Act.put,yB,yD,yC]);refine zAQ rfl 3 (.tmp 84) (.tmp 82) rfl g 1 (by kernel_rfl) (.int .i64 (en:Int)) (by kernel_rfl) 65 _ (AD.out.ext AE).blk (by show 1<2; decide) rfl rfl (fun w=>by kernel_rfl) ?_;intro w9 AH Ao;have AK:Blk w9 g 65 #[.slice (some ⟨b,AB,none⟩) l.length c,.int .i64 (en:Int)]:=Ao;have AC:=yE (AH.blk (AP.out.ext AE) AQ);have Am:=yE (AH.blk (At.out.ext AE) Az);have Ai:=yE ((Al.out.trans (Mod.ZN AE g)).trans (Mod.zGi AH));have AN:Hid (Rd w9 g (some ⟨b,AB,none⟩) l c en):=yE ⟨AK,AH.cells (AD.out.src.ext AE) (AD.out.far (by omega)),AD.out.far,(by have h:=HP.out; rw[←AL.out]; simp only[zF,zE,List.length_drop] at h; have:=h.1; simp at this; omega),AD.out.cap,AD.out.zJ9,AD.out.big⟩;clear AE Ao AK AH AP At Al AD b1 c3;have BA:gs+1<w9.heap.size:=AC.out.lt;have A9:g<w9.heap.size:=AN.out.blk.lt;have a1:w9.cell? ⟨g,1,none⟩=some (.int .i64 (en:Int)):=AN.out.blk.cell 1;have t0:=AC.out.cell 0;have t1:=AC.out.cell 1;have t2:=AC.out.cell 2;have t3:=AC.out.cell 3;have t4:=AC.out.cell 4;have f2:=AC.out.frozen 2;have f3:=AC.out.frozen 3;have f4:=AC.out.frozen 4
  go_upto_region 18 with fail
  have BI:Hid (Blk ((w9).setCell ⟨gs+1,2,none⟩ (.int .i64 (en:Int))) (gs+1) 29 #[.int .u8 3,.int .i64 (k:Int),.int .i64 (en:Int),.string (xE [61,61]),.int .i64 0]):=yE (AC.out.put 2 _);have A7:Hid (Blk ((w9).setCell ⟨gs+1,2,none⟩ (.int .i64 (en:Int))) gs 29 #[.int .u8 0,.int .i64 0,.int .i64 0,.string ⟨#[]⟩,.int .i64 0]):=yE (Am.out.far (by simp) _);have A2:Hid (Mod g w ((w9).setCell ⟨gs+1,2,none⟩ (.int .i64 (en:Int)))):=yE (Ai.out.far (by rw[Aa.out]; omega) 2 _);have A8:Hid (Rd ((w9).setCell ⟨gs+1,2,none⟩ (.int .i64 (en:Int))) g (some ⟨b,AB,none⟩) l c en):=yE (AN.out.JQ AQ (XY AG) 2 _);clear AC Am Ai AN;generalize (w9).setCell ⟨gs+1,2,none⟩ (.int .i64 (en:Int))=w5 at *
  go_wp2_with (first
   | refine zBr rfl 29 (.tmp 4) rfl (gs+1) rfl 29 _ _ BI.out Tryz.underlying29 rfl (by kernel_rfl) ?_
   | (refine vD rfl 29 (.tmp 2) (.tmp 90) rfl gs _ rfl rfl 29 _ A7.out (by kernel_rfl) rfl rfl ?_; intro w6 Ag AI))
  have z0:=AI.cell 0;have z1:=AI.cell 1;have z2:=AI.cell 2;have z3:=AI.cell 3;have z4:=AI.cell 4;refine bodyPost_ret (v:=.tuple #[zEq 3 k en [61,61] 0,.int .i64 0]) (by simp[results,Tryz.results32,go_sem,z0,z1,z2,z3,z4,zEq,zDw]) rfl ?_;have A3:=A2.out.ZE Ag (by rw[Aa.out]; exact zU _);have A5:=A8.out.ZE Ag Az (XY (by omega));have Ac:=HP.out;simp only[zF,zE,zN] at Ac;have AS:(l.drop k).take 2=[61,61]:=Ac.2;refine⟨A3,.inl ⟨3,2,0,?_,zIZ AL.out.symm AS.symm,by rw[AL.out]; exact A5⟩⟩;rw[Ay.out] at AS;rw[AR.out,zRY BO.out BR.out A6.out]
  cases hd:l.drop (k+1) with
  | nil=>rw[hd] at AS; cases AS
  | cons y r'=>
   rw[hd] at AS;simp only[List.take_succ_cons,List.take_zero,List.cons.injEq] at AS;obtain⟨rfl,rfl,_⟩:=AS
   rfl
 | false=>
  have AP:=AZ;have At:=A0;have Al:=AM;have AD:=AJ
  go_upto_region 16 with fail
  clear AZ A0 AM AJ;have AW:=BG;have AX:=BE;generalize w6=w7 at *;have b1:w7.cell? ⟨g,1,none⟩=some (.int .i64 (k:Int)):=AD.out.blk.cell 1;have c3:w7.cell? ⟨gs+1,3,none⟩=some (.string (xE [x])):=AP.out.cell 3
  have AU:(xE [x]).size=1:=by simp[xE,ByteArray.size]
  obtain⟨en,AL⟩:∃en,Hid (k+1=en):=⟨_,yE rfl⟩;apply jJ 10 (by kernel_rfl) (by kernel_rfl) (by kernel_rfl);dsimp only[List.take_succ_cons,List.take_zero,List.drop_succ_cons,List.drop_zero];apply sQ (.pointer (some ⟨g,0,none⟩));apply sQ (.pointer (some ⟨g,0,none⟩));apply sQ (.pointer (some ⟨g,1,none⟩));apply sL b1 AX (.int .i64 (k:Int));apply sQ (.pointer (some ⟨gs+1,3,none⟩));apply sL c3 AW (.string (xE [x]));apply xN (.int .i64 1) rfl rfl rfl
  ·intro w' AA hH;clear hH;simp[xH,go_sem,AU]
   try exact Ext.refl _
  apply xN (.int .i64 (en:Int)) rfl rfl rfl
  ·intro w' AA hH;clear hH;have Bb:=AL.out;have AO:IntKind.i64.wrap ((k:Int)+1)=(k:Int)+1:=IntWalk.i64_in _ (by omega);simp[xH,go_sem,AO]
   try exact⟨by omega,Ext.refl _⟩
  apply sQ (.pointer (some ⟨g,0,none⟩));apply sQ (.pointer (some ⟨g,1,none⟩));apply ZQ;intro w8 AE hH;clear hH;(try simp only[Act.put,yB,yD,yC]);refine zAQ rfl 3 (.tmp 84) (.tmp 82) rfl g 1 (by kernel_rfl) (.int .i64 (en:Int)) (by kernel_rfl) 65 _ (AD.out.ext AE).blk (by show 1<2; decide) rfl rfl (fun w=>by kernel_rfl) ?_;intro w9 AH Ao;have AK:Blk w9 g 65 #[.slice (some ⟨b,AB,none⟩) l.length c,.int .i64 (en:Int)]:=Ao;have AC:=yE (AH.blk (AP.out.ext AE) AQ);have Am:=yE (AH.blk (At.out.ext AE) Az);have Ai:=yE ((Al.out.trans (Mod.ZN AE g)).trans (Mod.zGi AH));have AN:Hid (Rd w9 g (some ⟨b,AB,none⟩) l c en):=yE ⟨AK,AH.cells (AD.out.src.ext AE) (AD.out.far (by omega)),AD.out.far,(by rw[←AL.out]; omega),AD.out.cap,AD.out.zJ9,AD.out.big⟩;clear AE Ao AK AH AP At Al AD b1 c3;have BA:gs+1<w9.heap.size:=AC.out.lt;have A9:g<w9.heap.size:=AN.out.blk.lt;have a1:w9.cell? ⟨g,1,none⟩=some (.int .i64 (en:Int)):=AN.out.blk.cell 1;have t0:=AC.out.cell 0;have t1:=AC.out.cell 1;have t2:=AC.out.cell 2;have t3:=AC.out.cell 3;have t4:=AC.out.cell 4;have f2:=AC.out.frozen 2;have f3:=AC.out.frozen 3;have f4:=AC.out.frozen 4
  go_upto_region 18 with fail
  have BI:Hid (Blk ((w9).setCell ⟨gs+1,2,none⟩ (.int .i64 (en:Int))) (gs+1) 29 #[.int .u8 3,.int .i64 (k:Int),.int .i64 (en:Int),.string (xE [x]),.int .i64 0]):=yE (AC.out.put 2 _);have A7:Hid (Blk ((w9).setCell ⟨gs+1,2,none⟩ (.int .i64 (en:Int))) gs 29 #[.int .u8 0,.int .i64 0,.int .i64 0,.string ⟨#[]⟩,.int .i64 0]):=yE (Am.out.far (by simp) _);have A2:Hid (Mod g w ((w9).setCell ⟨gs+1,2,none⟩ (.int .i64 (en:Int)))):=yE (Ai.out.far (by rw[Aa.out]; omega) 2 _);have A8:Hid (Rd ((w9).setCell ⟨gs+1,2,none⟩ (.int .i64 (en:Int))) g (some ⟨b,AB,none⟩) l c en):=yE (AN.out.JQ AQ (XY AG) 2 _);clear AC Am Ai AN;generalize (w9).setCell ⟨gs+1,2,none⟩ (.int .i64 (en:Int))=w5 at *
  go_wp2_with (first
   | refine zBr rfl 29 (.tmp 4) rfl (gs+1) rfl 29 _ _ BI.out Tryz.underlying29 rfl (by kernel_rfl) ?_
   | (refine vD rfl 29 (.tmp 2) (.tmp 90) rfl gs _ rfl rfl 29 _ A7.out (by kernel_rfl) rfl rfl ?_; intro w6 Ag AI))
  have z0:=AI.cell 0;have z1:=AI.cell 1;have z2:=AI.cell 2;have z3:=AI.cell 3;have z4:=AI.cell 4;refine bodyPost_ret (v:=.tuple #[zEq 3 k en [x] 0,.int .i64 0]) (by simp[results,Tryz.results32,go_sem,z0,z1,z2,z3,z4,zEq,zDw]) rfl ?_;have A3:=A2.out.ZE Ag (by rw[Aa.out]; exact zU _);have A5:=A8.out.ZE Ag Az (XY (by omega));have Ac:=HP.out;refine⟨A3,.inl ⟨3,1,0,?_,zIZ AL.out.symm (by rw[Ay.out]; rfl),by rw[AL.out]; exact A5⟩⟩;rw[AR.out,zRY BO.out BR.out A6.out];rw[Ay.out] at Ac;refine if_neg ?_;intro hc;simp only[zF,zN] at hc;obtain⟨rfl,h2⟩:=hc
  cases hd:l.drop (k+1) with
  | nil=>rw[hd] at h2; cases h2
  | cons y r'=>
   rw[hd] at h2 Ac;injection h2 with h2;subst h2
   simp at Ac
theorem zQn (g:Nat)(A:Option Addr)(l:Bs)(c k:Nat)(w:World)(hr:Rd w g A l c k)(hlt:k<l.length)(hb:ZV l[k]=false)(hh:(l[k]==35)=false)(hkd:JV l[k]=0) :
  Calls Tryz.prog 32 #[.pointer (some ⟨g,0,none⟩)] w (zEA g A l c k w):=by
 have Al:=hr.big;have Az:=hr.le;have Ag:=hr.cap;have AF:=hr.blk.lt;have HR:=yE hr;have AG:Hid (step (l.drop k)=jS l[k] (l.drop (k+1))):=yE (by rw[List.drop_eq_getElem_cons hlt]; rfl);have b1:w.cell? ⟨g,1,none⟩=some (.int .i64 (k:Int)):=hr.blk.cell 1;have Ax:=yE (List.drop_eq_getElem_cons hlt);obtain⟨b,AB,hA,Ay,Au,AL⟩:=hr.byte (by omega);have AS:=yE (AL k hlt)
 have q0:(k:Int)<(l.length:Int):=by omega
 have HB:=yE AL
 have Am:=yE hb;have At:=yE hh;have Aa:=yE hkd;clear hr AL hb hh hkd;generalize l[k]=x at *;subst hA;have AX:Hid (Blk ((w.alloc (.cells #[.int .u8 0,.int .i64 0,.int .i64 0,.string ⟨#[]⟩,.int .i64 0] 29)).alloc (.cells #[.int .u8 0,.int .i64 (k:Int),.int .i64 0,.string ⟨#[]⟩,.int .i64 0] 29)) (w.heap.size+1) 29 #[.int .u8 0,.int .i64 (k:Int),.int .i64 0,.string ⟨#[]⟩,.int .i64 0]):=yE (Blk.newAt (by simp));have AV:Hid (Blk ((w.alloc (.cells #[.int .u8 0,.int .i64 0,.int .i64 0,.string ⟨#[]⟩,.int .i64 0] 29)).alloc (.cells #[.int .u8 0,.int .i64 (k:Int),.int .i64 0,.string ⟨#[]⟩,.int .i64 0] 29)) w.heap.size 29 #[.int .u8 0,.int .i64 0,.int .i64 0,.string ⟨#[]⟩,.int .i64 0]):=yE ((Blk.new _ _ _).alloc _);have AU:Hid (Mod g w ((w.alloc (.cells #[.int .u8 0,.int .i64 0,.int .i64 0,.string ⟨#[]⟩,.int .i64 0] 29)).alloc (.cells #[.int .u8 0,.int .i64 (k:Int),.int .i64 0,.string ⟨#[]⟩,.int .i64 0] 29))):=yE (((Mod.refl g w).alloc _).alloc _);have AH:Hid (Rd ((w.alloc (.cells #[.int .u8 0,.int .i64 0,.int .i64 0,.string ⟨#[]⟩,.int .i64 0] 29)).alloc (.cells #[.int .u8 0,.int .i64 (k:Int),.int .i64 0,.string ⟨#[]⟩,.int .i64 0] 29)) g (some ⟨b,AB,none⟩) l c k):=yE ⟨(HR.out.blk.alloc _).alloc _,HR.out.src.ext ((Ext.alloc _ _).trans (Ext.alloc _ _)),HR.out.far,HR.out.le,HR.out.cap,HR.out.zJ9,HR.out.big⟩
 have Ab:Hid (((w.alloc (.cells #[.int .u8 0,.int .i64 0,.int .i64 0,.string ⟨#[]⟩,.int .i64 0] 29)).alloc (.cells #[.int .u8 0,.int .i64 (k:Int),.int .i64 0,.string ⟨#[]⟩,.int .i64 0] 29)).cell? ⟨b,AB+k,none⟩=some (.int .u8 (x.toNat:Int))):=yE ((((Ext.alloc _ _).trans (Ext.alloc _ _)).cell (p:=⟨b,AB+k,none⟩) Au).trans AS.out)
 have AO:w.heap.size+1<((w.alloc (.cells #[.int .u8 0,.int .i64 0,.int .i64 0,.string ⟨#[]⟩,.int .i64 0] 29)).alloc (.cells #[.int .u8 0,.int .i64 (k:Int),.int .i64 0,.string ⟨#[]⟩,.int .i64 0] 29)).heap.size:=by simp
 go_enter Tryz.func32,Tryz.ntmps32
 go_upto_region 4 with fail
 clear b1 AS HR HB;generalize hw1:((w.alloc (.cells #[.int .u8 0,.int .i64 0,.int .i64 0,.string ⟨#[]⟩,.int .i64 0] 29)).alloc (.cells #[.int .u8 0,.int .i64 (k:Int),.int .i64 0,.string ⟨#[]⟩,.int .i64 0] 29))=w1 at *
 have AK:w.heap.size+1≠g:=by omega
 have Ak:w.heap.size≠g:=by omega
 have Ao:=yE hw1;clear hw1 AF
 have AI:b<w1.heap.size:=by omega
 have AM:Hid (w.heap.size≤w.heap.size):=yE (zU _);generalize hgs:w.heap.size=gs at *;have AP:=yE hgs;clear hgs;have b0:w1.cell? ⟨g,0,none⟩=some (.slice (some ⟨b,AB,none⟩) l.length c):=AH.out.blk.cell 0;have b1:w1.cell? ⟨g,1,none⟩=some (.int .i64 (k:Int)):=AH.out.blk.cell 1;have AF:g<w1.heap.size:=AH.out.blk.lt;have e0:=Ab.out;apply jJ 13 (by kernel_rfl) (by kernel_rfl) (by kernel_rfl);dsimp only[List.take_succ_cons,List.take_zero,List.drop_succ_cons,List.drop_zero];apply sP q0 (.func (.func 69) #[] #[]);apply sP q0 (.pointer (some ⟨g,0,none⟩));apply sP q0 (.pointer (some ⟨g,0,none⟩));apply sP q0 (.pointer (some ⟨g,0,none⟩));apply sR b0 AF q0 (.slice (some ⟨b,AB,none⟩) l.length c);apply sP q0 (.pointer (some ⟨g,0,none⟩));apply sP q0 (.pointer (some ⟨g,0,none⟩));apply sP q0 (.pointer (some ⟨g,1,none⟩));apply sR b1 AF q0 (.int .i64 (k:Int));apply sP q0 (.pointer (some ⟨b,AB+k,none⟩));apply sR e0 AI q0 (.int .u8 (x.toNat:Int));apply xN (.int .u8 0) rfl rfl rfl
 ·intro w' Av hH;clear hH;simp[xH,go_sem];refine(zGD x w').mono ?_;rintro e w2 ⟨rfl,hx⟩;exact⟨_,rfl,by rw[Aa.out]; rfl,hx⟩
 apply sP q0 (.pointer (some ⟨gs+1,0,none⟩));apply ZQ;intro w2 AE hH;clear hH;(try simp only[Act.put,yB,yD,yC]);refine zAQ rfl 5 (.tmp 24) (.tmp 23) rfl (gs+1) 0 (by kernel_rfl) (.int .u8 0) (by kernel_rfl) 29 _ (AX.out.ext AE) (Nat.zero_lt_succ _) rfl rfl zCt ?_;intro w3 AJ AT;have AC:Blk w3 (gs+1) 29 #[.int .u8 0,.int .i64 (k:Int),.int .i64 0,.string ⟨#[]⟩,.int .i64 0]:=AT;have AA:=yE AC;have Aq:=yE (AJ.blk (AV.out.ext AE) (by omega));have Ai:=yE ((AU.out.trans (Mod.ZN AE g)).ZE AJ (by rw[AP.out]; omega));have AQ:=yE ((AH.out.ext AE).ZE AJ AK (XY (by omega)));have Ap:gs+1<w3.heap.size:=AC.lt;have Af:g<w3.heap.size:=AQ.out.blk.lt
 have AN:b≠gs+1:=by omega
 have Aj:g≠gs+1:=fun e=>AK e.symm;clear AE AT AC AJ AX AV AU AH Ab AO AM b0 b1 AF e0 AI;have t0:w3.cell? ⟨gs+1,0,none⟩=some (.int .u8 0):=AA.out.cell 0;have Ad:gs+1<w3.heap.size:=AA.out.lt;have a1:w3.cell? ⟨g,1,none⟩=some (.int .i64 (k:Int)):=AQ.out.blk.cell 1;clear t0;have t0:=AA.out.cell 0;have t1:=AA.out.cell 1;have t2:=AA.out.cell 2;have t3:=AA.out.cell 3;have t4:=AA.out.cell 4;have f2:=AA.out.frozen 2;have f3:=AA.out.frozen 3;have f4:=AA.out.frozen 4;have AZ:=AA;have AR:=Aq;have AY:=Ai;have Ac:=AQ
 go_upto_region 18 with fail
 have Ar:Hid (Blk ((w3).setCell ⟨gs+1,2,none⟩ (.int .i64 (k:Int))) (gs+1) 29 #[.int .u8 0,.int .i64 (k:Int),.int .i64 (k:Int),.string ⟨#[]⟩,.int .i64 0]):=yE (AZ.out.put 2 _);have An:Hid (Blk ((w3).setCell ⟨gs+1,2,none⟩ (.int .i64 (k:Int))) gs 29 #[.int .u8 0,.int .i64 0,.int .i64 0,.string ⟨#[]⟩,.int .i64 0]):=yE (AR.out.far (by simp) _);have Ae:Hid (Mod g w ((w3).setCell ⟨gs+1,2,none⟩ (.int .i64 (k:Int)))):=yE (AY.out.far (by rw[AP.out]; omega) 2 _);have As:Hid (Rd ((w3).setCell ⟨gs+1,2,none⟩ (.int .i64 (k:Int))) g (some ⟨b,AB,none⟩) l c k):=yE (Ac.out.JQ AK (XY AN) 2 _);clear AZ AR AY Ac;generalize (w3).setCell ⟨gs+1,2,none⟩ (.int .i64 (k:Int))=w5 at *
 go_wp2_with (first
  | refine zBr rfl 29 (.tmp 4) rfl (gs+1) rfl 29 _ _ Ar.out Tryz.underlying29 rfl (by kernel_rfl) ?_
  | (refine vD rfl 29 (.tmp 2) (.tmp 90) rfl gs _ rfl rfl 29 _ An.out (by kernel_rfl) rfl rfl ?_; intro w6 AW AD))
 have z0:=AD.cell 0;have z1:=AD.cell 1;have z2:=AD.cell 2;have z3:=AD.cell 3;have z4:=AD.cell 4;refine bodyPost_ret (v:=.tuple #[zEq 0 k k [] 0,.int .i64 30]) (by simp[results,Tryz.results32,go_sem,z0,z1,z2,z3,z4,zEq,zDw]) rfl ?_;have Ah:=Ae.out.ZE AW (by rw[AP.out]; exact zU _);have Aw:=As.out.ZE AW Ak (XY (by omega));refine⟨Ah,.inr ⟨30,0,k,[],0,?_,by decide,rfl⟩⟩;rw[AG.out,zUz Am.out At.out Aa.out]
theorem zRK (g:Nat)(A:Option Addr)(l:Bs)(c k:Nat)(w:World)(hr:Rd w g A l c k)(hlt:k<l.length)(hb:ZV l[k]=false)(hh:(l[k]==35)=false) :
  Calls Tryz.prog 32 #[.pointer (some ⟨g,0,none⟩)] w (zEA g A l c k w):=by
 have h:JV l[k]=1∨JV l[k]=2∨JV l[k]=3∨JV l[k]=0:=by
  unfold JV
  split
  ·exact .inl rfl
  ·split
   ·exact .inr (.inl rfl)
   ·split
    ·exact .inr (.inr (.inl rfl))
    ·exact .inr (.inr (.inr rfl))
 rcases h with h | h | h | h
 ·exact zNx g A l c k w hr hlt hb hh h
 ·exact zOo g A l c k w hr hlt hb hh h
 ·exact zP5 g A l c k w hr hlt hb hh h
 ·exact zQn g A l c k w hr hlt hb hh h
end Go.Proofs.YtioffpjajhalaaaGreatDoor
