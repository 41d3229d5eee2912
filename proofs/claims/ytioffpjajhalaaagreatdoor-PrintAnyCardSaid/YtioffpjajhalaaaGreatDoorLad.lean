/- reader.next, walked. Condition: the reader's block is known whole, the source does not lie in it, and a byte is left. -/
import Derived.Test.YtioffpjajhalaaaGreatDoorLaa
import Derived.Test.YtioffpjajhalaaaGreatDoorLac
import Derived.StillTailTactics
import Derived.Deep.Cut
import Derived.IntWalk
set_option linter.unusedVariables false
set_option linter.unusedSimpArgs false
set_option maxRecDepth 100000
set_option maxHeartbeats 16000000
namespace Go.Proofs.YtioffpjajhalaaaGreatDoor
open Go Go.RowKit
theorem VT {P:Program}{ops:Array Oper}{rest:List Oper}{o:Oper}{a:Act}{w:World}{Q:Exit→Act→World→Prop}(hgd:o.guard=none)(ty:TypeId)(x y:Operand)(ho:o.op=.store ty x y)
  (g i:Nat) (hx:a.eval x=.pointer (some ⟨g,i,none⟩)) (v:Value) (hy:a.eval y=v) (t:TypeId) (cs:Array Value) (hg:Blk w g t cs) (hi:i<cs.size) (h1:v.oneCell'=true) (hv:v.cells=#[v]) (hsz:∀w,(Go.sizeOf ty).run P w=.ok 1 w)
  (h:∀w',Touch g w w'→Blk w' g t (cs.setIfInBounds i v)→wpList P ops Q rest (a.put o.dst undef) w'):wpList P ops Q (o::rest) a w:=by
 have hc:w.cell? ⟨g,i,none⟩=some cs[i]:=by rw[hg.cell]; simp[hi]
 have hf:=hg.frozen i
 have AA:(storeVar ty ⟨g,i,none⟩ v).run P w=.ok () (w.setCell ⟨g,i,none⟩ v):=by
  simp[storeVar,hv,hsz,storeCells,Addr.add,Result.andThen];rw[run_store P w _ _ _ h1];simp[hc,hf]
 refine wpList_plain hgd fun K hK=>?_;unfold Oper.wp execOp;simp only[ho,hx,hy,Instr.storeAt,Instr.sureAddr,Sem.run_bind,Sem.run_pure,AA,Result.andThen_ok];refine hK _ _ (h (w.setCell ⟨g,i,none⟩ v) ⟨rfl,rfl,rfl,by simp[World.setCell],fun k hk=>zQ _ _ _ _ hk⟩ (hg.put i v))
theorem Blk.newAt {w:World}{o:Obj}{t:TypeId}{cs:Array Value}{g:Nat}(hg:(w.alloc o).heap.size=g):Blk ((w.alloc o).alloc (.cells cs t)) g t cs:=by subst hg; exact Blk.new _ _ _
def zCH (kd at_ en:Nat)(x:Bs)(n:Int):Value:=.agg #[.int .u8 (kd:Int),.int .i64 (at_:Int),.int .i64 (en:Int),.string (yX x),.int .i64 n]
theorem zOU:VG ⟨#[97,98,99,100,101,102,103,104,105,106,107,108,109,110,111,112,113,114,115,116,117,118,119,120,121,122,48,49,50,51,52,53,54,55,56,57,95]⟩ YJ:=by unfold VG; decide +kernel
theorem zLg:VG ⟨#[48,49,50,51,52,53,54,55,56,57]⟩ vP:=zDL
theorem Mod.ZN {g b:Nat}{w w' w'':World}(h:Mod g w w')(t:Touch b w' w'')(hb:w.heap.size≤b):Mod g w w'':=
 ⟨t.os.trans h.os,t.tape.trans h.tape,t.output.trans h.output,by rw[t.size]; exact h.size,fun k hk hg=>(t.other k (by omega)).trans (h.other k hk hg)⟩
theorem Rd.ZN {w w':World}{g b:Nat}{A:Option Addr}{l:Bs}{c k:Nat}(h:Rd w g A l c k)(t:Touch b w w')(hb:b≠g)(ha:∀b' off,A=some ⟨b',off,none⟩→b'≠b):Rd w' g A l c k:=
 ⟨t.blk h.blk (Ne.symm hb),t.cells h.src ha,h.far,h.le,h.cap,h.zHI,h.big⟩
theorem Rd.ext {w w':World}{g:Nat}{A:Option Addr}{l:Bs}{c k:Nat}(h:Rd w g A l c k)(t:Ext w w'):Rd w' g A l c k:=
 ⟨h.blk.ext t,h.src.ext t,h.far,h.le,h.cap,h.zHI,h.big⟩
theorem Rd.XA {w:World}{g b:Nat}{A:Option Addr}{l:Bs}{c k:Nat}(h:Rd w g A l c k)(hb:b≠g)(ha:∀b' off,A=some ⟨b',off,none⟩→b'≠b)(i:Nat)(v:Value):Rd (w.setCell ⟨b,i,none⟩ v) g A l c k:=
 h.ZN ⟨rfl,rfl,rfl,by simp[World.setCell],fun k hk=>zQ _ _ _ _ hk⟩ hb ha
theorem zNn (g:Nat)(A:Option Addr)(l:Bs)(c k:Nat)(s:ByteArray)(p:UInt8→Bool)(hs:VG s p)(w:World)(hr:Rd w g A l c k)(u:Bs)(hu:Hid ((l.drop k).takeWhile p=u))(en:Nat)(hen:Hid (k+u.length=en)) :
  Calls Tryz.prog 67 #[.pointer (some ⟨g,0,none⟩),.string s] w fun e w'=>e=.returned (.string (yX u))∧Mod g w w'∧Rd w' g A l c en:=by
 have h:=zDk g A l c k s p hs w hr;rw[hu.out,hen.out] at h;exact h
theorem YK {b off g:Nat}(h:b≠g):∀b' AA,(some (⟨b,off,none⟩:Addr))=some ⟨b',AA,none⟩→b'≠g:=by
 intro b' AA e;injection e with e;injection e with e1;subst e1;exact h
theorem zGF {kd k en en':Nat}{x x':Bs}{n er:Int}(h1:en=en')(h2:x=x'):Ending.returned (.tuple #[zCH kd k en x n,.int .i64 er])=.returned (.tuple #[zCH kd k en' x' n,.int .i64 er]):=by rw[h1,h2]
theorem zSw {x:UInt8}(h:XC x=1):vI x=true:=by
 unfold XC at h; split at h
 ·assumption
 ·split at h
  ·omega
  ·split at h <;> omega
theorem zSp {x:UInt8}(h:XC x=2):vI x=false∧vP x=true:=by
 unfold XC at h; split at h
 ·omega
 ·rename_i h1
  split at h
  ·rename_i h2; exact⟨by simpa using h1,h2⟩
  ·split at h <;> omega
theorem zSG {x:UInt8}(h:XC x=3):vI x=false∧vP x=false∧zFc x=true:=by
 unfold XC at h; split at h
 ·omega
 ·rename_i h1
  split at h
  ·omega
  ·rename_i h2
   split at h
   ·rename_i h3; exact⟨by simpa using h1,by simpa using h2,h3⟩
   ·omega
theorem zSH {x:UInt8}(h:XC x=0):vI x=false∧vP x=false∧zFc x=false:=by
 unfold XC at h; split at h
 ·omega
 ·rename_i h1
  split at h
  ·omega
  ·rename_i h2
   split at h
   ·omega
   ·rename_i h3; exact⟨by simpa using h1,by simpa using h2,by simpa using h3⟩
theorem zSE {x:UInt8}{r:Bs}(hb:YA x=false)(hh:(x==35)=false)(hk:XC x=1):JS x r=.tok 1 ((x::r).takeWhile YJ).length 0:=by
 have h:=zSw hk
 have hw:YJ x=true:=by unfold YJ; rw[h]; rfl
 unfold JS;rw[hb,hh,h,List.takeWhile_cons,hw];simp[Nat.add_comm]
theorem zP4 {x:UInt8}{r:Bs}(hb:YA x=false)(hh:(x==35)=false)(hk:XC x=2):JS x r=match zBr 0 ((x::r).takeWhile vP) with | none=>.bad 31 | some n=>.tok 2 ((x::r).takeWhile vP).length n:=by
 obtain⟨h1,h2⟩:=zSp hk;unfold JS zNb;rw[hb,hh,h1,h2,List.takeWhile_cons,h2];simp only[Bool.false_eq_true,if_false,if_true,zJ];rw[Nat.add_comm]
 cases zBr 0 (x::r.takeWhile vP) <;> rfl
theorem zP1 {x:UInt8}{r:Bs}(hb:YA x=false)(hh:(x==35)=false)(hk:XC x=3):JS x r=if x==61&&r.head?==some 61 then .tok 3 2 0 else .tok 3 1 0:=by
 obtain⟨h1,h2,h3⟩:=zSG hk;unfold JS;rw[hb,hh,h1,h2,h3]
 simp
theorem zSB {x:UInt8}{r:Bs}(hb:YA x=false)(hh:(x==35)=false)(hk:XC x=0):JS x r=.bad 30:=by
 obtain⟨h1,h2,h3⟩:=zSH hk
 have AA:(x==61)=false:=by
  rw[yF];intro e;subst e
  revert h3
  decide
 unfold JS;rw[hb,hh,h1,h2,h3,AA]
 rfl
theorem zQu {w:World}{g:Nat}{t:TypeId}{cs:Array Value}(h:Blk w g t cs):Cells w (some ⟨g,0,none⟩) cs.toList:=by
 refine .inr ⟨g,0,rfl,h.lt,fun k hk=>?_⟩;rw[Nat.zero_add,h.cell]
 simp
def zBe (N:Nat)(Fs:List (Value→World→Prop))(w w':World):Prop:=Below N w w'∧N≤w.heap.size∧∀F ∈ Fs,∀v,F v w→F v w'
theorem zBe.trans {N:Nat}{Fs:List (Value→World→Prop)}(a b c:World)(h:zBe N Fs a b)(k:zBe N Fs b c):zBe N Fs a c:=⟨h.1.trans k.1,h.2.1,fun F hF v hv=>k.2.2 F hF v (h.2.2 F hF v hv)⟩
theorem zBe.ext {N:Nat}{Fs:List (Value→World→Prop)}{w w':World}(hE:∀F ∈ Fs,∀v w w',F v w→Ext w w'→F v w')(hN:N≤w.heap.size)(h:Ext w w'):zBe N Fs w w':=⟨Below.mono h hN,hN,fun F hF v hv=>hE F hF v _ _ hv h⟩
theorem zI0 {P:Program}{id:Nat}{Q':Exit→Act→World→Prop}{a:Act}{w:World}{l:List Oper}{ks:List Take}(N:Nat)(Fs:List (Value→World→Prop))(m:Nat)(hm:P.follows .mixedOrders=true)(hB:VC l.toArray m=true)(hT:zCF l.toArray m=true)
  (hE:∀F ∈ Fs,∀v w w',F v w→Ext w w'→F v w') (hN:N≤w.heap.size)
  (h:ZB P l.toArray (zBe N Fs) w (fun a' w'=>wpList P l.toArray Q' (l.drop m) a' w') (l.take m) ks a []):(Code.region id l.toArray true).wp P Q' a w:=
 VM (R:=zBe N Fs) m ks hm hB hT (fun _ _ _=>zBe.trans _ _ _) (zBe.ext hE hN (Below.drew (Below.refl _ _))) h
theorem YV {N:Nat}{Fs:List (Value→World→Prop)}{w0 w:World}(h:zBe N Fs w0 w):zBe N Fs w w:=⟨Below.refl _ _,Nat.le_trans h.2.1 h.1.size,fun F hF v hv=>hv⟩
theorem zER {N:Nat}{Fs:List (Value→World→Prop)}{w0 w:World}(h:zBe N Fs w0 w):N≤w.heap.size:=Nat.le_trans h.2.1 h.1.size
def zAr (N:Nat)(v:Value)(w:World):Prop:=∃(g:Nat) (fr:Nat × Nat),v=.slice (some ⟨g,0,none⟩) 2 2∧N≤g∧w.heap[g]?=some (.cells #[.int .u8 61,.int .u8 61] 5 fr)
theorem zAr.ext (N:Nat):∀F ∈ [zAr N],∀v w w',F v w→Ext w w'→F v w':=by
 intro F hF v w w' h hx;rw[yK] at hF;subst hF;obtain⟨g,fr,h1,h2,h3⟩:=h;exact⟨g,fr,h1,h2,(hx.block g (Array.getElem?_eq_some_iff.1 h3).1).trans h3⟩
theorem zAr.mono {N:Nat}(v:Value)(w w':World)(h:zAr N v w)(hx:zBe N [zAr N] w w'):zAr N v w':=hx.2.2 _ (List.mem_singleton.2 rfl) v h
theorem zCX (w:World)(g i k:Nat)(h:k≠g):(w.freeze ⟨g,i,none⟩ 1).heap[k]?=w.heap[k]?:=by
 simp only[World.freeze];rw[if_neg (by omega)];simp only[Array.getElem?_modify];rw[if_neg (by omega)]
theorem zAn (w:World)(g i:Nat){cs:Array Value}{t:TypeId}{fr:Nat × Nat}(h:w.heap[g]?=some (.cells cs t fr)):∃fr',(w.freeze ⟨g,i,none⟩ 1).heap[g]?=some (.cells cs t fr'):=by
 simp only[World.freeze];rw[if_neg (by omega)];simp only[Array.getElem?_modify];simp[h]
theorem zI5 {N g:Nat}{w:World}(hN:N≤w.heap.size)(hg:N≤g)(i:Nat):zBe N [zAr N] w (w.freeze ⟨g,i,none⟩ 1):=by
 refine⟨⟨rfl,rfl,rfl,by simp[World.freeze],fun k hk=>zCX w g i k (by omega)⟩,hN,fun F hF v h=>?_⟩;rw[yK] at hF;subst hF;obtain⟨g',fr,h1,h2,h3⟩:=h
 by_cases AA:g'=g
 ·subst AA;obtain⟨AB,h4⟩:=zAn w g' i h3;exact⟨g',AB,h1,h2,h4⟩
 ·exact⟨g',fr,h1,h2,(zCX w g i g' AA).trans h3⟩
theorem zCd {P:Program}(w:World)(t e:TypeId)(ht:P.underlying t=some (.slice e))(he:P.underlying e=some (.int .u8))(g n c:Nat){cs:Array Value}{fr:Nat × Nat}{e':TypeId}(h:w.heap[g]?=some (.cells cs e' fr)) :
  (convert t t (.slice (some ⟨g,0,none⟩) n c)).run P w=.ok (.slice (some ⟨g,0,none⟩) n c) (w.freeze ⟨g,cs.size,none⟩ 1):=by
 have AA:w.shape? g=some (e',cs.size):=by unfold World.shape?; rw[h]
 simp[convert,run_underlying ht,run_underlying he,markStringish,AA,Result.andThen]
theorem zQw {w:World}{g:Nat}{fr:Nat × Nat}(h:w.heap[g]?=some (.cells #[.int .u8 61,.int .u8 61] 5 fr)):Cells w (some ⟨g,0,none⟩) (xL [61,61]):=
 .inr ⟨g,0,rfl,(Array.getElem?_eq_some_iff.1 h).1,fun k hk=>by rw[Nat.zero_add,cell_of_row w g k _ _ fr h]; simp[xL]⟩
theorem zBX:yX []=⟨#[]⟩:=rfl
theorem zGO {b off c k:Nat}(h:k<c):zEU (some ⟨b,off,none⟩) c k=some ⟨b,off+k,none⟩:=by
 unfold zEU;rw[if_neg (by omega)];simp only[Option.map_some,Addr.add]
 split
 ·rename_i h0; subst h0; rfl
 ·rfl
theorem zJK (A B:Option Addr)(a b:Bs)(n m c d:Nat)(w:World)(hn:n=a.length)(hm:m=b.length)(hc:n≤c)(hA:Cells w A (xL a))(hB:Cells w B (xL b))(t:Bool)(ht:Hid ((decide (b.length≤a.length)&&(a.take b.length==b))=t)) :
  Calls Tryz.prog 72 #[.slice A n c,.slice B m d] w fun e w'=>e=.returned (.bool t)∧w'=w:=by
 have h:=zHT A B a b n m c d w hn hm hc hA hB;rw[ht.out] at h;exact h
def zCP (g:Nat)(A:Option Addr)(l:Bs)(c k:Nat)(w:World)(e:Ending)(w':World):Prop:=
 Mod g w w'∧((∃kd j n,step (l.drop k)=.tok kd j n∧e=.returned (.tuple #[zCH kd k (k+j) ((l.drop k).take j) n,.int .i64 0])∧Rd w' g A l c (k+j)) ∨
    (∃er kd en x n,step (l.drop k)=.bad er∧er≠0∧e=.returned (.tuple #[zCH kd k en x n,.int .i64 er])))
theorem zKN (g:Nat)(A:Option Addr)(l:Bs)(c k:Nat)(w:World)(hr:Rd w g A l c k)(hlt:k<l.length)(hb:YA l[k]=false)(hh:(l[k]==35)=false)(hkd:XC l[k]=1) :
  Calls Tryz.prog 32 #[.pointer (some ⟨g,0,none⟩)] w (zCP g A l c k w):=by
 have Au:=hr.big;have A6:=hr.le;have A4:=hr.cap;have AJ:=hr.blk.lt;have HR:=yD hr;have AD:Hid (step (l.drop k)=JS l[k] (l.drop (k+1))):=yD (by rw[List.drop_eq_getElem_cons hlt]; rfl);have b1:w.cell? ⟨g,1,none⟩=some (.int .i64 (k:Int)):=hr.blk.cell 1;have Ay:=yD (List.drop_eq_getElem_cons hlt);obtain⟨b,AC,hA,A7,Az,AO⟩:=hr.byte (by omega);have Aj:=yD (AO k hlt)
 have q0:(k:Int)<(l.length:Int):=by omega
 have HB:=yD AO
 have Ap:=yD hb;have A2:=yD hh;have AV:=yD hkd;clear hr AO hb hh hkd;generalize l[k]=x at *;subst hA;have Ab:Hid (Blk ((w.alloc (.cells #[.int .u8 0,.int .i64 0,.int .i64 0,.string ⟨#[]⟩,.int .i64 0] 29)).alloc (.cells #[.int .u8 0,.int .i64 (k:Int),.int .i64 0,.string ⟨#[]⟩,.int .i64 0] 29)) (w.heap.size+1) 29 #[.int .u8 0,.int .i64 (k:Int),.int .i64 0,.string ⟨#[]⟩,.int .i64 0]):=yD (Blk.newAt (by simp));have Aa:Hid (Blk ((w.alloc (.cells #[.int .u8 0,.int .i64 0,.int .i64 0,.string ⟨#[]⟩,.int .i64 0] 29)).alloc (.cells #[.int .u8 0,.int .i64 (k:Int),.int .i64 0,.string ⟨#[]⟩,.int .i64 0] 29)) w.heap.size 29 #[.int .u8 0,.int .i64 0,.int .i64 0,.string ⟨#[]⟩,.int .i64 0]):=yD ((Blk.new _ _ _).alloc _);have Af:Hid (Mod g w ((w.alloc (.cells #[.int .u8 0,.int .i64 0,.int .i64 0,.string ⟨#[]⟩,.int .i64 0] 29)).alloc (.cells #[.int .u8 0,.int .i64 (k:Int),.int .i64 0,.string ⟨#[]⟩,.int .i64 0] 29))):=yD (((Mod.refl g w).alloc _).alloc _);have AE:Hid (Rd ((w.alloc (.cells #[.int .u8 0,.int .i64 0,.int .i64 0,.string ⟨#[]⟩,.int .i64 0] 29)).alloc (.cells #[.int .u8 0,.int .i64 (k:Int),.int .i64 0,.string ⟨#[]⟩,.int .i64 0] 29)) g (some ⟨b,AC,none⟩) l c k):=yD ⟨(HR.out.blk.alloc _).alloc _,HR.out.src.ext ((Ext.alloc _ _).trans (Ext.alloc _ _)),HR.out.far,HR.out.le,HR.out.cap,HR.out.zHI,HR.out.big⟩
 have AX:Hid (((w.alloc (.cells #[.int .u8 0,.int .i64 0,.int .i64 0,.string ⟨#[]⟩,.int .i64 0] 29)).alloc (.cells #[.int .u8 0,.int .i64 (k:Int),.int .i64 0,.string ⟨#[]⟩,.int .i64 0] 29)).cell? ⟨b,AC+k,none⟩=some (.int .u8 (x.toNat:Int))):=yD ((((Ext.alloc _ _).trans (Ext.alloc _ _)).cell (p:=⟨b,AC+k,none⟩) Az).trans Aj.out)
 have AP:w.heap.size+1<((w.alloc (.cells #[.int .u8 0,.int .i64 0,.int .i64 0,.string ⟨#[]⟩,.int .i64 0] 29)).alloc (.cells #[.int .u8 0,.int .i64 (k:Int),.int .i64 0,.string ⟨#[]⟩,.int .i64 0] 29)).heap.size:=by simp
 go_enter Tryz.func32,Tryz.ntmps32
 go_upto_region 4 with fail
 clear b1 Aj HR HB;generalize hw1:((w.alloc (.cells #[.int .u8 0,.int .i64 0,.int .i64 0,.string ⟨#[]⟩,.int .i64 0] 29)).alloc (.cells #[.int .u8 0,.int .i64 (k:Int),.int .i64 0,.string ⟨#[]⟩,.int .i64 0] 29))=w1 at *
 have AF:w.heap.size+1≠g:=by omega
 have AZ:w.heap.size≠g:=by omega
 have Ax:=yD hw1;clear hw1 AJ
 have AG:b<w1.heap.size:=by omega
 have AS:Hid (w.heap.size≤w.heap.size):=yD (zU _);generalize hgs:w.heap.size=gs at *;have AN:=yD hgs;clear hgs;have b0:w1.cell? ⟨g,0,none⟩=some (.slice (some ⟨b,AC,none⟩) l.length c):=AE.out.blk.cell 0;have b1:w1.cell? ⟨g,1,none⟩=some (.int .i64 (k:Int)):=AE.out.blk.cell 1;have AJ:g<w1.heap.size:=AE.out.blk.lt;have e0:=AX.out;apply xI 13 (by kernel_rfl) (by kernel_rfl) (by kernel_rfl);dsimp only[List.take_succ_cons,List.take_zero,List.drop_succ_cons,List.drop_zero];apply sP q0 (.func (.func 69) #[] #[]);apply sP q0 (.pointer (some ⟨g,0,none⟩));apply sP q0 (.pointer (some ⟨g,0,none⟩));apply sP q0 (.pointer (some ⟨g,0,none⟩));apply sR b0 AJ q0 (.slice (some ⟨b,AC,none⟩) l.length c);apply sP q0 (.pointer (some ⟨g,0,none⟩));apply sP q0 (.pointer (some ⟨g,0,none⟩));apply sP q0 (.pointer (some ⟨g,1,none⟩));apply sR b1 AJ q0 (.int .i64 (k:Int));apply sP q0 (.pointer (some ⟨b,AC+k,none⟩));apply sR e0 AG q0 (.int .u8 (x.toNat:Int));apply yZ (.int .u8 1) rfl rfl rfl
 ·intro w' A5 hH;clear hH;simp[yY,go_sem];refine(zEp x w').mono ?_;rintro e w2 ⟨rfl,hx⟩;exact⟨_,rfl,by rw[AV.out]; rfl,hx⟩
 apply sP q0 (.pointer (some ⟨gs+1,0,none⟩));apply xN;intro w2 AK hH;clear hH;(try simp only[Act.put,yA,yC,yB]);refine VT rfl 5 (.tmp 24) (.tmp 23) rfl (gs+1) 0 (by kernel_rfl) (.int .u8 1) (by kernel_rfl) 29 _ (Ab.out.ext AK) (Nat.zero_lt_succ _) rfl rfl zBS ?_;intro w3 AM Ac;have AB:Blk w3 (gs+1) 29 #[.int .u8 1,.int .i64 (k:Int),.int .i64 0,.string ⟨#[]⟩,.int .i64 0]:=Ac;have AU:=yD AB;have Ak:=yD (AM.blk (Aa.out.ext AK) (by omega));have Ah:=yD ((Af.out.trans (Mod.jY AK g)).ZN AM (by rw[AN.out]; omega));have AR:=yD ((AE.out.ext AK).ZN AM AF (YK (by omega)));have Ar:gs+1<w3.heap.size:=AB.lt;have An:g<w3.heap.size:=AR.out.blk.lt
 have AI:b≠gs+1:=by omega
 have Ao:g≠gs+1:=fun e=>AF e.symm;clear AK Ac AB AM Ab Aa Af AE AX AP AS b0 b1 AJ e0 AG;have t0:w3.cell? ⟨gs+1,0,none⟩=some (.int .u8 1):=AU.out.cell 0;obtain⟨u,HU⟩:∃u,Hid ((l.drop k).takeWhile YJ=u):=⟨_,yD rfl⟩;obtain⟨en,AT⟩:∃en,Hid (k+u.length=en):=⟨_,yD rfl⟩
 go_wp2_with fail
 refine(zNn g _ l c k _ YJ zOU w3 AR.out u HU en AT).mono ?_;rintro e w4 ⟨rfl,AL,AY⟩;have AA:=yD (AL.blk AU.out AF);have A0:=yD (AL.blk Ak.out AZ);have Aq:=yD (Ah.out.trans AL);have AQ:=yD AY;have Al:gs+1<w4.heap.size:=AA.out.lt;have As:g<w4.heap.size:=AQ.out.blk.lt;have a1:w4.cell? ⟨g,1,none⟩=some (.int .i64 (en:Int)):=AQ.out.blk.cell 1;clear AL AY AU Ak Ah AR t0;have t0:=AA.out.cell 0;have t1:=AA.out.cell 1;have t2:=AA.out.cell 2;have t3:=AA.out.cell 3;have t4:=AA.out.cell 4;have f2:=AA.out.frozen 2;have f3:=AA.out.frozen 3;have f4:=AA.out.frozen 4;have AW:Hid (Blk (w4.setCell ⟨gs+1,3,none⟩ (.string (yX u))) (gs+1) 29 #[.int .u8 1,.int .i64 (k:Int),.int .i64 0,.string (yX u),.int .i64 0]):=yD (AA.out.put 3 _);have Ai:=yD (A0.out.far (p:=⟨gs+1,3,none⟩) (by simp) (.string (yX u)));have Ad:=yD (Aq.out.far (b:=gs+1) (by rw[AN.out]; omega) 3 (.string (yX u)));have Ae:=yD (AQ.out.XA AF (YK AI) 3 (.string (yX u)))
 go_upto_region 18 with fail
 have Aw:Hid (Blk ((w4.setCell ⟨gs+1,3,none⟩ (.string (yX u))).setCell ⟨gs+1,2,none⟩ (.int .i64 (en:Int))) (gs+1) 29 #[.int .u8 1,.int .i64 (k:Int),.int .i64 (en:Int),.string (yX u),.int .i64 0]):=yD (AW.out.put 2 _);have Av:Hid (Blk ((w4.setCell ⟨gs+1,3,none⟩ (.string (yX u))).setCell ⟨gs+1,2,none⟩ (.int .i64 (en:Int))) gs 29 #[.int .u8 0,.int .i64 0,.int .i64 0,.string ⟨#[]⟩,.int .i64 0]):=yD (Ai.out.far (by simp) _);have At:Hid (Mod g w ((w4.setCell ⟨gs+1,3,none⟩ (.string (yX u))).setCell ⟨gs+1,2,none⟩ (.int .i64 (en:Int)))):=yD (Ad.out.far (by rw[AN.out]; omega) 2 _);have Am:Hid (Rd ((w4.setCell ⟨gs+1,3,none⟩ (.string (yX u))).setCell ⟨gs+1,2,none⟩ (.int .i64 (en:Int))) g (some ⟨b,AC,none⟩) l c en):=yD (Ae.out.XA AF (YK AI) 2 _);clear AW Ai Ad Ae;generalize (w4.setCell ⟨gs+1,3,none⟩ (.string (yX u))).setCell ⟨gs+1,2,none⟩ (.int .i64 (en:Int))=w5 at *
 go_wp2_with (first
  | refine zAv rfl 29 (.tmp 4) rfl (gs+1) rfl 29 _ _ Aw.out Tryz.underlying29 rfl (by kernel_rfl) ?_
  | (refine vF rfl 29 (.tmp 2) (.tmp 90) rfl gs _ rfl rfl 29 _ Av.out (by kernel_rfl) rfl rfl ?_; intro w6 Ag AH))
 have z0:=AH.cell 0;have z1:=AH.cell 1;have z2:=AH.cell 2;have z3:=AH.cell 3;have z4:=AH.cell 4;refine bodyPost_ret (v:=.tuple #[zCH 1 k en u 0,.int .i64 0]) (by simp[results,Tryz.results32,go_sem,z0,z1,z2,z3,z4,zCH,zBX]) rfl ?_;have A1:=At.out.ZN Ag (by rw[AN.out]; exact zU _);have A3:=Am.out.ZN Ag AZ (YK (by omega));refine⟨A1,.inl ⟨1,u.length,0,?_,zGF AT.out.symm ?_,by rw[AT.out]; exact A3⟩⟩
 ·rw[AD.out,zSE Ap.out A2.out AV.out,←Ay.out,HU.out]
 ·rw[←HU.out,zIW]
theorem zLP (g:Nat)(A:Option Addr)(l:Bs)(c k:Nat)(w:World)(hr:Rd w g A l c k)(hlt:k<l.length)(hb:YA l[k]=false)(hh:(l[k]==35)=false)(hkd:XC l[k]=2) :
  Calls Tryz.prog 32 #[.pointer (some ⟨g,0,none⟩)] w (zCP g A l c k w):=by
 have BF:=hr.big;have BK:=hr.le;have BB:=hr.cap;have AS:=hr.blk.lt;have HR:=yD hr;have AD:Hid (step (l.drop k)=JS l[k] (l.drop (k+1))):=yD (by rw[List.drop_eq_getElem_cons hlt]; rfl);have b1:w.cell? ⟨g,1,none⟩=some (.int .i64 (k:Int)):=hr.blk.cell 1;have A3:=yD (List.drop_eq_getElem_cons hlt);obtain⟨b,AE,hA,BJ,BH,Ae⟩:=hr.byte (by omega);have As:=yD (Ae k hlt)
 have q0:(k:Int)<(l.length:Int):=by omega
 have HB:=yD Ae
 have Ak:=yD hb;have A5:=yD hh;have AW:=yD hkd;clear hr Ae hb hh hkd;generalize l[k]=x at *;subst hA;have Ao:Hid (Blk ((w.alloc (.cells #[.int .u8 0,.int .i64 0,.int .i64 0,.string ⟨#[]⟩,.int .i64 0] 29)).alloc (.cells #[.int .u8 0,.int .i64 (k:Int),.int .i64 0,.string ⟨#[]⟩,.int .i64 0] 29)) (w.heap.size+1) 29 #[.int .u8 0,.int .i64 (k:Int),.int .i64 0,.string ⟨#[]⟩,.int .i64 0]):=yD (Blk.newAt (by simp));have Ax:Hid (Blk ((w.alloc (.cells #[.int .u8 0,.int .i64 0,.int .i64 0,.string ⟨#[]⟩,.int .i64 0] 29)).alloc (.cells #[.int .u8 0,.int .i64 (k:Int),.int .i64 0,.string ⟨#[]⟩,.int .i64 0] 29)) w.heap.size 29 #[.int .u8 0,.int .i64 0,.int .i64 0,.string ⟨#[]⟩,.int .i64 0]):=yD ((Blk.new _ _ _).alloc _);have Ap:Hid (Mod g w ((w.alloc (.cells #[.int .u8 0,.int .i64 0,.int .i64 0,.string ⟨#[]⟩,.int .i64 0] 29)).alloc (.cells #[.int .u8 0,.int .i64 (k:Int),.int .i64 0,.string ⟨#[]⟩,.int .i64 0] 29))):=yD (((Mod.refl g w).alloc _).alloc _);have AO:Hid (Rd ((w.alloc (.cells #[.int .u8 0,.int .i64 0,.int .i64 0,.string ⟨#[]⟩,.int .i64 0] 29)).alloc (.cells #[.int .u8 0,.int .i64 (k:Int),.int .i64 0,.string ⟨#[]⟩,.int .i64 0] 29)) g (some ⟨b,AE,none⟩) l c k):=yD ⟨(HR.out.blk.alloc _).alloc _,HR.out.src.ext ((Ext.alloc _ _).trans (Ext.alloc _ _)),HR.out.far,HR.out.le,HR.out.cap,HR.out.zHI,HR.out.big⟩
 have Av:Hid (((w.alloc (.cells #[.int .u8 0,.int .i64 0,.int .i64 0,.string ⟨#[]⟩,.int .i64 0] 29)).alloc (.cells #[.int .u8 0,.int .i64 (k:Int),.int .i64 0,.string ⟨#[]⟩,.int .i64 0] 29)).cell? ⟨b,AE+k,none⟩=some (.int .u8 (x.toNat:Int))):=yD ((((Ext.alloc _ _).trans (Ext.alloc _ _)).cell (p:=⟨b,AE+k,none⟩) BH).trans As.out)
 have Af:w.heap.size+1<((w.alloc (.cells #[.int .u8 0,.int .i64 0,.int .i64 0,.string ⟨#[]⟩,.int .i64 0] 29)).alloc (.cells #[.int .u8 0,.int .i64 (k:Int),.int .i64 0,.string ⟨#[]⟩,.int .i64 0] 29)).heap.size:=by simp
 go_enter Tryz.func32,Tryz.ntmps32
 go_upto_region 4 with fail
 clear b1 As HR HB;generalize hw1:((w.alloc (.cells #[.int .u8 0,.int .i64 0,.int .i64 0,.string ⟨#[]⟩,.int .i64 0] 29)).alloc (.cells #[.int .u8 0,.int .i64 (k:Int),.int .i64 0,.string ⟨#[]⟩,.int .i64 0] 29))=w1 at *
 have AF:w.heap.size+1≠g:=by omega
 have Ag:w.heap.size≠g:=by omega
 have BG:=yD hw1;clear hw1 AS
 have AJ:b<w1.heap.size:=by omega
 have Ai:Hid (w.heap.size≤w.heap.size):=yD (zU _);generalize hgs:w.heap.size=gs at *;have AG:=yD hgs;clear hgs;have b0:w1.cell? ⟨g,0,none⟩=some (.slice (some ⟨b,AE,none⟩) l.length c):=AO.out.blk.cell 0;have b1:w1.cell? ⟨g,1,none⟩=some (.int .i64 (k:Int)):=AO.out.blk.cell 1;have AS:g<w1.heap.size:=AO.out.blk.lt;have e0:=Av.out;apply xI 13 (by kernel_rfl) (by kernel_rfl) (by kernel_rfl);dsimp only[List.take_succ_cons,List.take_zero,List.drop_succ_cons,List.drop_zero];apply sP q0 (.func (.func 69) #[] #[]);apply sP q0 (.pointer (some ⟨g,0,none⟩));apply sP q0 (.pointer (some ⟨g,0,none⟩));apply sP q0 (.pointer (some ⟨g,0,none⟩));apply sR b0 AS q0 (.slice (some ⟨b,AE,none⟩) l.length c);apply sP q0 (.pointer (some ⟨g,0,none⟩));apply sP q0 (.pointer (some ⟨g,0,none⟩));apply sP q0 (.pointer (some ⟨g,1,none⟩));apply sR b1 AS q0 (.int .i64 (k:Int));apply sP q0 (.pointer (some ⟨b,AE+k,none⟩));apply sR e0 AJ q0 (.int .u8 (x.toNat:Int));apply yZ (.int .u8 2) rfl rfl rfl
 ·intro w' BI hH;clear hH;simp[yY,go_sem];refine(zEp x w').mono ?_;rintro e w2 ⟨rfl,hx⟩;exact⟨_,rfl,by rw[AW.out]; rfl,hx⟩
 apply sP q0 (.pointer (some ⟨gs+1,0,none⟩));apply xN;intro w2 AN hH;clear hH;(try simp only[Act.put,yA,yC,yB]);refine VT rfl 5 (.tmp 24) (.tmp 23) rfl (gs+1) 0 (by kernel_rfl) (.int .u8 2) (by kernel_rfl) 29 _ (Ao.out.ext AN) (Nat.zero_lt_succ _) rfl rfl zBS ?_;intro w3 AU Ay;have AH:Blk w3 (gs+1) 29 #[.int .u8 2,.int .i64 (k:Int),.int .i64 0,.string ⟨#[]⟩,.int .i64 0]:=Ay;have Ac:=yD AH;have A4:=yD (AU.blk (Ax.out.ext AN) (by omega));have A2:=yD ((Ap.out.trans (Mod.jY AN g)).ZN AU (by rw[AG.out]; omega));have AX:=yD ((AO.out.ext AN).ZN AU AF (YK (by omega)));have A8:gs+1<w3.heap.size:=AH.lt;have BE:g<w3.heap.size:=AX.out.blk.lt
 have AB:b≠gs+1:=by omega
 have A7:g≠gs+1:=fun e=>AF e.symm;clear AN Ay AH AU Ao Ax Ap AO Av Af Ai b0 b1 AS e0 AJ;have t0:w3.cell? ⟨gs+1,0,none⟩=some (.int .u8 2):=Ac.out.cell 0;obtain⟨u,HU⟩:∃u,Hid ((l.drop k).takeWhile vP=u):=⟨_,yD rfl⟩;obtain⟨en,AY⟩:∃en,Hid (k+u.length=en):=⟨_,yD rfl⟩;obtain⟨r,AZ⟩:∃r,Hid (zBr 0 u=r):=⟨_,yD rfl⟩;have BC:Hid (∀c ∈ u,vP c=true):=yD (by rw[←HU.out]; exact fun c hc=>by have:=zQp (p:=vP) ((l.drop k).takeWhile vP) (by have h:=zNl (p:=vP) (l.drop k) _ (zU _); rw[zIW] at h; exact h) c hc; exact this)
 have A6:u.length≤140737488355328:=by
  have:=zKL vP (l.drop k)
  rw[HU.out,List.length_drop] at this;omega
 go_wp2_with fail
 refine(zNn g _ l c k _ vP zLg w3 AX.out u HU en AY).mono ?_;rintro e w4 ⟨rfl,AT,Al⟩;have AK:=yD (AT.blk Ac.out AF);have At:=yD (AT.blk A4.out Ag);have Am:=yD (A2.out.trans AT);have A1:=yD Al;have BD:gs+1<w4.heap.size:=AK.out.lt;clear AT Al Ac A4 A2 AX t0;have t3:=AK.out.cell 3;have f3:=AK.out.frozen 3;have Ar:Hid (Blk (w4.setCell ⟨gs+1,3,none⟩ (.string (yX u))) (gs+1) 29 #[.int .u8 2,.int .i64 (k:Int),.int .i64 0,.string (yX u),.int .i64 0]):=yD (AK.out.put 3 _);have Aq:=yD (At.out.far (p:=⟨gs+1,3,none⟩) (by simp) (.string (yX u)));have A0:=yD (Am.out.far (b:=gs+1) (by rw[AG.out]; omega) 3 (.string (yX u)));have An:=yD (A1.out.XA AF (YK AB) 3 (.string (yX u)))
 go_wp2_with fail
 refine(zLT u BC.out A6 _ r AZ).mono ?_;rintro e w5 ⟨rfl,AQ⟩;have AA:=yD (Ar.out.ext AQ);have Aw:=yD (Aq.out.ext AQ);have Az:=yD (A0.out.trans (Mod.jY AQ g));have AV:=yD (An.out.ext AQ);have A9:gs+1<w5.heap.size:=AA.out.lt;have BA:g<w5.heap.size:=AV.out.blk.lt;have a1:w5.cell? ⟨g,1,none⟩=some (.int .i64 (en:Int)):=AV.out.blk.cell 1;clear AQ AK At Am A1 t3 f3 Ar Aq A0 An
 cases r with
 | none=>
  dsimp only[zG9];have t0:=AA.out.cell 0;have t1:=AA.out.cell 1;have t2:=AA.out.cell 2;have t3:=AA.out.cell 3;have t4:=AA.out.cell 4;have f2:=AA.out.frozen 2;have f3:=AA.out.frozen 3;have f4:=AA.out.frozen 4;have AI:Hid (Blk (w5.setCell ⟨gs+1,4,none⟩ (.int .i64 0)) (gs+1) 29 #[.int .u8 2,.int .i64 (k:Int),.int .i64 0,.string (yX u),.int .i64 0]):=yD (AA.out.put 4 _);have AM:=yD (Aw.out.far (p:=⟨gs+1,4,none⟩) (by simp) (.int .i64 0));have AP:=yD (Az.out.far (b:=gs+1) (by rw[AG.out]; omega) 4 (.int .i64 0));have AL:=yD (AV.out.XA AF (YK AB) 4 (.int .i64 0))
  go_upto_region 18 with fail
  have Aa:Hid (Blk ((w5.setCell ⟨gs+1,4,none⟩ (.int .i64 0)).setCell ⟨gs+1,2,none⟩ (.int .i64 (en:Int))) (gs+1) 29 #[.int .u8 2,.int .i64 (k:Int),.int .i64 (en:Int),.string (yX u),.int .i64 0]):=yD (AI.out.put 2 _);have Aj:Hid (Blk ((w5.setCell ⟨gs+1,4,none⟩ (.int .i64 0)).setCell ⟨gs+1,2,none⟩ (.int .i64 (en:Int))) gs 29 #[.int .u8 0,.int .i64 0,.int .i64 0,.string ⟨#[]⟩,.int .i64 0]):=yD (AM.out.far (by simp) _);have Ah:Hid (Mod g w ((w5.setCell ⟨gs+1,4,none⟩ (.int .i64 0)).setCell ⟨gs+1,2,none⟩ (.int .i64 (en:Int)))):=yD (AP.out.far (by rw[AG.out]; omega) 2 _);have Ad:Hid (Rd ((w5.setCell ⟨gs+1,4,none⟩ (.int .i64 0)).setCell ⟨gs+1,2,none⟩ (.int .i64 (en:Int))) g (some ⟨b,AE,none⟩) l c en):=yD (AL.out.XA AF (YK AB) 2 _);clear AI AM AP AL;generalize (w5.setCell ⟨gs+1,4,none⟩ (.int .i64 0)).setCell ⟨gs+1,2,none⟩ (.int .i64 (en:Int))=w5 at *
  go_wp2_with (first
   | refine zAv rfl 29 (.tmp 4) rfl (gs+1) rfl 29 _ _ Aa.out Tryz.underlying29 rfl (by kernel_rfl) ?_
   | (refine vF rfl 29 (.tmp 2) (.tmp 90) rfl gs _ rfl rfl 29 _ Aj.out (by kernel_rfl) rfl rfl ?_; intro w6 AR AC))
  have z0:=AC.cell 0;have z1:=AC.cell 1;have z2:=AC.cell 2;have z3:=AC.cell 3;have z4:=AC.cell 4;refine bodyPost_ret (v:=.tuple #[zCH 2 k en u 0,.int .i64 31]) (by simp[results,Tryz.results32,go_sem,z0,z1,z2,z3,z4,zCH,zBX]) rfl ?_;have Ab:=Ah.out.ZN AR (by rw[AG.out]; exact zU _);have Au:=Ad.out.ZN AR Ag (YK (by omega));refine⟨Ab,.inr ⟨31,2,en,u,0,?_,by decide,rfl⟩⟩;rw[AD.out,zP4 Ak.out A5.out AW.out,←A3.out,HU.out,AZ.out]
 | some m=>
  dsimp only[zG9];have t0:=AA.out.cell 0;have t1:=AA.out.cell 1;have t2:=AA.out.cell 2;have t3:=AA.out.cell 3;have t4:=AA.out.cell 4;have f2:=AA.out.frozen 2;have f3:=AA.out.frozen 3;have f4:=AA.out.frozen 4;have AI:Hid (Blk (w5.setCell ⟨gs+1,4,none⟩ (.int .i64 m)) (gs+1) 29 #[.int .u8 2,.int .i64 (k:Int),.int .i64 0,.string (yX u),.int .i64 m]):=yD (AA.out.put 4 _);have AM:=yD (Aw.out.far (p:=⟨gs+1,4,none⟩) (by simp) (.int .i64 m));have AP:=yD (Az.out.far (b:=gs+1) (by rw[AG.out]; omega) 4 (.int .i64 m));have AL:=yD (AV.out.XA AF (YK AB) 4 (.int .i64 m))
  go_upto_region 18 with fail
  have Aa:Hid (Blk ((w5.setCell ⟨gs+1,4,none⟩ (.int .i64 m)).setCell ⟨gs+1,2,none⟩ (.int .i64 (en:Int))) (gs+1) 29 #[.int .u8 2,.int .i64 (k:Int),.int .i64 (en:Int),.string (yX u),.int .i64 m]):=yD (AI.out.put 2 _);have Aj:Hid (Blk ((w5.setCell ⟨gs+1,4,none⟩ (.int .i64 m)).setCell ⟨gs+1,2,none⟩ (.int .i64 (en:Int))) gs 29 #[.int .u8 0,.int .i64 0,.int .i64 0,.string ⟨#[]⟩,.int .i64 0]):=yD (AM.out.far (by simp) _);have Ah:Hid (Mod g w ((w5.setCell ⟨gs+1,4,none⟩ (.int .i64 m)).setCell ⟨gs+1,2,none⟩ (.int .i64 (en:Int)))):=yD (AP.out.far (by rw[AG.out]; omega) 2 _);have Ad:Hid (Rd ((w5.setCell ⟨gs+1,4,none⟩ (.int .i64 m)).setCell ⟨gs+1,2,none⟩ (.int .i64 (en:Int))) g (some ⟨b,AE,none⟩) l c en):=yD (AL.out.XA AF (YK AB) 2 _);clear AI AM AP AL;generalize (w5.setCell ⟨gs+1,4,none⟩ (.int .i64 m)).setCell ⟨gs+1,2,none⟩ (.int .i64 (en:Int))=w5 at *
  go_wp2_with (first
   | refine zAv rfl 29 (.tmp 4) rfl (gs+1) rfl 29 _ _ Aa.out Tryz.underlying29 rfl (by kernel_rfl) ?_
   | (refine vF rfl 29 (.tmp 2) (.tmp 90) rfl gs _ rfl rfl 29 _ Aj.out (by kernel_rfl) rfl rfl ?_; intro w6 AR AC))
  have z0:=AC.cell 0;have z1:=AC.cell 1;have z2:=AC.cell 2;have z3:=AC.cell 3;have z4:=AC.cell 4;refine bodyPost_ret (v:=.tuple #[zCH 2 k en u m,.int .i64 0]) (by simp[results,Tryz.results32,go_sem,z0,z1,z2,z3,z4,zCH,zBX]) rfl ?_;have Ab:=Ah.out.ZN AR (by rw[AG.out]; exact zU _);have Au:=Ad.out.ZN AR Ag (YK (by omega));refine⟨Ab,.inl ⟨2,u.length,m,?_,zGF AY.out.symm ?_,by rw[AY.out]; exact Au⟩⟩
  ·rw[AD.out,zP4 Ak.out A5.out AW.out,←A3.out,HU.out,AZ.out]
  ·rw[←HU.out,zIW]
theorem zNR (g:Nat)(A:Option Addr)(l:Bs)(c k:Nat)(w:World)(hr:Rd w g A l c k)(hlt:k<l.length)(hb:YA l[k]=false)(hh:(l[k]==35)=false)(hkd:XC l[k]=3) :
  Calls Tryz.prog 32 #[.pointer (some ⟨g,0,none⟩)] w (zCP g A l c k w):=by
 have Bj:=hr.big;have Bh:=hr.le;have An:=hr.cap;have Ax:=hr.blk.lt;have HR:=yD hr;have AO:Hid (step (l.drop k)=JS l[k] (l.drop (k+1))):=yD (by rw[List.drop_eq_getElem_cons hlt]; rfl);have b1:w.cell? ⟨g,1,none⟩=some (.int .i64 (k:Int)):=hr.blk.cell 1;have A1:=yD (List.drop_eq_getElem_cons hlt);obtain⟨b,AB,hA,Bm,Bl,BB⟩:=hr.byte (by omega);have BP:=yD (BB k hlt)
 have q0:(k:Int)<(l.length:Int):=by omega
 have HB:=yD BB
 have BK:=yD hb;have Ba:=yD hh;have A2:=yD hkd;clear hr BB hb hh hkd;generalize l[k]=x at *;subst hA;have BL:Hid (Blk ((w.alloc (.cells #[.int .u8 0,.int .i64 0,.int .i64 0,.string ⟨#[]⟩,.int .i64 0] 29)).alloc (.cells #[.int .u8 0,.int .i64 (k:Int),.int .i64 0,.string ⟨#[]⟩,.int .i64 0] 29)) (w.heap.size+1) 29 #[.int .u8 0,.int .i64 (k:Int),.int .i64 0,.string ⟨#[]⟩,.int .i64 0]):=yD (Blk.newAt (by simp));have BT:Hid (Blk ((w.alloc (.cells #[.int .u8 0,.int .i64 0,.int .i64 0,.string ⟨#[]⟩,.int .i64 0] 29)).alloc (.cells #[.int .u8 0,.int .i64 (k:Int),.int .i64 0,.string ⟨#[]⟩,.int .i64 0] 29)) w.heap.size 29 #[.int .u8 0,.int .i64 0,.int .i64 0,.string ⟨#[]⟩,.int .i64 0]):=yD ((Blk.new _ _ _).alloc _);have BO:Hid (Mod g w ((w.alloc (.cells #[.int .u8 0,.int .i64 0,.int .i64 0,.string ⟨#[]⟩,.int .i64 0] 29)).alloc (.cells #[.int .u8 0,.int .i64 (k:Int),.int .i64 0,.string ⟨#[]⟩,.int .i64 0] 29))):=yD (((Mod.refl g w).alloc _).alloc _);have Ar:Hid (Rd ((w.alloc (.cells #[.int .u8 0,.int .i64 0,.int .i64 0,.string ⟨#[]⟩,.int .i64 0] 29)).alloc (.cells #[.int .u8 0,.int .i64 (k:Int),.int .i64 0,.string ⟨#[]⟩,.int .i64 0] 29)) g (some ⟨b,AB,none⟩) l c k):=yD ⟨(HR.out.blk.alloc _).alloc _,HR.out.src.ext ((Ext.alloc _ _).trans (Ext.alloc _ _)),HR.out.far,HR.out.le,HR.out.cap,HR.out.zHI,HR.out.big⟩
 have BR:Hid (((w.alloc (.cells #[.int .u8 0,.int .i64 0,.int .i64 0,.string ⟨#[]⟩,.int .i64 0] 29)).alloc (.cells #[.int .u8 0,.int .i64 (k:Int),.int .i64 0,.string ⟨#[]⟩,.int .i64 0] 29)).cell? ⟨b,AB+k,none⟩=some (.int .u8 (x.toNat:Int))):=yD ((((Ext.alloc _ _).trans (Ext.alloc _ _)).cell (p:=⟨b,AB+k,none⟩) Bl).trans BP.out)
 have BC:w.heap.size+1<((w.alloc (.cells #[.int .u8 0,.int .i64 0,.int .i64 0,.string ⟨#[]⟩,.int .i64 0] 29)).alloc (.cells #[.int .u8 0,.int .i64 (k:Int),.int .i64 0,.string ⟨#[]⟩,.int .i64 0] 29)).heap.size:=by simp
 go_enter Tryz.func32,Tryz.ntmps32
 go_upto_region 4 with fail
 clear b1 BP HR HB;generalize AQ:((w.alloc (.cells #[.int .u8 0,.int .i64 0,.int .i64 0,.string ⟨#[]⟩,.int .i64 0] 29)).alloc (.cells #[.int .u8 0,.int .i64 (k:Int),.int .i64 0,.string ⟨#[]⟩,.int .i64 0] 29))=w1 at *
 have AR:w.heap.size+1≠g:=by omega
 have A0:w.heap.size≠g:=by omega
 have Bk:=yD AQ;clear AQ Ax
 have Ah:b<w1.heap.size:=by omega
 have BG:Hid (w.heap.size≤w.heap.size):=yD (zU _);generalize hgs:w.heap.size=gs at *;have Aa:=yD hgs;clear hgs;have b0:w1.cell? ⟨g,0,none⟩=some (.slice (some ⟨b,AB,none⟩) l.length c):=Ar.out.blk.cell 0;have b1:w1.cell? ⟨g,1,none⟩=some (.int .i64 (k:Int)):=Ar.out.blk.cell 1;have Ax:g<w1.heap.size:=Ar.out.blk.lt;have e0:=BR.out;apply xI 13 (by kernel_rfl) (by kernel_rfl) (by kernel_rfl);dsimp only[List.take_succ_cons,List.take_zero,List.drop_succ_cons,List.drop_zero];apply sP q0 (.func (.func 69) #[] #[]);apply sP q0 (.pointer (some ⟨g,0,none⟩));apply sP q0 (.pointer (some ⟨g,0,none⟩));apply sP q0 (.pointer (some ⟨g,0,none⟩));apply sR b0 Ax q0 (.slice (some ⟨b,AB,none⟩) l.length c);apply sP q0 (.pointer (some ⟨g,0,none⟩));apply sP q0 (.pointer (some ⟨g,0,none⟩));apply sP q0 (.pointer (some ⟨g,1,none⟩));apply sR b1 Ax q0 (.int .i64 (k:Int));apply sP q0 (.pointer (some ⟨b,AB+k,none⟩));apply sR e0 Ah q0 (.int .u8 (x.toNat:Int));apply yZ (.int .u8 3) rfl rfl rfl
 ·intro w' AA hH;clear hH;simp[yY,go_sem];refine(zEp x w').mono ?_;rintro e w2 ⟨rfl,hx⟩;exact⟨_,rfl,by rw[A2.out]; rfl,hx⟩
 apply sP q0 (.pointer (some ⟨gs+1,0,none⟩));apply xN;intro w2 Al hH;clear hH;(try simp only[Act.put,yA,yC,yB]);refine VT rfl 5 (.tmp 24) (.tmp 23) rfl (gs+1) 0 (by kernel_rfl) (.int .u8 3) (by kernel_rfl) 29 _ (BL.out.ext Al) (Nat.zero_lt_succ _) rfl rfl zBS ?_;intro w3 Az BU;have AX:Blk w3 (gs+1) 29 #[.int .u8 3,.int .i64 (k:Int),.int .i64 0,.string ⟨#[]⟩,.int .i64 0]:=BU;have A7:=yD AX;have BZ:=yD (Az.blk (BT.out.ext Al) (by omega));have BW:=yD ((BO.out.trans (Mod.jY Al g)).ZN Az (by rw[Aa.out]; omega));have AT:=yD ((Ar.out.ext Al).ZN Az AR (YK (by omega)));have Bc:gs+1<w3.heap.size:=AX.lt;have AW:g<w3.heap.size:=AT.out.blk.lt
 have AH:b≠gs+1:=by omega
 have Bb:g≠gs+1:=fun e=>AR e.symm;clear Al BU AX Az BL BT BO Ar BR BC BG b0 b1 Ax e0 Ah;have t0:w3.cell? ⟨gs+1,0,none⟩=some (.int .u8 3):=A7.out.cell 0;obtain⟨tp,HP⟩:∃t,Hid ((decide (([61,61]:Bs).length≤(l.drop k).length)&&((l.drop k).take ([61,61]:Bs).length==[61,61]))=t):=⟨_,yD rfl⟩
 have BX:Hid (Cells w3 (some ⟨b,AB+k,none⟩) (xL (l.drop k))):=yD (by
  have h:=zB3 AT.out.src An k l.length;rw[zGO (by omega),List.take_of_length_le (by simp)] at h
  exact h)
 have BJ:Hid (Cells w3 (some ⟨b,AB+k,none⟩) (xL [x])):=yD (by
  have h:=zB3 AT.out.src An k 1;rw[zGO (by omega),A1.out] at h
  exact h)
 have BV:∀W,(Instr.slice 22 (.slice (some ⟨b,AB,none⟩) l.length c) (some (.int .i64 (k:Int))) (some (.int .i64 ((k:Int)+1))) none).run Tryz.prog W=.ok (.slice (some ⟨b,AB+k,none⟩) 1 (c-k)) W:=fun W=>by
  have h:=zNi W _ _ Tryz.underlying22 zBS (some ⟨b,AB,none⟩) l.length c k (k+1) (by omega) (by omega);rw[zGO (by omega),show k+1-k=1 from by omega] at h;exact h
 have Ai:∀W,(Instr.slice 22 (.slice (some ⟨b,AB,none⟩) l.length c) (some (.int .i64 (k:Int))) none none).run Tryz.prog W=.ok (.slice (some ⟨b,AB+k,none⟩) (l.length-k) (c-k)) W:=fun W=>by
  have h:=zEh W _ _ Tryz.underlying22 zBS (some ⟨b,AB,none⟩) l.length c k Bh;rw[zGO (by omega)] at h;exact h
 have Bi:=yD BV;have BH:=yD Ai;clear BV Ai
 go_upto_region 13 with fail
 clear t0;have b0:w3.cell? ⟨g,0,none⟩=some (.slice (some ⟨b,AB,none⟩) l.length c):=AT.out.blk.cell 0;have b1:w3.cell? ⟨g,1,none⟩=some (.int .i64 (k:Int)):=AT.out.blk.cell 1;apply xI 16 (by kernel_rfl) (by kernel_rfl) (by kernel_rfl);dsimp only[List.take_succ_cons,List.take_zero,List.drop_succ_cons,List.drop_zero];apply sP q0 (.pointer (some ⟨g,0,none⟩));apply sP q0 (.pointer (some ⟨g,0,none⟩));apply sP q0 (.pointer (some ⟨g,0,none⟩));apply sR b0 AW q0 (.slice (some ⟨b,AB,none⟩) l.length c);apply sP q0 (.pointer (some ⟨g,0,none⟩));apply sP q0 (.pointer (some ⟨g,0,none⟩));apply sP q0 (.pointer (some ⟨g,1,none⟩));apply sR b1 AW q0 (.int .i64 (k:Int));apply sP q0 (.pointer (some ⟨g,0,none⟩));apply sP q0 (.pointer (some ⟨g,0,none⟩));apply sP q0 (.pointer (some ⟨g,1,none⟩));apply sR b1 AW q0 (.int .i64 (k:Int));apply yZ (.int .i64 ((k:Int)+1)) rfl rfl rfl
 ·intro w' AA hH;clear hH;have AQ:IntKind.i64.wrap ((k:Int)+1)=(k:Int)+1:=IntWalk.i64_in _ (by omega);simp[yY,go_sem,AQ]
  try exact⟨by omega,Ext.refl _⟩
  try exact Ext.refl _
 apply yZ (.slice (some ⟨b,AB+k,none⟩) 1 (c-k)) rfl rfl rfl
 ·intro w' AA hH;clear hH;have hs:=Bi.out w';simp[yY,go_sem,hs]
  try exact Ext.refl _
 apply yZ (.string (yX [x])) rfl rfl rfl
 ·intro w' AA hH;clear hH;have Bd:=ZV (P:=Tryz.prog) (n:=1) (c:=c-k) Tryz.underlying22 Tryz.underlying5 Tryz.underlying9 rfl (BJ.out.ext AA);simp[yY,go_sem,Bd]
  try exact Ext.refl _
 apply sP q0 (.pointer (some ⟨gs+1,3,none⟩));apply xN;intro w4 Ad hH;clear hH;(try simp only[Act.put,yA,yC,yB]);refine VT rfl 9 (.tmp 61) (.tmp 60) rfl (gs+1) 3 (by kernel_rfl) (.string (yX [x])) (by kernel_rfl) 29 _ (A7.out.ext Ad) (by show 3<5; decide) rfl rfl (fun w=>by kernel_rfl) ?_;intro w5 Ae BM;have AV:Blk w5 (gs+1) 29 #[.int .u8 3,.int .i64 (k:Int),.int .i64 0,.string (yX [x]),.int .i64 0]:=BM;have Ao:=yD AV;have At:=yD (Ae.blk (BZ.out.ext Ad) (by omega));have Ap:=yD ((BW.out.trans (Mod.jY Ad g)).ZN Ae (by rw[Aa.out]; omega));have AG:=yD ((AT.out.ext Ad).ZN Ae AR (YK AH));have BY:=yD (Ae.cells (BX.out.ext Ad) (YK AH));have Be:gs+1<w5.heap.size:=AV.lt;have Ak:g<w5.heap.size:=AG.out.blk.lt
 have BD:∀b' Af,(some ⟨b,AB+k,none⟩:Option Addr)=some ⟨b',Af,none⟩→b'<w5.heap.size:=fun b' Af e=>by
  injection e with e;injection e with e;subst e;omega
 clear Ad BM AV Ae A7 BZ BW AT b0 b1 BX BJ;have b0:w5.cell? ⟨g,0,none⟩=some (.slice (some ⟨b,AB,none⟩) l.length c):=AG.out.blk.cell 0;have b1:w5.cell? ⟨g,1,none⟩=some (.int .i64 (k:Int)):=AG.out.blk.cell 1
 go_upto_region 14 with fail
 apply zI0 w5.heap.size [zAr w5.heap.size] 12 (by kernel_rfl) (by kernel_rfl) (by kernel_rfl) (zAr.ext _) (zU _);dsimp only[List.take_succ_cons,List.take_zero,List.drop_succ_cons,List.drop_zero];apply yZ (.pointer (some ⟨g,0,none⟩)) rfl rfl rfl
 ·intro w' AA hH;clear hH;simp[yY,go_sem,q0];exact YV AA
 apply yZ (.pointer (some ⟨g,0,none⟩)) rfl rfl rfl
 ·intro w' AA hH;clear hH;simp[yY,go_sem,q0];exact YV AA
 apply yZ (.pointer (some ⟨g,0,none⟩)) rfl rfl rfl
 ·intro w' AA hH;clear hH;simp[yY,go_sem,q0];exact YV AA
 apply yZ (.slice (some ⟨b,AB,none⟩) l.length c) rfl rfl rfl
 ·intro w' AA hH;clear hH;have z0:=(AA.1.cell (p:=⟨g,0,none⟩) Ak).trans b0;simp[yY,go_sem,z0,q0];exact YV AA
 apply yZ (.pointer (some ⟨g,0,none⟩)) rfl rfl rfl
 ·intro w' AA hH;clear hH;simp[yY,go_sem,q0];exact YV AA
 apply yZ (.pointer (some ⟨g,0,none⟩)) rfl rfl rfl
 ·intro w' AA hH;clear hH;simp[yY,go_sem,q0];exact YV AA
 apply yZ (.pointer (some ⟨g,1,none⟩)) rfl rfl rfl
 ·intro w' AA hH;clear hH;simp[yY,go_sem,q0];exact YV AA
 apply yZ (.int .i64 (k:Int)) rfl rfl rfl
 ·intro w' AA hH;clear hH;have z0:=(AA.1.cell (p:=⟨g,1,none⟩) Ak).trans b1;simp[yY,go_sem,z0,q0];exact YV AA
 apply yZ (.slice (some ⟨b,AB+k,none⟩) (l.length-k) (c-k)) rfl rfl rfl
 ·intro w' AA hH;clear hH;have hs:=BH.out w';simp[yY,go_sem,hs];exact YV AA
 apply vA (zAr w5.heap.size) zAr.mono rfl rfl rfl
 ·intro w' AA hH;clear hH;simp[yY,go_sem];exact⟨⟨w'.heap.size,(0,0),rfl,zER AA,zO _ _⟩,zBe.ext (zAr.ext _) (zER AA) (Ext.alloc _ _)⟩
 intro BN;apply vA (zAr w5.heap.size) zAr.mono rfl rfl rfl
 ·intro w' AA hH;have hy:zAr w5.heap.size BN w':=hH (some 71,zAr w5.heap.size BN) (List.mem_cons_self ..) ⟨71,rfl,by decide⟩;clear hH;have h1:=hy.choose_spec.choose_spec.1;have h2:=hy.choose_spec.choose_spec.2.1;have h3:=hy.choose_spec.choose_spec.2.2;generalize hy.choose_spec.choose=fr at h1 h2 h3;generalize hy.choose=g1 at h1 h2 h3;clear hy;subst h1;have Bf:=zCd (P:=Tryz.prog) w' 22 5 Tryz.underlying22 Tryz.underlying5 g1 2 2 h3;simp[yY,go_sem,Bf];exact⟨⟨g1,(zAn w' g1 2 h3).choose,rfl,h2,(zAn w' g1 2 h3).choose_spec⟩,zI5 (zER AA) h2 2⟩
 intro BQ;apply yZ (.bool tp) rfl rfl rfl
 ·intro w' AA hH;have hy:zAr w5.heap.size BQ w':=hH (some 72,zAr w5.heap.size BQ) (List.mem_cons_self ..) ⟨72,rfl,by decide⟩;clear hH;have h1:=hy.choose_spec.choose_spec.1;have h2:=hy.choose_spec.choose_spec.2.1;have h3:=hy.choose_spec.choose_spec.2.2;generalize hy.choose_spec.choose=fr at h1 h2 h3;generalize hy.choose=g1 at h1 h2 h3;clear hy;subst h1;simp[yY,go_sem];refine(zJK (some ⟨b,AB+k,none⟩) (some ⟨g1,0,none⟩) (l.drop k) [61,61] (l.length-k) 2 (c-k) 2 w' (by simp) rfl (by omega) (BY.out.below BD AA.1) (zQw h3) tp HP).mono ?_;rintro e w2 ⟨rfl,rfl⟩;exact⟨_,rfl,rfl,YV AA⟩
 apply xN;intro w6 Ag hH;clear hH;have Am:Ext w5 w6:=Ag.1;clear Ag;refine wpList_nil ?_;(try simp only[Act.put,yA,yC,yB]);have AS:=yD (Ao.out.ext Am);have Ay:=yD (At.out.ext Am);have AN:=yD (Ap.out.trans (Mod.jY Am g));have AF:=yD (AG.out.ext Am);have BA:gs+1<w6.heap.size:=AS.out.lt;have A3:g<w6.heap.size:=AF.out.blk.lt;clear Am Ao At Ap AG b0 b1 BY
 cases tp with
 | true=>
  have t3:=AS.out.cell 3;have f3:=AS.out.frozen 3;have AP:Hid (Blk (w6.setCell ⟨gs+1,3,none⟩ (.string (yX [61,61]))) (gs+1) 29 #[.int .u8 3,.int .i64 (k:Int),.int .i64 0,.string (yX [61,61]),.int .i64 0]):=yD (AS.out.put 3 _);have Au:=yD (Ay.out.far (p:=⟨gs+1,3,none⟩) (by simp) (.string (yX [61,61])));have Aq:=yD (AN.out.far (b:=gs+1) (by rw[Aa.out]; omega) 3 (.string (yX [61,61])));have AD:=yD (AF.out.XA AR (YK AH) 3 (.string (yX [61,61])));have Ab:gs+1<(w6.setCell ⟨gs+1,3,none⟩ (.string (yX [61,61]))).heap.size:=AP.out.lt;have AU:g<(w6.setCell ⟨gs+1,3,none⟩ (.string (yX [61,61]))).heap.size:=AD.out.blk.lt
  go_upto_region 16 with fail
  clear t3 f3 AS Ay AN AF;have BS:(⟨#[61,61]⟩:ByteArray)=yX [61,61]:=rfl;rw[BS];clear BS;generalize w6.setCell ⟨gs+1,3,none⟩ (.string (yX [61,61]))=w7 at *;have b1:w7.cell? ⟨g,1,none⟩=some (.int .i64 (k:Int)):=AD.out.blk.cell 1;have c3:w7.cell? ⟨gs+1,3,none⟩=some (.string (yX [61,61])):=AP.out.cell 3
  have AY:(yX [61,61]).size=2:=by simp[yX,ByteArray.size]
  obtain⟨en,AM⟩:∃en,Hid (k+2=en):=⟨_,yD rfl⟩;apply xI 10 (by kernel_rfl) (by kernel_rfl) (by kernel_rfl);dsimp only[List.take_succ_cons,List.take_zero,List.drop_succ_cons,List.drop_zero];apply sQ (.pointer (some ⟨g,0,none⟩));apply sQ (.pointer (some ⟨g,0,none⟩));apply sQ (.pointer (some ⟨g,1,none⟩));apply sL b1 AU (.int .i64 (k:Int));apply sQ (.pointer (some ⟨gs+1,3,none⟩));apply sL c3 Ab (.string (yX [61,61]));apply yZ (.int .i64 2) rfl rfl rfl
  ·intro w' AA hH;clear hH;simp[yY,go_sem,AY]
   try exact Ext.refl _
  apply yZ (.int .i64 (en:Int)) rfl rfl rfl
  ·intro w' AA hH;clear hH;have Bg:=AM.out;have AQ:IntKind.i64.wrap ((k:Int)+2)=(k:Int)+2:=IntWalk.i64_in _ (by omega);simp[yY,go_sem,AQ]
   try exact⟨by omega,Ext.refl _⟩
  apply sQ (.pointer (some ⟨g,0,none⟩));apply sQ (.pointer (some ⟨g,1,none⟩));apply xN;intro w8 AE hH;clear hH;(try simp only[Act.put,yA,yC,yB]);refine VT rfl 3 (.tmp 84) (.tmp 82) rfl g 1 (by kernel_rfl) (.int .i64 (en:Int)) (by kernel_rfl) 65 _ (AD.out.ext AE).blk (by show 1<2; decide) rfl rfl (fun w=>by kernel_rfl) ?_;intro w9 AI As;have AJ:Blk w9 g 65 #[.slice (some ⟨b,AB,none⟩) l.length c,.int .i64 (en:Int)]:=As;have AC:=yD (AI.blk (AP.out.ext AE) AR);have Aj:=yD (AI.blk (Au.out.ext AE) A0);have Av:=yD ((Aq.out.trans (Mod.jY AE g)).trans (Mod.zEa AI));have AL:Hid (Rd w9 g (some ⟨b,AB,none⟩) l c en):=yD ⟨AJ,AI.cells (AD.out.src.ext AE) (AD.out.far (by omega)),AD.out.far,(by have h:=HP.out; rw[←AM.out]; simp only[zF,zE,List.length_drop] at h; have:=h.1; simp at this; omega),AD.out.cap,AD.out.zHI,AD.out.big⟩;clear AE As AJ AI AP Au Aq AD b1 c3;have BF:gs+1<w9.heap.size:=AC.out.lt;have A4:g<w9.heap.size:=AL.out.blk.lt;have a1:w9.cell? ⟨g,1,none⟩=some (.int .i64 (en:Int)):=AL.out.blk.cell 1;have t0:=AC.out.cell 0;have t1:=AC.out.cell 1;have t2:=AC.out.cell 2;have t3:=AC.out.cell 3;have t4:=AC.out.cell 4;have f2:=AC.out.frozen 2;have f3:=AC.out.frozen 3;have f4:=AC.out.frozen 4
  go_upto_region 18 with fail
  have A5:Hid (Blk ((w9).setCell ⟨gs+1,2,none⟩ (.int .i64 (en:Int))) (gs+1) 29 #[.int .u8 3,.int .i64 (k:Int),.int .i64 (en:Int),.string (yX [61,61]),.int .i64 0]):=yD (AC.out.put 2 _);have BI:Hid (Blk ((w9).setCell ⟨gs+1,2,none⟩ (.int .i64 (en:Int))) gs 29 #[.int .u8 0,.int .i64 0,.int .i64 0,.string ⟨#[]⟩,.int .i64 0]):=yD (Aj.out.far (by simp) _);have BE:Hid (Mod g w ((w9).setCell ⟨gs+1,2,none⟩ (.int .i64 (en:Int)))):=yD (Av.out.far (by rw[Aa.out]; omega) 2 _);have A9:Hid (Rd ((w9).setCell ⟨gs+1,2,none⟩ (.int .i64 (en:Int))) g (some ⟨b,AB,none⟩) l c en):=yD (AL.out.XA AR (YK AH) 2 _);clear AC Aj Av AL;generalize (w9).setCell ⟨gs+1,2,none⟩ (.int .i64 (en:Int))=w5 at *
  go_wp2_with (first
   | refine zAv rfl 29 (.tmp 4) rfl (gs+1) rfl 29 _ _ A5.out Tryz.underlying29 rfl (by kernel_rfl) ?_
   | (refine vF rfl 29 (.tmp 2) (.tmp 90) rfl gs _ rfl rfl 29 _ BI.out (by kernel_rfl) rfl rfl ?_; intro w6 Aw AK))
  have z0:=AK.cell 0;have z1:=AK.cell 1;have z2:=AK.cell 2;have z3:=AK.cell 3;have z4:=AK.cell 4;refine bodyPost_ret (v:=.tuple #[zCH 3 k en [61,61] 0,.int .i64 0]) (by simp[results,Tryz.results32,go_sem,z0,z1,z2,z3,z4,zCH,zBX]) rfl ?_;have A6:=BE.out.ZN Aw (by rw[Aa.out]; exact zU _);have A8:=A9.out.ZN Aw A0 (YK (by omega));have Ac:=HP.out;simp only[zF,zE,zN] at Ac;have AZ:(l.drop k).take 2=[61,61]:=Ac.2;refine⟨A6,.inl ⟨3,2,0,?_,zGF AM.out.symm AZ.symm,by rw[AM.out]; exact A8⟩⟩;rw[A1.out] at AZ;rw[AO.out,zP1 BK.out Ba.out A2.out]
  cases hd:l.drop (k+1) with
  | nil=>rw[hd] at AZ; cases AZ
  | cons y r'=>
   rw[hd] at AZ;simp only[List.take_succ_cons,List.take_zero,List.cons.injEq] at AZ;obtain⟨rfl,rfl,_⟩:=AZ
   rfl
 | false=>
  have AP:=AS;have Au:=Ay;have Aq:=AN;have AD:=AF
  go_upto_region 16 with fail
  clear AS Ay AN AF;have Ab:=BA;have AU:=A3;generalize w6=w7 at *;have b1:w7.cell? ⟨g,1,none⟩=some (.int .i64 (k:Int)):=AD.out.blk.cell 1;have c3:w7.cell? ⟨gs+1,3,none⟩=some (.string (yX [x])):=AP.out.cell 3
  have AY:(yX [x]).size=1:=by simp[yX,ByteArray.size]
  obtain⟨en,AM⟩:∃en,Hid (k+1=en):=⟨_,yD rfl⟩;apply xI 10 (by kernel_rfl) (by kernel_rfl) (by kernel_rfl);dsimp only[List.take_succ_cons,List.take_zero,List.drop_succ_cons,List.drop_zero];apply sQ (.pointer (some ⟨g,0,none⟩));apply sQ (.pointer (some ⟨g,0,none⟩));apply sQ (.pointer (some ⟨g,1,none⟩));apply sL b1 AU (.int .i64 (k:Int));apply sQ (.pointer (some ⟨gs+1,3,none⟩));apply sL c3 Ab (.string (yX [x]));apply yZ (.int .i64 1) rfl rfl rfl
  ·intro w' AA hH;clear hH;simp[yY,go_sem,AY]
   try exact Ext.refl _
  apply yZ (.int .i64 (en:Int)) rfl rfl rfl
  ·intro w' AA hH;clear hH;have Bg:=AM.out;have AQ:IntKind.i64.wrap ((k:Int)+1)=(k:Int)+1:=IntWalk.i64_in _ (by omega);simp[yY,go_sem,AQ]
   try exact⟨by omega,Ext.refl _⟩
  apply sQ (.pointer (some ⟨g,0,none⟩));apply sQ (.pointer (some ⟨g,1,none⟩));apply xN;intro w8 AE hH;clear hH;(try simp only[Act.put,yA,yC,yB]);refine VT rfl 3 (.tmp 84) (.tmp 82) rfl g 1 (by kernel_rfl) (.int .i64 (en:Int)) (by kernel_rfl) 65 _ (AD.out.ext AE).blk (by show 1<2; decide) rfl rfl (fun w=>by kernel_rfl) ?_;intro w9 AI As;have AJ:Blk w9 g 65 #[.slice (some ⟨b,AB,none⟩) l.length c,.int .i64 (en:Int)]:=As;have AC:=yD (AI.blk (AP.out.ext AE) AR);have Aj:=yD (AI.blk (Au.out.ext AE) A0);have Av:=yD ((Aq.out.trans (Mod.jY AE g)).trans (Mod.zEa AI));have AL:Hid (Rd w9 g (some ⟨b,AB,none⟩) l c en):=yD ⟨AJ,AI.cells (AD.out.src.ext AE) (AD.out.far (by omega)),AD.out.far,(by rw[←AM.out]; omega),AD.out.cap,AD.out.zHI,AD.out.big⟩;clear AE As AJ AI AP Au Aq AD b1 c3;have BF:gs+1<w9.heap.size:=AC.out.lt;have A4:g<w9.heap.size:=AL.out.blk.lt;have a1:w9.cell? ⟨g,1,none⟩=some (.int .i64 (en:Int)):=AL.out.blk.cell 1;have t0:=AC.out.cell 0;have t1:=AC.out.cell 1;have t2:=AC.out.cell 2;have t3:=AC.out.cell 3;have t4:=AC.out.cell 4;have f2:=AC.out.frozen 2;have f3:=AC.out.frozen 3;have f4:=AC.out.frozen 4
  go_upto_region 18 with fail
  have A5:Hid (Blk ((w9).setCell ⟨gs+1,2,none⟩ (.int .i64 (en:Int))) (gs+1) 29 #[.int .u8 3,.int .i64 (k:Int),.int .i64 (en:Int),.string (yX [x]),.int .i64 0]):=yD (AC.out.put 2 _);have BI:Hid (Blk ((w9).setCell ⟨gs+1,2,none⟩ (.int .i64 (en:Int))) gs 29 #[.int .u8 0,.int .i64 0,.int .i64 0,.string ⟨#[]⟩,.int .i64 0]):=yD (Aj.out.far (by simp) _);have BE:Hid (Mod g w ((w9).setCell ⟨gs+1,2,none⟩ (.int .i64 (en:Int)))):=yD (Av.out.far (by rw[Aa.out]; omega) 2 _);have A9:Hid (Rd ((w9).setCell ⟨gs+1,2,none⟩ (.int .i64 (en:Int))) g (some ⟨b,AB,none⟩) l c en):=yD (AL.out.XA AR (YK AH) 2 _);clear AC Aj Av AL;generalize (w9).setCell ⟨gs+1,2,none⟩ (.int .i64 (en:Int))=w5 at *
  go_wp2_with (first
   | refine zAv rfl 29 (.tmp 4) rfl (gs+1) rfl 29 _ _ A5.out Tryz.underlying29 rfl (by kernel_rfl) ?_
   | (refine vF rfl 29 (.tmp 2) (.tmp 90) rfl gs _ rfl rfl 29 _ BI.out (by kernel_rfl) rfl rfl ?_; intro w6 Aw AK))
  have z0:=AK.cell 0;have z1:=AK.cell 1;have z2:=AK.cell 2;have z3:=AK.cell 3;have z4:=AK.cell 4;refine bodyPost_ret (v:=.tuple #[zCH 3 k en [x] 0,.int .i64 0]) (by simp[results,Tryz.results32,go_sem,z0,z1,z2,z3,z4,zCH,zBX]) rfl ?_;have A6:=BE.out.ZN Aw (by rw[Aa.out]; exact zU _);have A8:=A9.out.ZN Aw A0 (YK (by omega));have Ac:=HP.out;refine⟨A6,.inl ⟨3,1,0,?_,zGF AM.out.symm (by rw[A1.out]; rfl),by rw[AM.out]; exact A8⟩⟩;rw[AO.out,zP1 BK.out Ba.out A2.out];rw[A1.out] at Ac;refine if_neg ?_;intro hc;simp only[zF,zN] at hc;obtain⟨rfl,h2⟩:=hc
  cases hd:l.drop (k+1) with
  | nil=>rw[hd] at h2; cases h2
  | cons y r'=>
   rw[hd] at h2 Ac;injection h2 with h2;subst h2
   simp at Ac
theorem zOg (g:Nat)(A:Option Addr)(l:Bs)(c k:Nat)(w:World)(hr:Rd w g A l c k)(hlt:k<l.length)(hb:YA l[k]=false)(hh:(l[k]==35)=false)(hkd:XC l[k]=0) :
  Calls Tryz.prog 32 #[.pointer (some ⟨g,0,none⟩)] w (zCP g A l c k w):=by
 have Al:=hr.big;have Aw:=hr.le;have Au:=hr.cap;have AH:=hr.blk.lt;have HR:=yD hr;have AD:Hid (step (l.drop k)=JS l[k] (l.drop (k+1))):=yD (by rw[List.drop_eq_getElem_cons hlt]; rfl);have b1:w.cell? ⟨g,1,none⟩=some (.int .i64 (k:Int)):=hr.blk.cell 1;have Ay:=yD (List.drop_eq_getElem_cons hlt);obtain⟨b,AC,hA,Ax,Aq,AL⟩:=hr.byte (by omega);have Ac:=yD (AL k hlt)
 have q0:(k:Int)<(l.length:Int):=by omega
 have HB:=yD AL
 have Ah:=yD hb;have At:=yD hh;have AR:=yD hkd;clear hr AL hb hh hkd;generalize l[k]=x at *;subst hA;have AV:Hid (Blk ((w.alloc (.cells #[.int .u8 0,.int .i64 0,.int .i64 0,.string ⟨#[]⟩,.int .i64 0] 29)).alloc (.cells #[.int .u8 0,.int .i64 (k:Int),.int .i64 0,.string ⟨#[]⟩,.int .i64 0] 29)) (w.heap.size+1) 29 #[.int .u8 0,.int .i64 (k:Int),.int .i64 0,.string ⟨#[]⟩,.int .i64 0]):=yD (Blk.newAt (by simp));have AU:Hid (Blk ((w.alloc (.cells #[.int .u8 0,.int .i64 0,.int .i64 0,.string ⟨#[]⟩,.int .i64 0] 29)).alloc (.cells #[.int .u8 0,.int .i64 (k:Int),.int .i64 0,.string ⟨#[]⟩,.int .i64 0] 29)) w.heap.size 29 #[.int .u8 0,.int .i64 0,.int .i64 0,.string ⟨#[]⟩,.int .i64 0]):=yD ((Blk.new _ _ _).alloc _);have AZ:Hid (Mod g w ((w.alloc (.cells #[.int .u8 0,.int .i64 0,.int .i64 0,.string ⟨#[]⟩,.int .i64 0] 29)).alloc (.cells #[.int .u8 0,.int .i64 (k:Int),.int .i64 0,.string ⟨#[]⟩,.int .i64 0] 29))):=yD (((Mod.refl g w).alloc _).alloc _);have AE:Hid (Rd ((w.alloc (.cells #[.int .u8 0,.int .i64 0,.int .i64 0,.string ⟨#[]⟩,.int .i64 0] 29)).alloc (.cells #[.int .u8 0,.int .i64 (k:Int),.int .i64 0,.string ⟨#[]⟩,.int .i64 0] 29)) g (some ⟨b,AC,none⟩) l c k):=yD ⟨(HR.out.blk.alloc _).alloc _,HR.out.src.ext ((Ext.alloc _ _).trans (Ext.alloc _ _)),HR.out.far,HR.out.le,HR.out.cap,HR.out.zHI,HR.out.big⟩
 have AT:Hid (((w.alloc (.cells #[.int .u8 0,.int .i64 0,.int .i64 0,.string ⟨#[]⟩,.int .i64 0] 29)).alloc (.cells #[.int .u8 0,.int .i64 (k:Int),.int .i64 0,.string ⟨#[]⟩,.int .i64 0] 29)).cell? ⟨b,AC+k,none⟩=some (.int .u8 (x.toNat:Int))):=yD ((((Ext.alloc _ _).trans (Ext.alloc _ _)).cell (p:=⟨b,AC+k,none⟩) Aq).trans Ac.out)
 have AM:w.heap.size+1<((w.alloc (.cells #[.int .u8 0,.int .i64 0,.int .i64 0,.string ⟨#[]⟩,.int .i64 0] 29)).alloc (.cells #[.int .u8 0,.int .i64 (k:Int),.int .i64 0,.string ⟨#[]⟩,.int .i64 0] 29)).heap.size:=by simp
 go_enter Tryz.func32,Tryz.ntmps32
 go_upto_region 4 with fail
 clear b1 Ac HR HB;generalize hw1:((w.alloc (.cells #[.int .u8 0,.int .i64 0,.int .i64 0,.string ⟨#[]⟩,.int .i64 0] 29)).alloc (.cells #[.int .u8 0,.int .i64 (k:Int),.int .i64 0,.string ⟨#[]⟩,.int .i64 0] 29))=w1 at *
 have AK:w.heap.size+1≠g:=by omega
 have Ai:w.heap.size≠g:=by omega
 have Ap:=yD hw1;clear hw1 AH
 have AF:b<w1.heap.size:=by omega
 have AO:Hid (w.heap.size≤w.heap.size):=yD (zU _);generalize hgs:w.heap.size=gs at *;have AP:=yD hgs;clear hgs;have b0:w1.cell? ⟨g,0,none⟩=some (.slice (some ⟨b,AC,none⟩) l.length c):=AE.out.blk.cell 0;have b1:w1.cell? ⟨g,1,none⟩=some (.int .i64 (k:Int)):=AE.out.blk.cell 1;have AH:g<w1.heap.size:=AE.out.blk.lt;have e0:=AT.out;apply xI 13 (by kernel_rfl) (by kernel_rfl) (by kernel_rfl);dsimp only[List.take_succ_cons,List.take_zero,List.drop_succ_cons,List.drop_zero];apply sP q0 (.func (.func 69) #[] #[]);apply sP q0 (.pointer (some ⟨g,0,none⟩));apply sP q0 (.pointer (some ⟨g,0,none⟩));apply sP q0 (.pointer (some ⟨g,0,none⟩));apply sR b0 AH q0 (.slice (some ⟨b,AC,none⟩) l.length c);apply sP q0 (.pointer (some ⟨g,0,none⟩));apply sP q0 (.pointer (some ⟨g,0,none⟩));apply sP q0 (.pointer (some ⟨g,1,none⟩));apply sR b1 AH q0 (.int .i64 (k:Int));apply sP q0 (.pointer (some ⟨b,AC+k,none⟩));apply sR e0 AF q0 (.int .u8 (x.toNat:Int));apply yZ (.int .u8 0) rfl rfl rfl
 ·intro w' Av hH;clear hH;simp[yY,go_sem];refine(zEp x w').mono ?_;rintro e w2 ⟨rfl,hx⟩;exact⟨_,rfl,by rw[AR.out]; rfl,hx⟩
 apply sP q0 (.pointer (some ⟨gs+1,0,none⟩));apply xN;intro w2 AI hH;clear hH;(try simp only[Act.put,yA,yC,yB]);refine VT rfl 5 (.tmp 24) (.tmp 23) rfl (gs+1) 0 (by kernel_rfl) (.int .u8 0) (by kernel_rfl) 29 _ (AV.out.ext AI) (Nat.zero_lt_succ _) rfl rfl zBS ?_;intro w3 AJ AW;have AB:Blk w3 (gs+1) 29 #[.int .u8 0,.int .i64 (k:Int),.int .i64 0,.string ⟨#[]⟩,.int .i64 0]:=AW;have AA:=yD AB;have As:=yD (AJ.blk (AU.out.ext AI) (by omega));have An:=yD ((AZ.out.trans (Mod.jY AI g)).ZN AJ (by rw[AP.out]; omega));have AN:=yD ((AE.out.ext AI).ZN AJ AK (YK (by omega)));have Aj:gs+1<w3.heap.size:=AB.lt;have Af:g<w3.heap.size:=AN.out.blk.lt
 have AQ:b≠gs+1:=by omega
 have Ag:g≠gs+1:=fun e=>AK e.symm;clear AI AW AB AJ AV AU AZ AE AT AM AO b0 b1 AH e0 AF;have t0:w3.cell? ⟨gs+1,0,none⟩=some (.int .u8 0):=AA.out.cell 0;have Ad:gs+1<w3.heap.size:=AA.out.lt;have a1:w3.cell? ⟨g,1,none⟩=some (.int .i64 (k:Int)):=AN.out.blk.cell 1;clear t0;have t0:=AA.out.cell 0;have t1:=AA.out.cell 1;have t2:=AA.out.cell 2;have t3:=AA.out.cell 3;have t4:=AA.out.cell 4;have f2:=AA.out.frozen 2;have f3:=AA.out.frozen 3;have f4:=AA.out.frozen 4;have AS:=AA;have Ab:=As;have AX:=An;have AY:=AN
 go_upto_region 18 with fail
 have Ao:Hid (Blk ((w3).setCell ⟨gs+1,2,none⟩ (.int .i64 (k:Int))) (gs+1) 29 #[.int .u8 0,.int .i64 (k:Int),.int .i64 (k:Int),.string ⟨#[]⟩,.int .i64 0]):=yD (AS.out.put 2 _);have Am:Hid (Blk ((w3).setCell ⟨gs+1,2,none⟩ (.int .i64 (k:Int))) gs 29 #[.int .u8 0,.int .i64 0,.int .i64 0,.string ⟨#[]⟩,.int .i64 0]):=yD (Ab.out.far (by simp) _);have Ak:Hid (Mod g w ((w3).setCell ⟨gs+1,2,none⟩ (.int .i64 (k:Int)))):=yD (AX.out.far (by rw[AP.out]; omega) 2 _);have Ae:Hid (Rd ((w3).setCell ⟨gs+1,2,none⟩ (.int .i64 (k:Int))) g (some ⟨b,AC,none⟩) l c k):=yD (AY.out.XA AK (YK AQ) 2 _);clear AS Ab AX AY;generalize (w3).setCell ⟨gs+1,2,none⟩ (.int .i64 (k:Int))=w5 at *
 go_wp2_with (first
  | refine zAv rfl 29 (.tmp 4) rfl (gs+1) rfl 29 _ _ Ao.out Tryz.underlying29 rfl (by kernel_rfl) ?_
  | (refine vF rfl 29 (.tmp 2) (.tmp 90) rfl gs _ rfl rfl 29 _ Am.out (by kernel_rfl) rfl rfl ?_; intro w6 Aa AG))
 have z0:=AG.cell 0;have z1:=AG.cell 1;have z2:=AG.cell 2;have z3:=AG.cell 3;have z4:=AG.cell 4;refine bodyPost_ret (v:=.tuple #[zCH 0 k k [] 0,.int .i64 30]) (by simp[results,Tryz.results32,go_sem,z0,z1,z2,z3,z4,zCH,zBX]) rfl ?_;have Ar:=Ak.out.ZN Aa (by rw[AP.out]; exact zU _);have Az:=Ae.out.ZN Aa Ai (YK (by omega));refine⟨Ar,.inr ⟨30,0,k,[],0,?_,by decide,rfl⟩⟩;rw[AD.out,zSB Ah.out At.out AR.out]
theorem zPP (g:Nat)(A:Option Addr)(l:Bs)(c k:Nat)(w:World)(hr:Rd w g A l c k)(hlt:k<l.length)(hb:YA l[k]=false)(hh:(l[k]==35)=false) :
  Calls Tryz.prog 32 #[.pointer (some ⟨g,0,none⟩)] w (zCP g A l c k w):=by
 have h:XC l[k]=1∨XC l[k]=2∨XC l[k]=3∨XC l[k]=0:=by
  unfold XC
  split
  ·exact .inl rfl
  ·split
   ·exact .inr (.inl rfl)
   ·split
    ·exact .inr (.inr (.inl rfl))
    ·exact .inr (.inr (.inr rfl))
 rcases h with h | h | h | h
 ·exact zKN g A l c k w hr hlt hb hh h
 ·exact zLP g A l c k w hr hlt hb hh h
 ·exact zNR g A l c k w hr hlt hb hh h
 ·exact zOg g A l c k w hr hlt hb hh h
end Go.Proofs.YtioffpjajhalaaaGreatDoor
