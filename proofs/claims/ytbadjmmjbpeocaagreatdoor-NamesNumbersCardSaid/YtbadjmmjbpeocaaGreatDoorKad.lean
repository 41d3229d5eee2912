/- reader.next, walked. Condition: the reader's block is known whole, the source does not lie in it, and a byte is left. -/
import Derived.Test.YtbadjmmjbpeocaaGreatDoorKaa
import Derived.Test.YtbadjmmjbpeocaaGreatDoorKac
import Derived.StillTailTactics
import Derived.Deep.Cut
import Derived.IntWalk
set_option linter.unusedVariables false
set_option linter.unusedSimpArgs false
set_option maxRecDepth 100000
set_option maxHeartbeats 16000000
namespace Go.Proofs.YtbadjmmjbpeocaaGreatDoor
open Go Go.RowKit
theorem zAx {P:Program}{ops:Array Oper}{rest:List Oper}{o:Oper}{a:Act}{w:World}{Q:Exit→Act→World→Prop}(hgd:o.guard=none)(ty:TypeId)(x y:Operand)(ho:o.op=.store ty x y)
  (g i:Nat) (hx:a.eval x=.pointer (some ⟨g,i,none⟩)) (v:Value) (hy:a.eval y=v) (t:TypeId) (cs:Array Value) (hg:Blk w g t cs) (hi:i<cs.size) (h1:v.oneCell'=true) (hv:v.cells=#[v]) (hsz:∀w,(Go.sizeOf ty).run P w=.ok 1 w)
  (h:∀w',Touch g w w'→Blk w' g t (cs.setIfInBounds i v)→wpList P ops Q rest (a.put o.dst undef) w'):wpList P ops Q (o::rest) a w:=by
 have hc:w.cell? ⟨g,i,none⟩=some cs[i]:=by rw[hg.cell]; simp[hi]
 have hf:=hg.frozen i
 have hrun:(storeVar ty ⟨g,i,none⟩ v).run P w=.ok () (w.setCell ⟨g,i,none⟩ v):=by
  simp[storeVar,hv,hsz,storeCells,Addr.add,Result.andThen];rw[run_store P w _ _ _ h1];simp[hc,hf]
 refine wpList_plain hgd fun K hK=>?_;unfold Oper.wp execOp;simp only[ho,hx,hy,Instr.storeAt,Instr.sureAddr,Sem.run_bind,Sem.run_pure,hrun,Result.andThen_ok];refine hK _ _ (h (w.setCell ⟨g,i,none⟩ v) ⟨rfl,rfl,rfl,by simp[World.setCell],fun k hk=>zS _ _ _ _ hk⟩ (hg.put i v))
theorem Blk.newAt {w:World}{o:Obj}{t:TypeId}{cs:Array Value}{g:Nat}(hg:(w.alloc o).heap.size=g):Blk ((w.alloc o).alloc (.cells cs t)) g t cs:=by subst hg; exact Blk.new _ _ _
def zDY (kd at_ en:Nat)(x:Bs)(n:Int):Value:=.agg #[.int .u8 (kd:Int),.int .i64 (at_:Int),.int .i64 (en:Int),.string (xI x),.int .i64 n]
theorem zQE:zAl ⟨#[97,98,99,100,101,102,103,104,105,106,107,108,109,110,111,112,113,114,115,116,117,118,119,120,121,122,48,49,50,51,52,53,54,55,56,57,95]⟩ zDT:=by unfold zAl; decide +kernel
theorem zNv:zAl ⟨#[48,49,50,51,52,53,54,55,56,57]⟩ ZT:=zFm
theorem Mod.ZX {g b:Nat}{w w' w'':World}(h:Mod g w w')(t:Touch b w' w'')(hb:w.heap.size≤b):Mod g w w'':=
 ⟨t.os.trans h.os,t.tape.trans h.tape,t.output.trans h.output,by rw[t.size]; exact h.size,fun k hk hg=>(t.other k (by omega)).trans (h.other k hk hg)⟩
theorem Rd.ZX {w w':World}{g b:Nat}{A:Option Addr}{l:Bs}{c k:Nat}(h:Rd w g A l c k)(t:Touch b w w')(hb:b≠g)(ha:∀b' off,A=some ⟨b',off,none⟩→b'≠b):Rd w' g A l c k:=
 ⟨t.blk h.blk (Ne.symm hb),t.cells h.src ha,h.far,h.le,h.cap,h.zJs,h.big⟩
theorem Rd.ext {w w':World}{g:Nat}{A:Option Addr}{l:Bs}{c k:Nat}(h:Rd w g A l c k)(t:Ext w w'):Rd w' g A l c k:=
 ⟨h.blk.ext t,h.src.ext t,h.far,h.le,h.cap,h.zJs,h.big⟩
theorem Rd.XY {w:World}{g b:Nat}{A:Option Addr}{l:Bs}{c k:Nat}(h:Rd w g A l c k)(hb:b≠g)(ha:∀b' off,A=some ⟨b',off,none⟩→b'≠b)(i:Nat)(v:Value):Rd (w.setCell ⟨b,i,none⟩ v) g A l c k:=
 h.ZX ⟨rfl,rfl,rfl,by simp[World.setCell],fun k hk=>zS _ _ _ _ hk⟩ hb ha
theorem zPn (g:Nat)(A:Option Addr)(l:Bs)(c k:Nat)(s:ByteArray)(p:UInt8→Bool)(hs:zAl s p)(w:World)(hr:Rd w g A l c k)(u:Bs)(hu:Hid ((l.drop k).takeWhile p=u))(en:Nat)(hen:Hid (k+u.length=en)) :
  Calls Tryz.prog 78 #[.pointer (some ⟨g,0,none⟩),.string s] w fun e w'=>e=.returned (.string (xI u))∧Mod g w w'∧Rd w' g A l c en:=by
 have h:=zEP g A l c k s p hs w hr;rw[hu.out,hen.out] at h;exact h
theorem YZ {b off g:Nat}(h:b≠g):∀b' off',(some (⟨b,off,none⟩:Addr))=some ⟨b',off',none⟩→b'≠g:=by
 intro b' off' e;injection e with e;injection e with e1;subst e1;exact h
theorem zIv {kd k en en':Nat}{x x':Bs}{n er:Int}(h1:en=en')(h2:x=x'):Ending.returned (.tuple #[zDY kd k en x n,.int .i64 er])=.returned (.tuple #[zDY kd k en' x' n,.int .i64 er]):=by rw[h1,h2]
theorem zUB {x:UInt8}(h:XZ x=1):JA x=true:=by
 unfold XZ at h; split at h
 ·assumption
 ·split at h
  ·omega
  ·split at h <;> omega
theorem zUu {x:UInt8}(h:XZ x=2):JA x=false∧ZT x=true:=by
 unfold XZ at h; split at h
 ·omega
 ·rename_i h1
  split at h
  ·rename_i h2; exact⟨by simpa using h1,h2⟩
  ·split at h <;> omega
theorem zUN {x:UInt8}(h:XZ x=3):JA x=false∧ZT x=false∧zI6 x=true:=by
 unfold XZ at h; split at h
 ·omega
 ·rename_i h1
  split at h
  ·omega
  ·rename_i h2
   split at h
   ·rename_i h3; exact⟨by simpa using h1,by simpa using h2,h3⟩
   ·omega
theorem zUO {x:UInt8}(h:XZ x=0):JA x=false∧ZT x=false∧zI6 x=false:=by
 unfold XZ at h; split at h
 ·omega
 ·rename_i h1
  split at h
  ·omega
  ·rename_i h2
   split at h
   ·omega
   ·rename_i h3; exact⟨by simpa using h1,by simpa using h2,by simpa using h3⟩
theorem zUL {x:UInt8}{r:Bs}(hb:XH x=false)(hh:(x==35)=false)(hk:XZ x=1):zA1 x r=.tok 1 ((x::r).takeWhile zDT).length 0:=by
 have h:=zUB hk
 have hw:zDT x=true:=by unfold zDT; rw[h]; rfl
 unfold zA1;rw[hb,hh,h,List.takeWhile_cons,hw];simp[Nat.add_comm]
theorem zRP {x:UInt8}{r:Bs}(hb:XH x=false)(hh:(x==35)=false)(hk:XZ x=2):zA1 x r=match zCL 0 ((x::r).takeWhile ZT) with | none=>.bad 31 | some n=>.tok 2 ((x::r).takeWhile ZT).length n:=by
 obtain⟨h1,h2⟩:=zUu hk;unfold zA1 zO9;rw[hb,hh,h1,h2,List.takeWhile_cons,h2];simp only[Bool.false_eq_true,if_false,if_true,zK];rw[Nat.add_comm]
 cases zCL 0 (x::r.takeWhile ZT) <;> rfl
theorem zRN {x:UInt8}{r:Bs}(hb:XH x=false)(hh:(x==35)=false)(hk:XZ x=3):zA1 x r=if x==61&&r.head?==some 61 then .tok 3 2 0 else .tok 3 1 0:=by
 obtain⟨h1,h2,h3⟩:=zUN hk;unfold zA1;rw[hb,hh,h1,h2,h3]
 simp
theorem zUI {x:UInt8}{r:Bs}(hb:XH x=false)(hh:(x==35)=false)(hk:XZ x=0):zA1 x r=.bad 30:=by
 obtain⟨h1,h2,h3⟩:=zUO hk
 have h61:(x==61)=false:=by
  rw[yI];intro e;subst e
  revert h3
  decide
 unfold zA1;rw[hb,hh,h1,h2,h3,h61]
 rfl
def zCf (N:Nat)(Fs:List (Value→World→Prop))(w w':World):Prop:=Below N w w'∧N≤w.heap.size∧∀F ∈ Fs,∀v,F v w→F v w'
theorem zCf.trans {N:Nat}{Fs:List (Value→World→Prop)}(a b c:World)(h:zCf N Fs a b)(k:zCf N Fs b c):zCf N Fs a c:=⟨h.1.trans k.1,h.2.1,fun F hF v hv=>k.2.2 F hF v (h.2.2 F hF v hv)⟩
theorem zCf.ext {N:Nat}{Fs:List (Value→World→Prop)}{w w':World}(hE:∀F ∈ Fs,∀v w w',F v w→Ext w w'→F v w')(hN:N≤w.heap.size)(h:Ext w w'):zCf N Fs w w':=⟨Below.mono h hN,hN,fun F hF v hv=>hE F hF v _ _ hv h⟩
theorem zLe {P:Program}{id:Nat}{Q':Exit→Act→World→Prop}{a:Act}{w:World}{l:List Oper}{ks:List Take}(N:Nat)(Fs:List (Value→World→Prop))(m:Nat)(hm:P.follows .mixedOrders=true)(hB:YF l.toArray m=true)(hT:zCh l.toArray m=true)
  (hE:∀F ∈ Fs,∀v w w',F v w→Ext w w'→F v w') (hN:N≤w.heap.size)
  (h:XL P l.toArray (zCf N Fs) w (fun a' w'=>wpList P l.toArray Q' (l.drop m) a' w') (l.take m) ks a []):(Code.region id l.toArray true).wp P Q' a w:=
 XJ (R:=zCf N Fs) m ks hm hB hT (fun _ _ _=>zCf.trans _ _ _) (zCf.ext hE hN (Below.drew (Below.refl _ _))) h
theorem XS {N:Nat}{Fs:List (Value→World→Prop)}{w0 w:World}(h:zCf N Fs w0 w):zCf N Fs w w:=⟨Below.refl _ _,Nat.le_trans h.2.1 h.1.size,fun F hF v hv=>hv⟩
theorem zGC {N:Nat}{Fs:List (Value→World→Prop)}{w0 w:World}(h:zCf N Fs w0 w):N≤w.heap.size:=Nat.le_trans h.2.1 h.1.size
def zA5 (N:Nat)(v:Value)(w:World):Prop:=∃(g:Nat) (fr:Nat × Nat),v=.slice (some ⟨g,0,none⟩) 2 2∧N≤g∧w.heap[g]?=some (.cells #[.int .u8 61,.int .u8 61] 5 fr)
theorem zA5.ext (N:Nat):∀F ∈ [zA5 N],∀v w w',F v w→Ext w w'→F v w':=by
 intro F hF v w w' h hx;rw[yN] at hF;subst hF;obtain⟨g,fr,h1,h2,h3⟩:=h;exact⟨g,fr,h1,h2,(hx.block g (Array.getElem?_eq_some_iff.1 h3).1).trans h3⟩
theorem zA5.mono {N:Nat}(v:Value)(w w':World)(h:zA5 N v w)(hx:zCf N [zA5 N] w w'):zA5 N v w':=hx.2.2 _ (List.mem_singleton.2 rfl) v h
theorem zEs (w:World)(g i k:Nat)(h:k≠g):(w.freeze ⟨g,i,none⟩ 1).heap[k]?=w.heap[k]?:=by
 simp only[World.freeze];rw[if_neg (by omega)];simp only[Array.getElem?_modify];rw[if_neg (by omega)]
theorem zAY (w:World)(g i:Nat){cs:Array Value}{t:TypeId}{fr:Nat × Nat}(h:w.heap[g]?=some (.cells cs t fr)):∃fr',(w.freeze ⟨g,i,none⟩ 1).heap[g]?=some (.cells cs t fr'):=by
 simp only[World.freeze];rw[if_neg (by omega)];simp only[Array.getElem?_modify];simp[h]
theorem zLo {N g:Nat}{w:World}(hN:N≤w.heap.size)(hg:N≤g)(i:Nat):zCf N [zA5 N] w (w.freeze ⟨g,i,none⟩ 1):=by
 refine⟨⟨rfl,rfl,rfl,by simp[World.freeze],fun k hk=>zEs w g i k (by omega)⟩,hN,fun F hF v h=>?_⟩;rw[yN] at hF;subst hF;obtain⟨g',fr,h1,h2,h3⟩:=h
 by_cases hgg:g'=g
 ·subst hgg;obtain⟨fr',h4⟩:=zAY w g' i h3;exact⟨g',fr',h1,h2,h4⟩
 ·exact⟨g',fr,h1,h2,(zEs w g i g' hgg).trans h3⟩
theorem zDi {P:Program}(w:World)(t e:TypeId)(ht:P.underlying t=some (.slice e))(he:P.underlying e=some (.int .u8))(g n c:Nat){cs:Array Value}{fr:Nat × Nat}{e':TypeId}(h:w.heap[g]?=some (.cells cs e' fr)) :
  (convert t t (.slice (some ⟨g,0,none⟩) n c)).run P w=.ok (.slice (some ⟨g,0,none⟩) n c) (w.freeze ⟨g,cs.size,none⟩ 1):=by
 have hsh:w.shape? g=some (e',cs.size):=by unfold World.shape?; rw[h]
 simp[convert,run_underlying ht,run_underlying he,markStringish,hsh,Result.andThen]
theorem zSm {w:World}{g:Nat}{fr:Nat × Nat}(h:w.heap[g]?=some (.cells #[.int .u8 61,.int .u8 61] 5 fr)):Cells w (some ⟨g,0,none⟩) (vB [61,61]):=
 .inr ⟨g,0,rfl,(Array.getElem?_eq_some_iff.1 h).1,fun k hk=>by rw[Nat.zero_add,cell_of_row w g k _ _ fr h]; simp[vB]⟩
theorem zC4:xI []=⟨#[]⟩:=rfl
theorem zID {b off c k:Nat}(h:k<c):zDI (some ⟨b,off,none⟩) c k=some ⟨b,off+k,none⟩:=by
 unfold zDI;rw[if_neg (by omega)];simp only[Option.map_some,Addr.add]
 split
 ·rename_i h0; subst h0; rfl
 ·rfl
theorem zL7 (A B:Option Addr)(a b:Bs)(n m c d:Nat)(w:World)(hn:n=a.length)(hm:m=b.length)(hc:n≤c)(hA:Cells w A (vB a))(hB:Cells w B (vB b))(t:Bool)(ht:Hid ((decide (b.length≤a.length)&&(a.take b.length==b))=t)) :
  Calls Tryz.prog 83 #[.slice A n c,.slice B m d] w fun e w'=>e=.returned (.bool t)∧w'=w:=by
 have h:=zJE A B a b n m c d w hn hm hc hA hB;rw[ht.out] at h;exact h
def zEc (g:Nat)(A:Option Addr)(l:Bs)(c k:Nat)(w:World)(e:Ending)(w':World):Prop:=
 Mod g w w'∧((∃kd j n,step (l.drop k)=.tok kd j n∧e=.returned (.tuple #[zDY kd k (k+j) ((l.drop k).take j) n,.int .i64 0])∧Rd w' g A l c (k+j)) ∨
    (∃er kd en x n,step (l.drop k)=.bad er∧er≠0∧e=.returned (.tuple #[zDY kd k en x n,.int .i64 er])))
theorem zM2 (g:Nat)(A:Option Addr)(l:Bs)(c k:Nat)(w:World)(hr:Rd w g A l c k)(hlt:k<l.length)(hb:XH l[k]=false)(hh:(l[k]==35)=false)(hkd:XZ l[k]=1) :
  Calls Tryz.prog 43 #[.pointer (some ⟨g,0,none⟩)] w (zEc g A l c k w):=by
 have hbig:=hr.big;have hle:=hr.le;have hcap:=hr.cap;have hgl:=hr.blk.lt;have HR:=yG hr;have HSTEP:Hid (step (l.drop k)=zA1 l[k] (l.drop (k+1))):=yG (by rw[List.drop_eq_getElem_cons hlt]; rfl);have b1:w.cell? ⟨g,1,none⟩=some (.int .i64 (k:Int)):=hr.blk.cell 1;have HDR:=yG (List.drop_eq_getElem_cons hlt);obtain⟨b,off,hA,hbg,hbw,hby⟩:=hr.byte (by omega);have HE0:=yG (hby k hlt)
 have q0:(k:Int)<(l.length:Int):=by omega
 have HB:=yG hby
 have HBL:=yG hb;have HHS:=yG hh;have HKD:=yG hkd;clear hr hby hb hh hkd;generalize l[k]=x at *;subst hA;have hW1:Hid (Blk ((w.alloc (.cells #[.int .u8 0,.int .i64 0,.int .i64 0,.string ⟨#[]⟩,.int .i64 0] 75)).alloc (.cells #[.int .u8 0,.int .i64 (k:Int),.int .i64 0,.string ⟨#[]⟩,.int .i64 0] 75)) (w.heap.size+1) 75 #[.int .u8 0,.int .i64 (k:Int),.int .i64 0,.string ⟨#[]⟩,.int .i64 0]):=yG (Blk.newAt (by simp));have hW0:Hid (Blk ((w.alloc (.cells #[.int .u8 0,.int .i64 0,.int .i64 0,.string ⟨#[]⟩,.int .i64 0] 75)).alloc (.cells #[.int .u8 0,.int .i64 (k:Int),.int .i64 0,.string ⟨#[]⟩,.int .i64 0] 75)) w.heap.size 75 #[.int .u8 0,.int .i64 0,.int .i64 0,.string ⟨#[]⟩,.int .i64 0]):=yG ((Blk.new _ _ _).alloc _);have hWM:Hid (Mod g w ((w.alloc (.cells #[.int .u8 0,.int .i64 0,.int .i64 0,.string ⟨#[]⟩,.int .i64 0] 75)).alloc (.cells #[.int .u8 0,.int .i64 (k:Int),.int .i64 0,.string ⟨#[]⟩,.int .i64 0] 75))):=yG (((Mod.refl g w).alloc _).alloc _);have hWR:Hid (Rd ((w.alloc (.cells #[.int .u8 0,.int .i64 0,.int .i64 0,.string ⟨#[]⟩,.int .i64 0] 75)).alloc (.cells #[.int .u8 0,.int .i64 (k:Int),.int .i64 0,.string ⟨#[]⟩,.int .i64 0] 75)) g (some ⟨b,off,none⟩) l c k):=yG ⟨(HR.out.blk.alloc _).alloc _,HR.out.src.ext ((Ext.alloc _ _).trans (Ext.alloc _ _)),HR.out.far,HR.out.le,HR.out.cap,HR.out.zJs,HR.out.big⟩
 have hEC:Hid (((w.alloc (.cells #[.int .u8 0,.int .i64 0,.int .i64 0,.string ⟨#[]⟩,.int .i64 0] 75)).alloc (.cells #[.int .u8 0,.int .i64 (k:Int),.int .i64 0,.string ⟨#[]⟩,.int .i64 0] 75)).cell? ⟨b,off+k,none⟩=some (.int .u8 (x.toNat:Int))):=yG ((((Ext.alloc _ _).trans (Ext.alloc _ _)).cell (p:=⟨b,off+k,none⟩) hbw).trans HE0.out)
 have hsz1:w.heap.size+1<((w.alloc (.cells #[.int .u8 0,.int .i64 0,.int .i64 0,.string ⟨#[]⟩,.int .i64 0] 75)).alloc (.cells #[.int .u8 0,.int .i64 (k:Int),.int .i64 0,.string ⟨#[]⟩,.int .i64 0] 75)).heap.size:=by simp
 go_enter Tryz.func43,Tryz.ntmps43
 go_upto_region 4 with fail
 clear b1 HE0 HR HB;generalize hw1:((w.alloc (.cells #[.int .u8 0,.int .i64 0,.int .i64 0,.string ⟨#[]⟩,.int .i64 0] 75)).alloc (.cells #[.int .u8 0,.int .i64 (k:Int),.int .i64 0,.string ⟨#[]⟩,.int .i64 0] 75))=w1 at *
 have hgt:w.heap.size+1≠g:=by omega
 have hgz:w.heap.size≠g:=by omega
 have HW1E:=yG hw1;clear hw1 hgl
 have hbw1:b<w1.heap.size:=by omega
 have hle0:Hid (w.heap.size≤w.heap.size):=yG (zX _);generalize hgs:w.heap.size=gs at *;have HGS:=yG hgs;clear hgs;have b0:w1.cell? ⟨g,0,none⟩=some (.slice (some ⟨b,off,none⟩) l.length c):=hWR.out.blk.cell 0;have b1:w1.cell? ⟨g,1,none⟩=some (.int .i64 (k:Int)):=hWR.out.blk.cell 1;have hgl:g<w1.heap.size:=hWR.out.blk.lt;have e0:=hEC.out;apply xU 13 (by kernel_rfl) (by kernel_rfl) (by kernel_rfl);dsimp only[List.take_succ_cons,List.take_zero,List.drop_succ_cons,List.drop_zero];apply yZ (.func (.func 80) #[] #[]) rfl rfl rfl
 ·intro w' hw' hH;clear hH;simp[xB,go_sem,q0];exact Ext.refl _
 apply yZ (.pointer (some ⟨g,0,none⟩)) rfl rfl rfl
 ·intro w' hw' hH;clear hH;simp[xB,go_sem,q0];exact Ext.refl _
 apply yZ (.pointer (some ⟨g,0,none⟩)) rfl rfl rfl
 ·intro w' hw' hH;clear hH;simp[xB,go_sem,q0];exact Ext.refl _
 apply yZ (.pointer (some ⟨g,0,none⟩)) rfl rfl rfl
 ·intro w' hw' hH;clear hH;simp[xB,go_sem,q0];exact Ext.refl _
 apply yZ (.slice (some ⟨b,off,none⟩) l.length c) rfl rfl rfl
 ·intro w' hw' hH;clear hH;have z0:=(hw'.cell (p:=⟨g,0,none⟩) hgl).trans b0;simp[xB,go_sem,z0,q0];exact Ext.refl _
 apply yZ (.pointer (some ⟨g,0,none⟩)) rfl rfl rfl
 ·intro w' hw' hH;clear hH;simp[xB,go_sem,q0];exact Ext.refl _
 apply yZ (.pointer (some ⟨g,0,none⟩)) rfl rfl rfl
 ·intro w' hw' hH;clear hH;simp[xB,go_sem,q0];exact Ext.refl _
 apply yZ (.pointer (some ⟨g,1,none⟩)) rfl rfl rfl
 ·intro w' hw' hH;clear hH;simp[xB,go_sem,q0];exact Ext.refl _
 apply yZ (.int .i64 (k:Int)) rfl rfl rfl
 ·intro w' hw' hH;clear hH;have z0:=(hw'.cell (p:=⟨g,1,none⟩) hgl).trans b1;simp[xB,go_sem,z0,q0];exact Ext.refl _
 apply yZ (.pointer (some ⟨b,off+k,none⟩)) rfl rfl rfl
 ·intro w' hw' hH;clear hH;simp[xB,go_sem,q0];exact Ext.refl _
 apply yZ (.int .u8 (x.toNat:Int)) rfl rfl rfl
 ·intro w' hw' hH;clear hH;have z0:=(hw'.cell (p:=⟨b,off+k,none⟩) hbw1).trans e0;simp[xB,go_sem,z0,q0];exact Ext.refl _
 apply yZ (.int .u8 1) rfl rfl rfl
 ·intro w' hw' hH;clear hH;simp[xB,go_sem];refine(zF2 x w').mono ?_;rintro e w2 ⟨rfl,hx⟩;exact⟨_,rfl,by rw[HKD.out]; rfl,hx⟩
 apply yZ (.pointer (some ⟨gs+1,0,none⟩)) rfl rfl rfl
 ·intro w' hw' hH;clear hH;simp[xB,go_sem,q0];exact Ext.refl _
 apply vC;intro w2 hw2 hH;clear hH;simp only[Act.put,yD,yF,yE];refine zAx rfl 5 (.tmp 24) (.tmp 23) rfl (gs+1) 0 (by kernel_rfl) (.int .u8 1) (by kernel_rfl) 75 _ (hW1.out.ext hw2) (Nat.zero_lt_succ _) rfl rfl zCT ?_;intro w3 ht3 hb3;have hb3':Blk w3 (gs+1) 75 #[.int .u8 1,.int .i64 (k:Int),.int .i64 0,.string ⟨#[]⟩,.int .i64 0]:=hb3;have HT3:=yG hb3';have HZ3:=yG (ht3.blk (hW0.out.ext hw2) (by omega));have HM3:=yG ((hWM.out.trans (Mod.ZJ hw2 g)).ZX ht3 (by rw[HGS.out]; omega));have HR3:=yG ((hWR.out.ext hw2).ZX ht3 hgt (YZ (by omega)));have hgs3:gs+1<w3.heap.size:=hb3'.lt;have hgl3:g<w3.heap.size:=HR3.out.blk.lt
 have hbg3:b≠gs+1:=by omega
 have hgt':g≠gs+1:=fun e=>hgt e.symm;clear hw2 hb3 hb3' ht3 hW1 hW0 hWM hWR hEC hsz1 hle0 b0 b1 hgl e0 hbw1;have t0:w3.cell? ⟨gs+1,0,none⟩=some (.int .u8 1):=HT3.out.cell 0;obtain⟨u,HU⟩:∃u,Hid ((l.drop k).takeWhile zDT=u):=⟨_,yG rfl⟩;obtain⟨en,HEN⟩:∃en,Hid (k+u.length=en):=⟨_,yG rfl⟩
 go_wp2_with fail
 refine(zPn g _ l c k _ zDT zQE w3 HR3.out u HU en HEN).mono ?_;rintro e w4 ⟨rfl,hm4,hr4⟩;have HT4:=yG (hm4.blk HT3.out hgt);have HZ4:=yG (hm4.blk HZ3.out hgz);have HM4:=yG (HM3.out.trans hm4);have HR4:=yG hr4;have hgs4:gs+1<w4.heap.size:=HT4.out.lt;have hgl4:g<w4.heap.size:=HR4.out.blk.lt;have a1:w4.cell? ⟨g,1,none⟩=some (.int .i64 (en:Int)):=HR4.out.blk.cell 1;clear hm4 hr4 HT3 HZ3 HM3 HR3 t0;have t0:=HT4.out.cell 0;have t1:=HT4.out.cell 1;have t2:=HT4.out.cell 2;have t3:=HT4.out.cell 3;have t4:=HT4.out.cell 4;have f2:=HT4.out.frozen 2;have f3:=HT4.out.frozen 3;have f4:=HT4.out.frozen 4;have HTE:Hid (Blk (w4.setCell ⟨gs+1,3,none⟩ (.string (xI u))) (gs+1) 75 #[.int .u8 1,.int .i64 (k:Int),.int .i64 0,.string (xI u),.int .i64 0]):=yG (HT4.out.put 3 _);have HZE:=yG (HZ4.out.far (p:=⟨gs+1,3,none⟩) (by simp) (.string (xI u)));have HME:=yG (HM4.out.far (b:=gs+1) (by rw[HGS.out]; omega) 3 (.string (xI u)));have HRE:=yG (HR4.out.XY hgt (YZ hbg3) 3 (.string (xI u)))
 go_upto_region 18 with fail
 have HT5:Hid (Blk ((w4.setCell ⟨gs+1,3,none⟩ (.string (xI u))).setCell ⟨gs+1,2,none⟩ (.int .i64 (en:Int))) (gs+1) 75 #[.int .u8 1,.int .i64 (k:Int),.int .i64 (en:Int),.string (xI u),.int .i64 0]):=yG (HTE.out.put 2 _);have HZ5:Hid (Blk ((w4.setCell ⟨gs+1,3,none⟩ (.string (xI u))).setCell ⟨gs+1,2,none⟩ (.int .i64 (en:Int))) gs 75 #[.int .u8 0,.int .i64 0,.int .i64 0,.string ⟨#[]⟩,.int .i64 0]):=yG (HZE.out.far (by simp) _);have HM5:Hid (Mod g w ((w4.setCell ⟨gs+1,3,none⟩ (.string (xI u))).setCell ⟨gs+1,2,none⟩ (.int .i64 (en:Int)))):=yG (HME.out.far (by rw[HGS.out]; omega) 2 _);have HR5:Hid (Rd ((w4.setCell ⟨gs+1,3,none⟩ (.string (xI u))).setCell ⟨gs+1,2,none⟩ (.int .i64 (en:Int))) g (some ⟨b,off,none⟩) l c en):=yG (HRE.out.XY hgt (YZ hbg3) 2 _);clear HTE HZE HME HRE;generalize (w4.setCell ⟨gs+1,3,none⟩ (.string (xI u))).setCell ⟨gs+1,2,none⟩ (.int .i64 (en:Int))=w5 at *
 go_wp2_with (first
  | refine zBa rfl 75 (.tmp 4) rfl (gs+1) rfl 75 _ _ HT5.out Tryz.underlying75 rfl (by kernel_rfl) ?_
  | (refine vK rfl 75 (.tmp 2) (.tmp 90) rfl gs _ rfl rfl 75 _ HZ5.out (by kernel_rfl) rfl rfl ?_; intro w6 ht6 hb6))
 have z0:=hb6.cell 0;have z1:=hb6.cell 1;have z2:=hb6.cell 2;have z3:=hb6.cell 3;have z4:=hb6.cell 4;refine bodyPost_ret (v:=.tuple #[zDY 1 k en u 0,.int .i64 0]) (by simp[results,Tryz.results43,go_sem,z0,z1,z2,z3,z4,zDY,zC4]) rfl ?_;have HM6:=HM5.out.ZX ht6 (by rw[HGS.out]; exact zX _);have HR6:=HR5.out.ZX ht6 hgz (YZ (by omega));refine⟨HM6,.inl ⟨1,u.length,0,?_,zIv HEN.out.symm ?_,by rw[HEN.out]; exact HR6⟩⟩
 ·rw[HSTEP.out,zUL HBL.out HHS.out HKD.out,←HDR.out,HU.out]
 ·rw[←HU.out,zK9]
theorem zN3 (g:Nat)(A:Option Addr)(l:Bs)(c k:Nat)(w:World)(hr:Rd w g A l c k)(hlt:k<l.length)(hb:XH l[k]=false)(hh:(l[k]==35)=false)(hkd:XZ l[k]=2) :
  Calls Tryz.prog 43 #[.pointer (some ⟨g,0,none⟩)] w (zEc g A l c k w):=by
 have hbig:=hr.big;have hle:=hr.le;have hcap:=hr.cap;have hgl:=hr.blk.lt;have HR:=yG hr;have HSTEP:Hid (step (l.drop k)=zA1 l[k] (l.drop (k+1))):=yG (by rw[List.drop_eq_getElem_cons hlt]; rfl);have b1:w.cell? ⟨g,1,none⟩=some (.int .i64 (k:Int)):=hr.blk.cell 1;have HDR:=yG (List.drop_eq_getElem_cons hlt);obtain⟨b,off,hA,hbg,hbw,hby⟩:=hr.byte (by omega);have HE0:=yG (hby k hlt)
 have q0:(k:Int)<(l.length:Int):=by omega
 have HB:=yG hby
 have HBL:=yG hb;have HHS:=yG hh;have HKD:=yG hkd;clear hr hby hb hh hkd;generalize l[k]=x at *;subst hA;have hW1:Hid (Blk ((w.alloc (.cells #[.int .u8 0,.int .i64 0,.int .i64 0,.string ⟨#[]⟩,.int .i64 0] 75)).alloc (.cells #[.int .u8 0,.int .i64 (k:Int),.int .i64 0,.string ⟨#[]⟩,.int .i64 0] 75)) (w.heap.size+1) 75 #[.int .u8 0,.int .i64 (k:Int),.int .i64 0,.string ⟨#[]⟩,.int .i64 0]):=yG (Blk.newAt (by simp));have hW0:Hid (Blk ((w.alloc (.cells #[.int .u8 0,.int .i64 0,.int .i64 0,.string ⟨#[]⟩,.int .i64 0] 75)).alloc (.cells #[.int .u8 0,.int .i64 (k:Int),.int .i64 0,.string ⟨#[]⟩,.int .i64 0] 75)) w.heap.size 75 #[.int .u8 0,.int .i64 0,.int .i64 0,.string ⟨#[]⟩,.int .i64 0]):=yG ((Blk.new _ _ _).alloc _);have hWM:Hid (Mod g w ((w.alloc (.cells #[.int .u8 0,.int .i64 0,.int .i64 0,.string ⟨#[]⟩,.int .i64 0] 75)).alloc (.cells #[.int .u8 0,.int .i64 (k:Int),.int .i64 0,.string ⟨#[]⟩,.int .i64 0] 75))):=yG (((Mod.refl g w).alloc _).alloc _);have hWR:Hid (Rd ((w.alloc (.cells #[.int .u8 0,.int .i64 0,.int .i64 0,.string ⟨#[]⟩,.int .i64 0] 75)).alloc (.cells #[.int .u8 0,.int .i64 (k:Int),.int .i64 0,.string ⟨#[]⟩,.int .i64 0] 75)) g (some ⟨b,off,none⟩) l c k):=yG ⟨(HR.out.blk.alloc _).alloc _,HR.out.src.ext ((Ext.alloc _ _).trans (Ext.alloc _ _)),HR.out.far,HR.out.le,HR.out.cap,HR.out.zJs,HR.out.big⟩
 have hEC:Hid (((w.alloc (.cells #[.int .u8 0,.int .i64 0,.int .i64 0,.string ⟨#[]⟩,.int .i64 0] 75)).alloc (.cells #[.int .u8 0,.int .i64 (k:Int),.int .i64 0,.string ⟨#[]⟩,.int .i64 0] 75)).cell? ⟨b,off+k,none⟩=some (.int .u8 (x.toNat:Int))):=yG ((((Ext.alloc _ _).trans (Ext.alloc _ _)).cell (p:=⟨b,off+k,none⟩) hbw).trans HE0.out)
 have hsz1:w.heap.size+1<((w.alloc (.cells #[.int .u8 0,.int .i64 0,.int .i64 0,.string ⟨#[]⟩,.int .i64 0] 75)).alloc (.cells #[.int .u8 0,.int .i64 (k:Int),.int .i64 0,.string ⟨#[]⟩,.int .i64 0] 75)).heap.size:=by simp
 go_enter Tryz.func43,Tryz.ntmps43
 go_upto_region 4 with fail
 clear b1 HE0 HR HB;generalize hw1:((w.alloc (.cells #[.int .u8 0,.int .i64 0,.int .i64 0,.string ⟨#[]⟩,.int .i64 0] 75)).alloc (.cells #[.int .u8 0,.int .i64 (k:Int),.int .i64 0,.string ⟨#[]⟩,.int .i64 0] 75))=w1 at *
 have hgt:w.heap.size+1≠g:=by omega
 have hgz:w.heap.size≠g:=by omega
 have HW1E:=yG hw1;clear hw1 hgl
 have hbw1:b<w1.heap.size:=by omega
 have hle0:Hid (w.heap.size≤w.heap.size):=yG (zX _);generalize hgs:w.heap.size=gs at *;have HGS:=yG hgs;clear hgs;have b0:w1.cell? ⟨g,0,none⟩=some (.slice (some ⟨b,off,none⟩) l.length c):=hWR.out.blk.cell 0;have b1:w1.cell? ⟨g,1,none⟩=some (.int .i64 (k:Int)):=hWR.out.blk.cell 1;have hgl:g<w1.heap.size:=hWR.out.blk.lt;have e0:=hEC.out;apply xU 13 (by kernel_rfl) (by kernel_rfl) (by kernel_rfl);dsimp only[List.take_succ_cons,List.take_zero,List.drop_succ_cons,List.drop_zero];apply yZ (.func (.func 80) #[] #[]) rfl rfl rfl
 ·intro w' hw' hH;clear hH;simp[xB,go_sem,q0];exact Ext.refl _
 apply yZ (.pointer (some ⟨g,0,none⟩)) rfl rfl rfl
 ·intro w' hw' hH;clear hH;simp[xB,go_sem,q0];exact Ext.refl _
 apply yZ (.pointer (some ⟨g,0,none⟩)) rfl rfl rfl
 ·intro w' hw' hH;clear hH;simp[xB,go_sem,q0];exact Ext.refl _
 apply yZ (.pointer (some ⟨g,0,none⟩)) rfl rfl rfl
 ·intro w' hw' hH;clear hH;simp[xB,go_sem,q0];exact Ext.refl _
 apply yZ (.slice (some ⟨b,off,none⟩) l.length c) rfl rfl rfl
 ·intro w' hw' hH;clear hH;have z0:=(hw'.cell (p:=⟨g,0,none⟩) hgl).trans b0;simp[xB,go_sem,z0,q0];exact Ext.refl _
 apply yZ (.pointer (some ⟨g,0,none⟩)) rfl rfl rfl
 ·intro w' hw' hH;clear hH;simp[xB,go_sem,q0];exact Ext.refl _
 apply yZ (.pointer (some ⟨g,0,none⟩)) rfl rfl rfl
 ·intro w' hw' hH;clear hH;simp[xB,go_sem,q0];exact Ext.refl _
 apply yZ (.pointer (some ⟨g,1,none⟩)) rfl rfl rfl
 ·intro w' hw' hH;clear hH;simp[xB,go_sem,q0];exact Ext.refl _
 apply yZ (.int .i64 (k:Int)) rfl rfl rfl
 ·intro w' hw' hH;clear hH;have z0:=(hw'.cell (p:=⟨g,1,none⟩) hgl).trans b1;simp[xB,go_sem,z0,q0];exact Ext.refl _
 apply yZ (.pointer (some ⟨b,off+k,none⟩)) rfl rfl rfl
 ·intro w' hw' hH;clear hH;simp[xB,go_sem,q0];exact Ext.refl _
 apply yZ (.int .u8 (x.toNat:Int)) rfl rfl rfl
 ·intro w' hw' hH;clear hH;have z0:=(hw'.cell (p:=⟨b,off+k,none⟩) hbw1).trans e0;simp[xB,go_sem,z0,q0];exact Ext.refl _
 apply yZ (.int .u8 2) rfl rfl rfl
 ·intro w' hw' hH;clear hH;simp[xB,go_sem];refine(zF2 x w').mono ?_;rintro e w2 ⟨rfl,hx⟩;exact⟨_,rfl,by rw[HKD.out]; rfl,hx⟩
 apply yZ (.pointer (some ⟨gs+1,0,none⟩)) rfl rfl rfl
 ·intro w' hw' hH;clear hH;simp[xB,go_sem,q0];exact Ext.refl _
 apply vC;intro w2 hw2 hH;clear hH;simp only[Act.put,yD,yF,yE];refine zAx rfl 5 (.tmp 24) (.tmp 23) rfl (gs+1) 0 (by kernel_rfl) (.int .u8 2) (by kernel_rfl) 75 _ (hW1.out.ext hw2) (Nat.zero_lt_succ _) rfl rfl zCT ?_;intro w3 ht3 hb3;have hb3':Blk w3 (gs+1) 75 #[.int .u8 2,.int .i64 (k:Int),.int .i64 0,.string ⟨#[]⟩,.int .i64 0]:=hb3;have HT3:=yG hb3';have HZ3:=yG (ht3.blk (hW0.out.ext hw2) (by omega));have HM3:=yG ((hWM.out.trans (Mod.ZJ hw2 g)).ZX ht3 (by rw[HGS.out]; omega));have HR3:=yG ((hWR.out.ext hw2).ZX ht3 hgt (YZ (by omega)));have hgs3:gs+1<w3.heap.size:=hb3'.lt;have hgl3:g<w3.heap.size:=HR3.out.blk.lt
 have hbg3:b≠gs+1:=by omega
 have hgt':g≠gs+1:=fun e=>hgt e.symm;clear hw2 hb3 hb3' ht3 hW1 hW0 hWM hWR hEC hsz1 hle0 b0 b1 hgl e0 hbw1;have t0:w3.cell? ⟨gs+1,0,none⟩=some (.int .u8 2):=HT3.out.cell 0;obtain⟨u,HU⟩:∃u,Hid ((l.drop k).takeWhile ZT=u):=⟨_,yG rfl⟩;obtain⟨en,HEN⟩:∃en,Hid (k+u.length=en):=⟨_,yG rfl⟩;obtain⟨r,HRN⟩:∃r,Hid (zCL 0 u=r):=⟨_,yG rfl⟩;have HUD:Hid (∀c ∈ u,ZT c=true):=yG (by rw[←HU.out]; exact fun c hc=>by have:=zSf (p:=ZT) ((l.drop k).takeWhile ZT) (by have h:=zPl (p:=ZT) (l.drop k) _ (zX _); rw[zK9] at h; exact h) c hc; exact this)
 have hul:u.length≤140737488355328:=by
  have:=zM0 ZT (l.drop k)
  rw[HU.out,List.length_drop] at this;omega
 go_wp2_with fail
 refine(zPn g _ l c k _ ZT zNv w3 HR3.out u HU en HEN).mono ?_;rintro e w4 ⟨rfl,hm4,hr4⟩;have HT4:=yG (hm4.blk HT3.out hgt);have HZ4:=yG (hm4.blk HZ3.out hgz);have HM4:=yG (HM3.out.trans hm4);have HR4:=yG hr4;have hgs4:gs+1<w4.heap.size:=HT4.out.lt;clear hm4 hr4 HT3 HZ3 HM3 HR3 t0;have t3:=HT4.out.cell 3;have f3:=HT4.out.frozen 3;have HTA:Hid (Blk (w4.setCell ⟨gs+1,3,none⟩ (.string (xI u))) (gs+1) 75 #[.int .u8 2,.int .i64 (k:Int),.int .i64 0,.string (xI u),.int .i64 0]):=yG (HT4.out.put 3 _);have HZA:=yG (HZ4.out.far (p:=⟨gs+1,3,none⟩) (by simp) (.string (xI u)));have HMA:=yG (HM4.out.far (b:=gs+1) (by rw[HGS.out]; omega) 3 (.string (xI u)));have HRA:=yG (HR4.out.XY hgt (YZ hbg3) 3 (.string (xI u)))
 go_wp2_with fail
 refine(zN6 u HUD.out hul _ r HRN).mono ?_;rintro e w5 ⟨rfl,hx5⟩;have HTB:=yG (HTA.out.ext hx5);have HZB:=yG (HZA.out.ext hx5);have HMB:=yG (HMA.out.trans (Mod.ZJ hx5 g));have HRB:=yG (HRA.out.ext hx5);have hgs5:gs+1<w5.heap.size:=HTB.out.lt;have hgl5:g<w5.heap.size:=HRB.out.blk.lt;have a1:w5.cell? ⟨g,1,none⟩=some (.int .i64 (en:Int)):=HRB.out.blk.cell 1;clear hx5 HT4 HZ4 HM4 HR4 t3 f3 HTA HZA HMA HRA
 cases r with
 | none=>
  dsimp only[zIX];have t0:=HTB.out.cell 0;have t1:=HTB.out.cell 1;have t2:=HTB.out.cell 2;have t3:=HTB.out.cell 3;have t4:=HTB.out.cell 4;have f2:=HTB.out.frozen 2;have f3:=HTB.out.frozen 3;have f4:=HTB.out.frozen 4;have HTE:Hid (Blk (w5.setCell ⟨gs+1,4,none⟩ (.int .i64 0)) (gs+1) 75 #[.int .u8 2,.int .i64 (k:Int),.int .i64 0,.string (xI u),.int .i64 0]):=yG (HTB.out.put 4 _);have HZE:=yG (HZB.out.far (p:=⟨gs+1,4,none⟩) (by simp) (.int .i64 0));have HME:=yG (HMB.out.far (b:=gs+1) (by rw[HGS.out]; omega) 4 (.int .i64 0));have HRE:=yG (HRB.out.XY hgt (YZ hbg3) 4 (.int .i64 0))
  go_upto_region 18 with fail
  have HT5:Hid (Blk ((w5.setCell ⟨gs+1,4,none⟩ (.int .i64 0)).setCell ⟨gs+1,2,none⟩ (.int .i64 (en:Int))) (gs+1) 75 #[.int .u8 2,.int .i64 (k:Int),.int .i64 (en:Int),.string (xI u),.int .i64 0]):=yG (HTE.out.put 2 _);have HZ5:Hid (Blk ((w5.setCell ⟨gs+1,4,none⟩ (.int .i64 0)).setCell ⟨gs+1,2,none⟩ (.int .i64 (en:Int))) gs 75 #[.int .u8 0,.int .i64 0,.int .i64 0,.string ⟨#[]⟩,.int .i64 0]):=yG (HZE.out.far (by simp) _);have HM5:Hid (Mod g w ((w5.setCell ⟨gs+1,4,none⟩ (.int .i64 0)).setCell ⟨gs+1,2,none⟩ (.int .i64 (en:Int)))):=yG (HME.out.far (by rw[HGS.out]; omega) 2 _);have HR5:Hid (Rd ((w5.setCell ⟨gs+1,4,none⟩ (.int .i64 0)).setCell ⟨gs+1,2,none⟩ (.int .i64 (en:Int))) g (some ⟨b,off,none⟩) l c en):=yG (HRE.out.XY hgt (YZ hbg3) 2 _);clear HTE HZE HME HRE;generalize (w5.setCell ⟨gs+1,4,none⟩ (.int .i64 0)).setCell ⟨gs+1,2,none⟩ (.int .i64 (en:Int))=w5 at *
  go_wp2_with (first
   | refine zBa rfl 75 (.tmp 4) rfl (gs+1) rfl 75 _ _ HT5.out Tryz.underlying75 rfl (by kernel_rfl) ?_
   | (refine vK rfl 75 (.tmp 2) (.tmp 90) rfl gs _ rfl rfl 75 _ HZ5.out (by kernel_rfl) rfl rfl ?_; intro w6 ht6 hb6))
  have z0:=hb6.cell 0;have z1:=hb6.cell 1;have z2:=hb6.cell 2;have z3:=hb6.cell 3;have z4:=hb6.cell 4;refine bodyPost_ret (v:=.tuple #[zDY 2 k en u 0,.int .i64 31]) (by simp[results,Tryz.results43,go_sem,z0,z1,z2,z3,z4,zDY,zC4]) rfl ?_;have HM6:=HM5.out.ZX ht6 (by rw[HGS.out]; exact zX _);have HR6:=HR5.out.ZX ht6 hgz (YZ (by omega));refine⟨HM6,.inr ⟨31,2,en,u,0,?_,by decide,rfl⟩⟩;rw[HSTEP.out,zRP HBL.out HHS.out HKD.out,←HDR.out,HU.out,HRN.out]
 | some m=>
  dsimp only[zIX];have t0:=HTB.out.cell 0;have t1:=HTB.out.cell 1;have t2:=HTB.out.cell 2;have t3:=HTB.out.cell 3;have t4:=HTB.out.cell 4;have f2:=HTB.out.frozen 2;have f3:=HTB.out.frozen 3;have f4:=HTB.out.frozen 4;have HTE:Hid (Blk (w5.setCell ⟨gs+1,4,none⟩ (.int .i64 m)) (gs+1) 75 #[.int .u8 2,.int .i64 (k:Int),.int .i64 0,.string (xI u),.int .i64 m]):=yG (HTB.out.put 4 _);have HZE:=yG (HZB.out.far (p:=⟨gs+1,4,none⟩) (by simp) (.int .i64 m));have HME:=yG (HMB.out.far (b:=gs+1) (by rw[HGS.out]; omega) 4 (.int .i64 m));have HRE:=yG (HRB.out.XY hgt (YZ hbg3) 4 (.int .i64 m))
  go_upto_region 18 with fail
  have HT5:Hid (Blk ((w5.setCell ⟨gs+1,4,none⟩ (.int .i64 m)).setCell ⟨gs+1,2,none⟩ (.int .i64 (en:Int))) (gs+1) 75 #[.int .u8 2,.int .i64 (k:Int),.int .i64 (en:Int),.string (xI u),.int .i64 m]):=yG (HTE.out.put 2 _);have HZ5:Hid (Blk ((w5.setCell ⟨gs+1,4,none⟩ (.int .i64 m)).setCell ⟨gs+1,2,none⟩ (.int .i64 (en:Int))) gs 75 #[.int .u8 0,.int .i64 0,.int .i64 0,.string ⟨#[]⟩,.int .i64 0]):=yG (HZE.out.far (by simp) _);have HM5:Hid (Mod g w ((w5.setCell ⟨gs+1,4,none⟩ (.int .i64 m)).setCell ⟨gs+1,2,none⟩ (.int .i64 (en:Int)))):=yG (HME.out.far (by rw[HGS.out]; omega) 2 _);have HR5:Hid (Rd ((w5.setCell ⟨gs+1,4,none⟩ (.int .i64 m)).setCell ⟨gs+1,2,none⟩ (.int .i64 (en:Int))) g (some ⟨b,off,none⟩) l c en):=yG (HRE.out.XY hgt (YZ hbg3) 2 _);clear HTE HZE HME HRE;generalize (w5.setCell ⟨gs+1,4,none⟩ (.int .i64 m)).setCell ⟨gs+1,2,none⟩ (.int .i64 (en:Int))=w5 at *
  go_wp2_with (first
   | refine zBa rfl 75 (.tmp 4) rfl (gs+1) rfl 75 _ _ HT5.out Tryz.underlying75 rfl (by kernel_rfl) ?_
   | (refine vK rfl 75 (.tmp 2) (.tmp 90) rfl gs _ rfl rfl 75 _ HZ5.out (by kernel_rfl) rfl rfl ?_; intro w6 ht6 hb6))
  have z0:=hb6.cell 0;have z1:=hb6.cell 1;have z2:=hb6.cell 2;have z3:=hb6.cell 3;have z4:=hb6.cell 4;refine bodyPost_ret (v:=.tuple #[zDY 2 k en u m,.int .i64 0]) (by simp[results,Tryz.results43,go_sem,z0,z1,z2,z3,z4,zDY,zC4]) rfl ?_;have HM6:=HM5.out.ZX ht6 (by rw[HGS.out]; exact zX _);have HR6:=HR5.out.ZX ht6 hgz (YZ (by omega));refine⟨HM6,.inl ⟨2,u.length,m,?_,zIv HEN.out.symm ?_,by rw[HEN.out]; exact HR6⟩⟩
  ·rw[HSTEP.out,zRP HBL.out HHS.out HKD.out,←HDR.out,HU.out,HRN.out]
  ·rw[←HU.out,zK9]
theorem zPV (g:Nat)(A:Option Addr)(l:Bs)(c k:Nat)(w:World)(hr:Rd w g A l c k)(hlt:k<l.length)(hb:XH l[k]=false)(hh:(l[k]==35)=false)(hkd:XZ l[k]=3) :
  Calls Tryz.prog 43 #[.pointer (some ⟨g,0,none⟩)] w (zEc g A l c k w):=by
 have hbig:=hr.big;have hle:=hr.le;have hcap:=hr.cap;have hgl:=hr.blk.lt;have HR:=yG hr;have HSTEP:Hid (step (l.drop k)=zA1 l[k] (l.drop (k+1))):=yG (by rw[List.drop_eq_getElem_cons hlt]; rfl);have b1:w.cell? ⟨g,1,none⟩=some (.int .i64 (k:Int)):=hr.blk.cell 1;have HDR:=yG (List.drop_eq_getElem_cons hlt);obtain⟨b,off,hA,hbg,hbw,hby⟩:=hr.byte (by omega);have HE0:=yG (hby k hlt)
 have q0:(k:Int)<(l.length:Int):=by omega
 have HB:=yG hby
 have HBL:=yG hb;have HHS:=yG hh;have HKD:=yG hkd;clear hr hby hb hh hkd;generalize l[k]=x at *;subst hA;have hW1:Hid (Blk ((w.alloc (.cells #[.int .u8 0,.int .i64 0,.int .i64 0,.string ⟨#[]⟩,.int .i64 0] 75)).alloc (.cells #[.int .u8 0,.int .i64 (k:Int),.int .i64 0,.string ⟨#[]⟩,.int .i64 0] 75)) (w.heap.size+1) 75 #[.int .u8 0,.int .i64 (k:Int),.int .i64 0,.string ⟨#[]⟩,.int .i64 0]):=yG (Blk.newAt (by simp));have hW0:Hid (Blk ((w.alloc (.cells #[.int .u8 0,.int .i64 0,.int .i64 0,.string ⟨#[]⟩,.int .i64 0] 75)).alloc (.cells #[.int .u8 0,.int .i64 (k:Int),.int .i64 0,.string ⟨#[]⟩,.int .i64 0] 75)) w.heap.size 75 #[.int .u8 0,.int .i64 0,.int .i64 0,.string ⟨#[]⟩,.int .i64 0]):=yG ((Blk.new _ _ _).alloc _);have hWM:Hid (Mod g w ((w.alloc (.cells #[.int .u8 0,.int .i64 0,.int .i64 0,.string ⟨#[]⟩,.int .i64 0] 75)).alloc (.cells #[.int .u8 0,.int .i64 (k:Int),.int .i64 0,.string ⟨#[]⟩,.int .i64 0] 75))):=yG (((Mod.refl g w).alloc _).alloc _);have hWR:Hid (Rd ((w.alloc (.cells #[.int .u8 0,.int .i64 0,.int .i64 0,.string ⟨#[]⟩,.int .i64 0] 75)).alloc (.cells #[.int .u8 0,.int .i64 (k:Int),.int .i64 0,.string ⟨#[]⟩,.int .i64 0] 75)) g (some ⟨b,off,none⟩) l c k):=yG ⟨(HR.out.blk.alloc _).alloc _,HR.out.src.ext ((Ext.alloc _ _).trans (Ext.alloc _ _)),HR.out.far,HR.out.le,HR.out.cap,HR.out.zJs,HR.out.big⟩
 have hEC:Hid (((w.alloc (.cells #[.int .u8 0,.int .i64 0,.int .i64 0,.string ⟨#[]⟩,.int .i64 0] 75)).alloc (.cells #[.int .u8 0,.int .i64 (k:Int),.int .i64 0,.string ⟨#[]⟩,.int .i64 0] 75)).cell? ⟨b,off+k,none⟩=some (.int .u8 (x.toNat:Int))):=yG ((((Ext.alloc _ _).trans (Ext.alloc _ _)).cell (p:=⟨b,off+k,none⟩) hbw).trans HE0.out)
 have hsz1:w.heap.size+1<((w.alloc (.cells #[.int .u8 0,.int .i64 0,.int .i64 0,.string ⟨#[]⟩,.int .i64 0] 75)).alloc (.cells #[.int .u8 0,.int .i64 (k:Int),.int .i64 0,.string ⟨#[]⟩,.int .i64 0] 75)).heap.size:=by simp
 go_enter Tryz.func43,Tryz.ntmps43
 go_upto_region 4 with fail
 clear b1 HE0 HR HB;generalize hw1:((w.alloc (.cells #[.int .u8 0,.int .i64 0,.int .i64 0,.string ⟨#[]⟩,.int .i64 0] 75)).alloc (.cells #[.int .u8 0,.int .i64 (k:Int),.int .i64 0,.string ⟨#[]⟩,.int .i64 0] 75))=w1 at *
 have hgt:w.heap.size+1≠g:=by omega
 have hgz:w.heap.size≠g:=by omega
 have HW1E:=yG hw1;clear hw1 hgl
 have hbw1:b<w1.heap.size:=by omega
 have hle0:Hid (w.heap.size≤w.heap.size):=yG (zX _);generalize hgs:w.heap.size=gs at *;have HGS:=yG hgs;clear hgs;have b0:w1.cell? ⟨g,0,none⟩=some (.slice (some ⟨b,off,none⟩) l.length c):=hWR.out.blk.cell 0;have b1:w1.cell? ⟨g,1,none⟩=some (.int .i64 (k:Int)):=hWR.out.blk.cell 1;have hgl:g<w1.heap.size:=hWR.out.blk.lt;have e0:=hEC.out;apply xU 13 (by kernel_rfl) (by kernel_rfl) (by kernel_rfl);dsimp only[List.take_succ_cons,List.take_zero,List.drop_succ_cons,List.drop_zero];apply yZ (.func (.func 80) #[] #[]) rfl rfl rfl
 ·intro w' hw' hH;clear hH;simp[xB,go_sem,q0];exact Ext.refl _
 apply yZ (.pointer (some ⟨g,0,none⟩)) rfl rfl rfl
 ·intro w' hw' hH;clear hH;simp[xB,go_sem,q0];exact Ext.refl _
 apply yZ (.pointer (some ⟨g,0,none⟩)) rfl rfl rfl
 ·intro w' hw' hH;clear hH;simp[xB,go_sem,q0];exact Ext.refl _
 apply yZ (.pointer (some ⟨g,0,none⟩)) rfl rfl rfl
 ·intro w' hw' hH;clear hH;simp[xB,go_sem,q0];exact Ext.refl _
 apply yZ (.slice (some ⟨b,off,none⟩) l.length c) rfl rfl rfl
 ·intro w' hw' hH;clear hH;have z0:=(hw'.cell (p:=⟨g,0,none⟩) hgl).trans b0;simp[xB,go_sem,z0,q0];exact Ext.refl _
 apply yZ (.pointer (some ⟨g,0,none⟩)) rfl rfl rfl
 ·intro w' hw' hH;clear hH;simp[xB,go_sem,q0];exact Ext.refl _
 apply yZ (.pointer (some ⟨g,0,none⟩)) rfl rfl rfl
 ·intro w' hw' hH;clear hH;simp[xB,go_sem,q0];exact Ext.refl _
 apply yZ (.pointer (some ⟨g,1,none⟩)) rfl rfl rfl
 ·intro w' hw' hH;clear hH;simp[xB,go_sem,q0];exact Ext.refl _
 apply yZ (.int .i64 (k:Int)) rfl rfl rfl
 ·intro w' hw' hH;clear hH;have z0:=(hw'.cell (p:=⟨g,1,none⟩) hgl).trans b1;simp[xB,go_sem,z0,q0];exact Ext.refl _
 apply yZ (.pointer (some ⟨b,off+k,none⟩)) rfl rfl rfl
 ·intro w' hw' hH;clear hH;simp[xB,go_sem,q0];exact Ext.refl _
 apply yZ (.int .u8 (x.toNat:Int)) rfl rfl rfl
 ·intro w' hw' hH;clear hH;have z0:=(hw'.cell (p:=⟨b,off+k,none⟩) hbw1).trans e0;simp[xB,go_sem,z0,q0];exact Ext.refl _
 apply yZ (.int .u8 3) rfl rfl rfl
 ·intro w' hw' hH;clear hH;simp[xB,go_sem];refine(zF2 x w').mono ?_;rintro e w2 ⟨rfl,hx⟩;exact⟨_,rfl,by rw[HKD.out]; rfl,hx⟩
 apply yZ (.pointer (some ⟨gs+1,0,none⟩)) rfl rfl rfl
 ·intro w' hw' hH;clear hH;simp[xB,go_sem,q0];exact Ext.refl _
 apply vC;intro w2 hw2 hH;clear hH;simp only[Act.put,yD,yF,yE];refine zAx rfl 5 (.tmp 24) (.tmp 23) rfl (gs+1) 0 (by kernel_rfl) (.int .u8 3) (by kernel_rfl) 75 _ (hW1.out.ext hw2) (Nat.zero_lt_succ _) rfl rfl zCT ?_;intro w3 ht3 hb3;have hb3':Blk w3 (gs+1) 75 #[.int .u8 3,.int .i64 (k:Int),.int .i64 0,.string ⟨#[]⟩,.int .i64 0]:=hb3;have HT3:=yG hb3';have HZ3:=yG (ht3.blk (hW0.out.ext hw2) (by omega));have HM3:=yG ((hWM.out.trans (Mod.ZJ hw2 g)).ZX ht3 (by rw[HGS.out]; omega));have HR3:=yG ((hWR.out.ext hw2).ZX ht3 hgt (YZ (by omega)));have hgs3:gs+1<w3.heap.size:=hb3'.lt;have hgl3:g<w3.heap.size:=HR3.out.blk.lt
 have hbg3:b≠gs+1:=by omega
 have hgt':g≠gs+1:=fun e=>hgt e.symm;clear hw2 hb3 hb3' ht3 hW1 hW0 hWM hWR hEC hsz1 hle0 b0 b1 hgl e0 hbw1;have t0:w3.cell? ⟨gs+1,0,none⟩=some (.int .u8 3):=HT3.out.cell 0;obtain⟨tp,HP⟩:∃t,Hid ((decide (([61,61]:Bs).length≤(l.drop k).length)&&((l.drop k).take ([61,61]:Bs).length==[61,61]))=t):=⟨_,yG rfl⟩
 have HC2:Hid (Cells w3 (some ⟨b,off+k,none⟩) (vB (l.drop k))):=yG (by
  have h:=zC9 HR3.out.src hcap k l.length;rw[zID (by omega),List.take_of_length_le (by simp)] at h
  exact h)
 have HC1:Hid (Cells w3 (some ⟨b,off+k,none⟩) (vB [x])):=yG (by
  have h:=zC9 HR3.out.src hcap k 1;rw[zID (by omega),HDR.out] at h
  exact h)
 have hsl:∀W,(Instr.slice 22 (.slice (some ⟨b,off,none⟩) l.length c) (some (.int .i64 (k:Int))) (some (.int .i64 ((k:Int)+1))) none).run Tryz.prog W=.ok (.slice (some ⟨b,off+k,none⟩) 1 (c-k)) W:=fun W=>by
  have h:=zPk W _ _ Tryz.underlying22 zCT (some ⟨b,off,none⟩) l.length c k (k+1) (by omega) (by omega);rw[zID (by omega),show k+1-k=1 from by omega] at h;exact h
 have hsl2:∀W,(Instr.slice 22 (.slice (some ⟨b,off,none⟩) l.length c) (some (.int .i64 (k:Int))) none none).run Tryz.prog W=.ok (.slice (some ⟨b,off+k,none⟩) (l.length-k) (c-k)) W:=fun W=>by
  have h:=zCl W _ _ Tryz.underlying22 zCT (some ⟨b,off,none⟩) l.length c k hle;rw[zID (by omega)] at h;exact h
 have HSL:=yG hsl;have HSL2:=yG hsl2;clear hsl hsl2
 go_upto_region 13 with fail
 clear t0;have b0:w3.cell? ⟨g,0,none⟩=some (.slice (some ⟨b,off,none⟩) l.length c):=HR3.out.blk.cell 0;have b1:w3.cell? ⟨g,1,none⟩=some (.int .i64 (k:Int)):=HR3.out.blk.cell 1;apply xU 16 (by kernel_rfl) (by kernel_rfl) (by kernel_rfl);dsimp only[List.take_succ_cons,List.take_zero,List.drop_succ_cons,List.drop_zero];apply yZ (.pointer (some ⟨g,0,none⟩)) rfl rfl rfl
 ·intro w' hw' hH;clear hH;simp[xB,go_sem,q0];exact Ext.refl _
 apply yZ (.pointer (some ⟨g,0,none⟩)) rfl rfl rfl
 ·intro w' hw' hH;clear hH;simp[xB,go_sem,q0];exact Ext.refl _
 apply yZ (.pointer (some ⟨g,0,none⟩)) rfl rfl rfl
 ·intro w' hw' hH;clear hH;simp[xB,go_sem,q0];exact Ext.refl _
 apply yZ (.slice (some ⟨b,off,none⟩) l.length c) rfl rfl rfl
 ·intro w' hw' hH;clear hH;have z0:=(hw'.cell (p:=⟨g,0,none⟩) hgl3).trans b0;simp[xB,go_sem,z0,q0];exact Ext.refl _
 apply yZ (.pointer (some ⟨g,0,none⟩)) rfl rfl rfl
 ·intro w' hw' hH;clear hH;simp[xB,go_sem,q0];exact Ext.refl _
 apply yZ (.pointer (some ⟨g,0,none⟩)) rfl rfl rfl
 ·intro w' hw' hH;clear hH;simp[xB,go_sem,q0];exact Ext.refl _
 apply yZ (.pointer (some ⟨g,1,none⟩)) rfl rfl rfl
 ·intro w' hw' hH;clear hH;simp[xB,go_sem,q0];exact Ext.refl _
 apply yZ (.int .i64 (k:Int)) rfl rfl rfl
 ·intro w' hw' hH;clear hH;have z0:=(hw'.cell (p:=⟨g,1,none⟩) hgl3).trans b1;simp[xB,go_sem,z0,q0];exact Ext.refl _
 apply yZ (.pointer (some ⟨g,0,none⟩)) rfl rfl rfl
 ·intro w' hw' hH;clear hH;simp[xB,go_sem,q0];exact Ext.refl _
 apply yZ (.pointer (some ⟨g,0,none⟩)) rfl rfl rfl
 ·intro w' hw' hH;clear hH;simp[xB,go_sem,q0];exact Ext.refl _
 apply yZ (.pointer (some ⟨g,1,none⟩)) rfl rfl rfl
 ·intro w' hw' hH;clear hH;simp[xB,go_sem,q0];exact Ext.refl _
 apply yZ (.int .i64 (k:Int)) rfl rfl rfl
 ·intro w' hw' hH;clear hH;have z0:=(hw'.cell (p:=⟨g,1,none⟩) hgl3).trans b1;simp[xB,go_sem,z0,q0];exact Ext.refl _
 apply yZ (.int .i64 ((k:Int)+1)) rfl rfl rfl
 ·intro w' hw' hH;clear hH;have hw1:IntKind.i64.wrap ((k:Int)+1)=(k:Int)+1:=IntWalk.i64_in _ (by omega);simp[xB,go_sem,hw1]
  try exact⟨by omega,Ext.refl _⟩
  try exact Ext.refl _
 apply yZ (.slice (some ⟨b,off+k,none⟩) 1 (c-k)) rfl rfl rfl
 ·intro w' hw' hH;clear hH;have hs:=HSL.out w';simp[xB,go_sem,hs]
  try exact Ext.refl _
 apply yZ (.string (xI [x])) rfl rfl rfl
 ·intro w' hw' hH;clear hH;have hcv:=zBw (P:=Tryz.prog) (n:=1) (c:=c-k) Tryz.underlying22 Tryz.underlying5 Tryz.underlying9 rfl (HC1.out.ext hw');simp[xB,go_sem,hcv]
  try exact Ext.refl _
 apply yZ (.pointer (some ⟨gs+1,3,none⟩)) rfl rfl rfl
 ·intro w' hw' hH;clear hH;simp[xB,go_sem,q0];exact Ext.refl _
 apply vC;intro w4 hw4 hH;clear hH;simp only[Act.put,yD,yF,yE];refine zAx rfl 9 (.tmp 61) (.tmp 60) rfl (gs+1) 3 (by kernel_rfl) (.string (xI [x])) (by kernel_rfl) 75 _ (HT3.out.ext hw4) (by show 3<5; decide) rfl rfl (fun w=>by kernel_rfl) ?_;intro w5 ht5 hb5;have hb5':Blk w5 (gs+1) 75 #[.int .u8 3,.int .i64 (k:Int),.int .i64 0,.string (xI [x]),.int .i64 0]:=hb5;have HT5a:=yG hb5';have HZ5a:=yG (ht5.blk (HZ3.out.ext hw4) (by omega));have HM5a:=yG ((HM3.out.trans (Mod.ZJ hw4 g)).ZX ht5 (by rw[HGS.out]; omega));have HR5a:=yG ((HR3.out.ext hw4).ZX ht5 hgt (YZ hbg3));have HC5:=yG (ht5.cells (HC2.out.ext hw4) (YZ hbg3));have hgs5:gs+1<w5.heap.size:=hb5'.lt;have hgl5:g<w5.heap.size:=HR5a.out.blk.lt
 have hbw5:∀b' off',(some ⟨b,off+k,none⟩:Option Addr)=some ⟨b',off',none⟩→b'<w5.heap.size:=fun b' off' e=>by
  injection e with e;injection e with e;subst e;omega
 clear hw4 hb5 hb5' ht5 HT3 HZ3 HM3 HR3 b0 b1 HC2 HC1;have b0:w5.cell? ⟨g,0,none⟩=some (.slice (some ⟨b,off,none⟩) l.length c):=HR5a.out.blk.cell 0;have b1:w5.cell? ⟨g,1,none⟩=some (.int .i64 (k:Int)):=HR5a.out.blk.cell 1
 go_upto_region 14 with fail
 apply zLe w5.heap.size [zA5 w5.heap.size] 12 (by kernel_rfl) (by kernel_rfl) (by kernel_rfl) (zA5.ext _) (zX _);dsimp only[List.take_succ_cons,List.take_zero,List.drop_succ_cons,List.drop_zero];apply yZ (.pointer (some ⟨g,0,none⟩)) rfl rfl rfl
 ·intro w' hw' hH;clear hH;simp[xB,go_sem,q0];exact XS hw'
 apply yZ (.pointer (some ⟨g,0,none⟩)) rfl rfl rfl
 ·intro w' hw' hH;clear hH;simp[xB,go_sem,q0];exact XS hw'
 apply yZ (.pointer (some ⟨g,0,none⟩)) rfl rfl rfl
 ·intro w' hw' hH;clear hH;simp[xB,go_sem,q0];exact XS hw'
 apply yZ (.slice (some ⟨b,off,none⟩) l.length c) rfl rfl rfl
 ·intro w' hw' hH;clear hH;have z0:=(hw'.1.cell (p:=⟨g,0,none⟩) hgl5).trans b0;simp[xB,go_sem,z0,q0];exact XS hw'
 apply yZ (.pointer (some ⟨g,0,none⟩)) rfl rfl rfl
 ·intro w' hw' hH;clear hH;simp[xB,go_sem,q0];exact XS hw'
 apply yZ (.pointer (some ⟨g,0,none⟩)) rfl rfl rfl
 ·intro w' hw' hH;clear hH;simp[xB,go_sem,q0];exact XS hw'
 apply yZ (.pointer (some ⟨g,1,none⟩)) rfl rfl rfl
 ·intro w' hw' hH;clear hH;simp[xB,go_sem,q0];exact XS hw'
 apply yZ (.int .i64 (k:Int)) rfl rfl rfl
 ·intro w' hw' hH;clear hH;have z0:=(hw'.1.cell (p:=⟨g,1,none⟩) hgl5).trans b1;simp[xB,go_sem,z0,q0];exact XS hw'
 apply yZ (.slice (some ⟨b,off+k,none⟩) (l.length-k) (c-k)) rfl rfl rfl
 ·intro w' hw' hH;clear hH;have hs:=HSL2.out w';simp[xB,go_sem,hs];exact XS hw'
 apply vE (zA5 w5.heap.size) zA5.mono rfl rfl rfl
 ·intro w' hw' hH;clear hH;simp[xB,go_sem];exact⟨⟨w'.heap.size,(0,0),rfl,zGC hw',zQ _ _⟩,zCf.ext (zA5.ext _) (zGC hw') (Ext.alloc _ _)⟩
 intro v71;apply vE (zA5 w5.heap.size) zA5.mono rfl rfl rfl
 ·intro w' hw' hH;have hy:zA5 w5.heap.size v71 w':=hH (some 71,zA5 w5.heap.size v71) (List.mem_cons_self ..) ⟨71,rfl,by decide⟩;clear hH;have h1:=hy.choose_spec.choose_spec.1;have h2:=hy.choose_spec.choose_spec.2.1;have h3:=hy.choose_spec.choose_spec.2.2;generalize hy.choose_spec.choose=fr at h1 h2 h3;generalize hy.choose=g1 at h1 h2 h3;clear hy;subst h1;have hcs:=zDi (P:=Tryz.prog) w' 22 5 Tryz.underlying22 Tryz.underlying5 g1 2 2 h3;simp[xB,go_sem,hcs];exact⟨⟨g1,(zAY w' g1 2 h3).choose,rfl,h2,(zAY w' g1 2 h3).choose_spec⟩,zLo (zGC hw') h2 2⟩
 intro v72;apply yZ (.bool tp) rfl rfl rfl
 ·intro w' hw' hH;have hy:zA5 w5.heap.size v72 w':=hH (some 72,zA5 w5.heap.size v72) (List.mem_cons_self ..) ⟨72,rfl,by decide⟩;clear hH;have h1:=hy.choose_spec.choose_spec.1;have h2:=hy.choose_spec.choose_spec.2.1;have h3:=hy.choose_spec.choose_spec.2.2;generalize hy.choose_spec.choose=fr at h1 h2 h3;generalize hy.choose=g1 at h1 h2 h3;clear hy;subst h1;simp[xB,go_sem];refine(zL7 (some ⟨b,off+k,none⟩) (some ⟨g1,0,none⟩) (l.drop k) [61,61] (l.length-k) 2 (c-k) 2 w' (by simp) rfl (by omega) (HC5.out.below hbw5 hw'.1) (zSm h3) tp HP).mono ?_;rintro e w2 ⟨rfl,rfl⟩;exact⟨_,rfl,rfl,XS hw'⟩
 apply vC;intro w6 hw6k hH;clear hH;have hw6:Ext w5 w6:=hw6k.1;clear hw6k;refine wpList_nil ?_;simp only[Act.put,yD,yF,yE];have HT6:=yG (HT5a.out.ext hw6);have HZ6:=yG (HZ5a.out.ext hw6);have HM6a:=yG (HM5a.out.trans (Mod.ZJ hw6 g));have HR6a:=yG (HR5a.out.ext hw6);have hgs6:gs+1<w6.heap.size:=HT6.out.lt;have hgl6:g<w6.heap.size:=HR6a.out.blk.lt;clear hw6 HT5a HZ5a HM5a HR5a b0 b1 HC5
 cases tp with
 | true=>
  have t3:=HT6.out.cell 3;have f3:=HT6.out.frozen 3;have HT7:Hid (Blk (w6.setCell ⟨gs+1,3,none⟩ (.string (xI [61,61]))) (gs+1) 75 #[.int .u8 3,.int .i64 (k:Int),.int .i64 0,.string (xI [61,61]),.int .i64 0]):=yG (HT6.out.put 3 _);have HZ7:=yG (HZ6.out.far (p:=⟨gs+1,3,none⟩) (by simp) (.string (xI [61,61])));have HM7:=yG (HM6a.out.far (b:=gs+1) (by rw[HGS.out]; omega) 3 (.string (xI [61,61])));have HR7:=yG (HR6a.out.XY hgt (YZ hbg3) 3 (.string (xI [61,61])));have hgs7:gs+1<(w6.setCell ⟨gs+1,3,none⟩ (.string (xI [61,61]))).heap.size:=HT7.out.lt;have hgl7:g<(w6.setCell ⟨gs+1,3,none⟩ (.string (xI [61,61]))).heap.size:=HR7.out.blk.lt
  go_upto_region 16 with fail
  clear t3 f3 HT6 HZ6 HM6a HR6a;have hbs:(⟨#[61,61]⟩:ByteArray)=xI [61,61]:=rfl;rw[hbs];clear hbs;generalize w6.setCell ⟨gs+1,3,none⟩ (.string (xI [61,61]))=w7 at *;have b1:w7.cell? ⟨g,1,none⟩=some (.int .i64 (k:Int)):=HR7.out.blk.cell 1;have c3:w7.cell? ⟨gs+1,3,none⟩=some (.string (xI [61,61])):=HT7.out.cell 3
  have hlen:(xI [61,61]).size=2:=by simp[xI,ByteArray.size]
  obtain⟨en,HEN⟩:∃en,Hid (k+2=en):=⟨_,yG rfl⟩;apply xU 10 (by kernel_rfl) (by kernel_rfl) (by kernel_rfl);dsimp only[List.take_succ_cons,List.take_zero,List.drop_succ_cons,List.drop_zero];apply yZ (.pointer (some ⟨g,0,none⟩)) rfl rfl rfl
  ·intro w' hw' hH;clear hH;simp[xB,go_sem];exact Ext.refl _
  apply yZ (.pointer (some ⟨g,0,none⟩)) rfl rfl rfl
  ·intro w' hw' hH;clear hH;simp[xB,go_sem];exact Ext.refl _
  apply yZ (.pointer (some ⟨g,1,none⟩)) rfl rfl rfl
  ·intro w' hw' hH;clear hH;simp[xB,go_sem];exact Ext.refl _
  apply yZ (.int .i64 (k:Int)) rfl rfl rfl
  ·intro w' hw' hH;clear hH;have z0:=(hw'.cell (p:=⟨g,1,none⟩) hgl7).trans b1;simp[xB,go_sem,z0];exact Ext.refl _
  apply yZ (.pointer (some ⟨gs+1,3,none⟩)) rfl rfl rfl
  ·intro w' hw' hH;clear hH;simp[xB,go_sem];exact Ext.refl _
  apply yZ (.string (xI [61,61])) rfl rfl rfl
  ·intro w' hw' hH;clear hH;have z0:=(hw'.cell (p:=⟨gs+1,3,none⟩) hgs7).trans c3;simp[xB,go_sem,z0];exact Ext.refl _
  apply yZ (.int .i64 2) rfl rfl rfl
  ·intro w' hw' hH;clear hH;simp[xB,go_sem,hlen]
   try exact Ext.refl _
  apply yZ (.int .i64 (en:Int)) rfl rfl rfl
  ·intro w' hw' hH;clear hH;have hen:=HEN.out;have hw1:IntKind.i64.wrap ((k:Int)+2)=(k:Int)+2:=IntWalk.i64_in _ (by omega);simp[xB,go_sem,hw1]
   try exact⟨by omega,Ext.refl _⟩
  apply yZ (.pointer (some ⟨g,0,none⟩)) rfl rfl rfl
  ·intro w' hw' hH;clear hH;simp[xB,go_sem];exact Ext.refl _
  apply yZ (.pointer (some ⟨g,1,none⟩)) rfl rfl rfl
  ·intro w' hw' hH;clear hH;simp[xB,go_sem];exact Ext.refl _
  apply vC;intro w8 hw8 hH;clear hH;simp only[Act.put,yD,yF,yE];refine zAx rfl 3 (.tmp 84) (.tmp 82) rfl g 1 (by kernel_rfl) (.int .i64 (en:Int)) (by kernel_rfl) 112 _ (HR7.out.ext hw8).blk (by show 1<2; decide) rfl rfl (fun w=>by kernel_rfl) ?_;intro w9 ht9 hb9;have hb9':Blk w9 g 112 #[.slice (some ⟨b,off,none⟩) l.length c,.int .i64 (en:Int)]:=hb9;have HTE:=yG (ht9.blk (HT7.out.ext hw8) hgt);have HZE:=yG (ht9.blk (HZ7.out.ext hw8) hgz);have HME:=yG ((HM7.out.trans (Mod.ZJ hw8 g)).trans (Mod.zFK ht9));have HRE:Hid (Rd w9 g (some ⟨b,off,none⟩) l c en):=yG ⟨hb9',ht9.cells (HR7.out.src.ext hw8) (HR7.out.far (by omega)),HR7.out.far,(by have h:=HP.out; rw[←HEN.out]; simp only[zG,zF,List.length_drop] at h; have:=h.1; simp at this; omega),HR7.out.cap,HR7.out.zJs,HR7.out.big⟩;clear hw8 hb9 hb9' ht9 HT7 HZ7 HM7 HR7 b1 c3;have hgs9:gs+1<w9.heap.size:=HTE.out.lt;have hgl9:g<w9.heap.size:=HRE.out.blk.lt;have a1:w9.cell? ⟨g,1,none⟩=some (.int .i64 (en:Int)):=HRE.out.blk.cell 1;have t0:=HTE.out.cell 0;have t1:=HTE.out.cell 1;have t2:=HTE.out.cell 2;have t3:=HTE.out.cell 3;have t4:=HTE.out.cell 4;have f2:=HTE.out.frozen 2;have f3:=HTE.out.frozen 3;have f4:=HTE.out.frozen 4
  go_upto_region 18 with fail
  have HT5:Hid (Blk ((w9).setCell ⟨gs+1,2,none⟩ (.int .i64 (en:Int))) (gs+1) 75 #[.int .u8 3,.int .i64 (k:Int),.int .i64 (en:Int),.string (xI [61,61]),.int .i64 0]):=yG (HTE.out.put 2 _);have HZ5:Hid (Blk ((w9).setCell ⟨gs+1,2,none⟩ (.int .i64 (en:Int))) gs 75 #[.int .u8 0,.int .i64 0,.int .i64 0,.string ⟨#[]⟩,.int .i64 0]):=yG (HZE.out.far (by simp) _);have HM5:Hid (Mod g w ((w9).setCell ⟨gs+1,2,none⟩ (.int .i64 (en:Int)))):=yG (HME.out.far (by rw[HGS.out]; omega) 2 _);have HR5:Hid (Rd ((w9).setCell ⟨gs+1,2,none⟩ (.int .i64 (en:Int))) g (some ⟨b,off,none⟩) l c en):=yG (HRE.out.XY hgt (YZ hbg3) 2 _);clear HTE HZE HME HRE;generalize (w9).setCell ⟨gs+1,2,none⟩ (.int .i64 (en:Int))=w5 at *
  go_wp2_with (first
   | refine zBa rfl 75 (.tmp 4) rfl (gs+1) rfl 75 _ _ HT5.out Tryz.underlying75 rfl (by kernel_rfl) ?_
   | (refine vK rfl 75 (.tmp 2) (.tmp 90) rfl gs _ rfl rfl 75 _ HZ5.out (by kernel_rfl) rfl rfl ?_; intro w6 ht6 hb6))
  have z0:=hb6.cell 0;have z1:=hb6.cell 1;have z2:=hb6.cell 2;have z3:=hb6.cell 3;have z4:=hb6.cell 4;refine bodyPost_ret (v:=.tuple #[zDY 3 k en [61,61] 0,.int .i64 0]) (by simp[results,Tryz.results43,go_sem,z0,z1,z2,z3,z4,zDY,zC4]) rfl ?_;have HM6:=HM5.out.ZX ht6 (by rw[HGS.out]; exact zX _);have HR6:=HR5.out.ZX ht6 hgz (YZ (by omega));have hpp:=HP.out;simp only[zG,zF,zO] at hpp;have htk:(l.drop k).take 2=[61,61]:=hpp.2;refine⟨HM6,.inl ⟨3,2,0,?_,zIv HEN.out.symm htk.symm,by rw[HEN.out]; exact HR6⟩⟩;rw[HDR.out] at htk;rw[HSTEP.out,zRN HBL.out HHS.out HKD.out]
  cases hd:l.drop (k+1) with
  | nil=>rw[hd] at htk; cases htk
  | cons y r'=>
   rw[hd] at htk;simp only[List.take_succ_cons,List.take_zero,List.cons.injEq] at htk;obtain⟨rfl,rfl,_⟩:=htk
   rfl
 | false=>
  have HT7:=HT6;have HZ7:=HZ6;have HM7:=HM6a;have HR7:=HR6a
  go_upto_region 16 with fail
  clear HT6 HZ6 HM6a HR6a;have hgs7:=hgs6;have hgl7:=hgl6;generalize w6=w7 at *;have b1:w7.cell? ⟨g,1,none⟩=some (.int .i64 (k:Int)):=HR7.out.blk.cell 1;have c3:w7.cell? ⟨gs+1,3,none⟩=some (.string (xI [x])):=HT7.out.cell 3
  have hlen:(xI [x]).size=1:=by simp[xI,ByteArray.size]
  obtain⟨en,HEN⟩:∃en,Hid (k+1=en):=⟨_,yG rfl⟩;apply xU 10 (by kernel_rfl) (by kernel_rfl) (by kernel_rfl);dsimp only[List.take_succ_cons,List.take_zero,List.drop_succ_cons,List.drop_zero];apply yZ (.pointer (some ⟨g,0,none⟩)) rfl rfl rfl
  ·intro w' hw' hH;clear hH;simp[xB,go_sem];exact Ext.refl _
  apply yZ (.pointer (some ⟨g,0,none⟩)) rfl rfl rfl
  ·intro w' hw' hH;clear hH;simp[xB,go_sem];exact Ext.refl _
  apply yZ (.pointer (some ⟨g,1,none⟩)) rfl rfl rfl
  ·intro w' hw' hH;clear hH;simp[xB,go_sem];exact Ext.refl _
  apply yZ (.int .i64 (k:Int)) rfl rfl rfl
  ·intro w' hw' hH;clear hH;have z0:=(hw'.cell (p:=⟨g,1,none⟩) hgl7).trans b1;simp[xB,go_sem,z0];exact Ext.refl _
  apply yZ (.pointer (some ⟨gs+1,3,none⟩)) rfl rfl rfl
  ·intro w' hw' hH;clear hH;simp[xB,go_sem];exact Ext.refl _
  apply yZ (.string (xI [x])) rfl rfl rfl
  ·intro w' hw' hH;clear hH;have z0:=(hw'.cell (p:=⟨gs+1,3,none⟩) hgs7).trans c3;simp[xB,go_sem,z0];exact Ext.refl _
  apply yZ (.int .i64 1) rfl rfl rfl
  ·intro w' hw' hH;clear hH;simp[xB,go_sem,hlen]
   try exact Ext.refl _
  apply yZ (.int .i64 (en:Int)) rfl rfl rfl
  ·intro w' hw' hH;clear hH;have hen:=HEN.out;have hw1:IntKind.i64.wrap ((k:Int)+1)=(k:Int)+1:=IntWalk.i64_in _ (by omega);simp[xB,go_sem,hw1]
   try exact⟨by omega,Ext.refl _⟩
  apply yZ (.pointer (some ⟨g,0,none⟩)) rfl rfl rfl
  ·intro w' hw' hH;clear hH;simp[xB,go_sem];exact Ext.refl _
  apply yZ (.pointer (some ⟨g,1,none⟩)) rfl rfl rfl
  ·intro w' hw' hH;clear hH;simp[xB,go_sem];exact Ext.refl _
  apply vC;intro w8 hw8 hH;clear hH;simp only[Act.put,yD,yF,yE];refine zAx rfl 3 (.tmp 84) (.tmp 82) rfl g 1 (by kernel_rfl) (.int .i64 (en:Int)) (by kernel_rfl) 112 _ (HR7.out.ext hw8).blk (by show 1<2; decide) rfl rfl (fun w=>by kernel_rfl) ?_;intro w9 ht9 hb9;have hb9':Blk w9 g 112 #[.slice (some ⟨b,off,none⟩) l.length c,.int .i64 (en:Int)]:=hb9;have HTE:=yG (ht9.blk (HT7.out.ext hw8) hgt);have HZE:=yG (ht9.blk (HZ7.out.ext hw8) hgz);have HME:=yG ((HM7.out.trans (Mod.ZJ hw8 g)).trans (Mod.zFK ht9));have HRE:Hid (Rd w9 g (some ⟨b,off,none⟩) l c en):=yG ⟨hb9',ht9.cells (HR7.out.src.ext hw8) (HR7.out.far (by omega)),HR7.out.far,(by rw[←HEN.out]; omega),HR7.out.cap,HR7.out.zJs,HR7.out.big⟩;clear hw8 hb9 hb9' ht9 HT7 HZ7 HM7 HR7 b1 c3;have hgs9:gs+1<w9.heap.size:=HTE.out.lt;have hgl9:g<w9.heap.size:=HRE.out.blk.lt;have a1:w9.cell? ⟨g,1,none⟩=some (.int .i64 (en:Int)):=HRE.out.blk.cell 1;have t0:=HTE.out.cell 0;have t1:=HTE.out.cell 1;have t2:=HTE.out.cell 2;have t3:=HTE.out.cell 3;have t4:=HTE.out.cell 4;have f2:=HTE.out.frozen 2;have f3:=HTE.out.frozen 3;have f4:=HTE.out.frozen 4
  go_upto_region 18 with fail
  have HT5:Hid (Blk ((w9).setCell ⟨gs+1,2,none⟩ (.int .i64 (en:Int))) (gs+1) 75 #[.int .u8 3,.int .i64 (k:Int),.int .i64 (en:Int),.string (xI [x]),.int .i64 0]):=yG (HTE.out.put 2 _);have HZ5:Hid (Blk ((w9).setCell ⟨gs+1,2,none⟩ (.int .i64 (en:Int))) gs 75 #[.int .u8 0,.int .i64 0,.int .i64 0,.string ⟨#[]⟩,.int .i64 0]):=yG (HZE.out.far (by simp) _);have HM5:Hid (Mod g w ((w9).setCell ⟨gs+1,2,none⟩ (.int .i64 (en:Int)))):=yG (HME.out.far (by rw[HGS.out]; omega) 2 _);have HR5:Hid (Rd ((w9).setCell ⟨gs+1,2,none⟩ (.int .i64 (en:Int))) g (some ⟨b,off,none⟩) l c en):=yG (HRE.out.XY hgt (YZ hbg3) 2 _);clear HTE HZE HME HRE;generalize (w9).setCell ⟨gs+1,2,none⟩ (.int .i64 (en:Int))=w5 at *
  go_wp2_with (first
   | refine zBa rfl 75 (.tmp 4) rfl (gs+1) rfl 75 _ _ HT5.out Tryz.underlying75 rfl (by kernel_rfl) ?_
   | (refine vK rfl 75 (.tmp 2) (.tmp 90) rfl gs _ rfl rfl 75 _ HZ5.out (by kernel_rfl) rfl rfl ?_; intro w6 ht6 hb6))
  have z0:=hb6.cell 0;have z1:=hb6.cell 1;have z2:=hb6.cell 2;have z3:=hb6.cell 3;have z4:=hb6.cell 4;refine bodyPost_ret (v:=.tuple #[zDY 3 k en [x] 0,.int .i64 0]) (by simp[results,Tryz.results43,go_sem,z0,z1,z2,z3,z4,zDY,zC4]) rfl ?_;have HM6:=HM5.out.ZX ht6 (by rw[HGS.out]; exact zX _);have HR6:=HR5.out.ZX ht6 hgz (YZ (by omega));have hpp:=HP.out;refine⟨HM6,.inl ⟨3,1,0,?_,zIv HEN.out.symm (by rw[HDR.out]; rfl),by rw[HEN.out]; exact HR6⟩⟩;rw[HSTEP.out,zRN HBL.out HHS.out HKD.out];rw[HDR.out] at hpp;refine if_neg ?_;intro hc;simp only[zG,zO] at hc;obtain⟨rfl,h2⟩:=hc
  cases hd:l.drop (k+1) with
  | nil=>rw[hd] at h2; cases h2
  | cons y r'=>
   rw[hd] at h2 hpp;injection h2 with h2;subst h2
   simp at hpp
theorem zQc (g:Nat)(A:Option Addr)(l:Bs)(c k:Nat)(w:World)(hr:Rd w g A l c k)(hlt:k<l.length)(hb:XH l[k]=false)(hh:(l[k]==35)=false)(hkd:XZ l[k]=0) :
  Calls Tryz.prog 43 #[.pointer (some ⟨g,0,none⟩)] w (zEc g A l c k w):=by
 have hbig:=hr.big;have hle:=hr.le;have hcap:=hr.cap;have hgl:=hr.blk.lt;have HR:=yG hr;have HSTEP:Hid (step (l.drop k)=zA1 l[k] (l.drop (k+1))):=yG (by rw[List.drop_eq_getElem_cons hlt]; rfl);have b1:w.cell? ⟨g,1,none⟩=some (.int .i64 (k:Int)):=hr.blk.cell 1;have HDR:=yG (List.drop_eq_getElem_cons hlt);obtain⟨b,off,hA,hbg,hbw,hby⟩:=hr.byte (by omega);have HE0:=yG (hby k hlt)
 have q0:(k:Int)<(l.length:Int):=by omega
 have HB:=yG hby
 have HBL:=yG hb;have HHS:=yG hh;have HKD:=yG hkd;clear hr hby hb hh hkd;generalize l[k]=x at *;subst hA;have hW1:Hid (Blk ((w.alloc (.cells #[.int .u8 0,.int .i64 0,.int .i64 0,.string ⟨#[]⟩,.int .i64 0] 75)).alloc (.cells #[.int .u8 0,.int .i64 (k:Int),.int .i64 0,.string ⟨#[]⟩,.int .i64 0] 75)) (w.heap.size+1) 75 #[.int .u8 0,.int .i64 (k:Int),.int .i64 0,.string ⟨#[]⟩,.int .i64 0]):=yG (Blk.newAt (by simp));have hW0:Hid (Blk ((w.alloc (.cells #[.int .u8 0,.int .i64 0,.int .i64 0,.string ⟨#[]⟩,.int .i64 0] 75)).alloc (.cells #[.int .u8 0,.int .i64 (k:Int),.int .i64 0,.string ⟨#[]⟩,.int .i64 0] 75)) w.heap.size 75 #[.int .u8 0,.int .i64 0,.int .i64 0,.string ⟨#[]⟩,.int .i64 0]):=yG ((Blk.new _ _ _).alloc _);have hWM:Hid (Mod g w ((w.alloc (.cells #[.int .u8 0,.int .i64 0,.int .i64 0,.string ⟨#[]⟩,.int .i64 0] 75)).alloc (.cells #[.int .u8 0,.int .i64 (k:Int),.int .i64 0,.string ⟨#[]⟩,.int .i64 0] 75))):=yG (((Mod.refl g w).alloc _).alloc _);have hWR:Hid (Rd ((w.alloc (.cells #[.int .u8 0,.int .i64 0,.int .i64 0,.string ⟨#[]⟩,.int .i64 0] 75)).alloc (.cells #[.int .u8 0,.int .i64 (k:Int),.int .i64 0,.string ⟨#[]⟩,.int .i64 0] 75)) g (some ⟨b,off,none⟩) l c k):=yG ⟨(HR.out.blk.alloc _).alloc _,HR.out.src.ext ((Ext.alloc _ _).trans (Ext.alloc _ _)),HR.out.far,HR.out.le,HR.out.cap,HR.out.zJs,HR.out.big⟩
 have hEC:Hid (((w.alloc (.cells #[.int .u8 0,.int .i64 0,.int .i64 0,.string ⟨#[]⟩,.int .i64 0] 75)).alloc (.cells #[.int .u8 0,.int .i64 (k:Int),.int .i64 0,.string ⟨#[]⟩,.int .i64 0] 75)).cell? ⟨b,off+k,none⟩=some (.int .u8 (x.toNat:Int))):=yG ((((Ext.alloc _ _).trans (Ext.alloc _ _)).cell (p:=⟨b,off+k,none⟩) hbw).trans HE0.out)
 have hsz1:w.heap.size+1<((w.alloc (.cells #[.int .u8 0,.int .i64 0,.int .i64 0,.string ⟨#[]⟩,.int .i64 0] 75)).alloc (.cells #[.int .u8 0,.int .i64 (k:Int),.int .i64 0,.string ⟨#[]⟩,.int .i64 0] 75)).heap.size:=by simp
 go_enter Tryz.func43,Tryz.ntmps43
 go_upto_region 4 with fail
 clear b1 HE0 HR HB;generalize hw1:((w.alloc (.cells #[.int .u8 0,.int .i64 0,.int .i64 0,.string ⟨#[]⟩,.int .i64 0] 75)).alloc (.cells #[.int .u8 0,.int .i64 (k:Int),.int .i64 0,.string ⟨#[]⟩,.int .i64 0] 75))=w1 at *
 have hgt:w.heap.size+1≠g:=by omega
 have hgz:w.heap.size≠g:=by omega
 have HW1E:=yG hw1;clear hw1 hgl
 have hbw1:b<w1.heap.size:=by omega
 have hle0:Hid (w.heap.size≤w.heap.size):=yG (zX _);generalize hgs:w.heap.size=gs at *;have HGS:=yG hgs;clear hgs;have b0:w1.cell? ⟨g,0,none⟩=some (.slice (some ⟨b,off,none⟩) l.length c):=hWR.out.blk.cell 0;have b1:w1.cell? ⟨g,1,none⟩=some (.int .i64 (k:Int)):=hWR.out.blk.cell 1;have hgl:g<w1.heap.size:=hWR.out.blk.lt;have e0:=hEC.out;apply xU 13 (by kernel_rfl) (by kernel_rfl) (by kernel_rfl);dsimp only[List.take_succ_cons,List.take_zero,List.drop_succ_cons,List.drop_zero];apply yZ (.func (.func 80) #[] #[]) rfl rfl rfl
 ·intro w' hw' hH;clear hH;simp[xB,go_sem,q0];exact Ext.refl _
 apply yZ (.pointer (some ⟨g,0,none⟩)) rfl rfl rfl
 ·intro w' hw' hH;clear hH;simp[xB,go_sem,q0];exact Ext.refl _
 apply yZ (.pointer (some ⟨g,0,none⟩)) rfl rfl rfl
 ·intro w' hw' hH;clear hH;simp[xB,go_sem,q0];exact Ext.refl _
 apply yZ (.pointer (some ⟨g,0,none⟩)) rfl rfl rfl
 ·intro w' hw' hH;clear hH;simp[xB,go_sem,q0];exact Ext.refl _
 apply yZ (.slice (some ⟨b,off,none⟩) l.length c) rfl rfl rfl
 ·intro w' hw' hH;clear hH;have z0:=(hw'.cell (p:=⟨g,0,none⟩) hgl).trans b0;simp[xB,go_sem,z0,q0];exact Ext.refl _
 apply yZ (.pointer (some ⟨g,0,none⟩)) rfl rfl rfl
 ·intro w' hw' hH;clear hH;simp[xB,go_sem,q0];exact Ext.refl _
 apply yZ (.pointer (some ⟨g,0,none⟩)) rfl rfl rfl
 ·intro w' hw' hH;clear hH;simp[xB,go_sem,q0];exact Ext.refl _
 apply yZ (.pointer (some ⟨g,1,none⟩)) rfl rfl rfl
 ·intro w' hw' hH;clear hH;simp[xB,go_sem,q0];exact Ext.refl _
 apply yZ (.int .i64 (k:Int)) rfl rfl rfl
 ·intro w' hw' hH;clear hH;have z0:=(hw'.cell (p:=⟨g,1,none⟩) hgl).trans b1;simp[xB,go_sem,z0,q0];exact Ext.refl _
 apply yZ (.pointer (some ⟨b,off+k,none⟩)) rfl rfl rfl
 ·intro w' hw' hH;clear hH;simp[xB,go_sem,q0];exact Ext.refl _
 apply yZ (.int .u8 (x.toNat:Int)) rfl rfl rfl
 ·intro w' hw' hH;clear hH;have z0:=(hw'.cell (p:=⟨b,off+k,none⟩) hbw1).trans e0;simp[xB,go_sem,z0,q0];exact Ext.refl _
 apply yZ (.int .u8 0) rfl rfl rfl
 ·intro w' hw' hH;clear hH;simp[xB,go_sem];refine(zF2 x w').mono ?_;rintro e w2 ⟨rfl,hx⟩;exact⟨_,rfl,by rw[HKD.out]; rfl,hx⟩
 apply yZ (.pointer (some ⟨gs+1,0,none⟩)) rfl rfl rfl
 ·intro w' hw' hH;clear hH;simp[xB,go_sem,q0];exact Ext.refl _
 apply vC;intro w2 hw2 hH;clear hH;simp only[Act.put,yD,yF,yE];refine zAx rfl 5 (.tmp 24) (.tmp 23) rfl (gs+1) 0 (by kernel_rfl) (.int .u8 0) (by kernel_rfl) 75 _ (hW1.out.ext hw2) (Nat.zero_lt_succ _) rfl rfl zCT ?_;intro w3 ht3 hb3;have hb3':Blk w3 (gs+1) 75 #[.int .u8 0,.int .i64 (k:Int),.int .i64 0,.string ⟨#[]⟩,.int .i64 0]:=hb3;have HT3:=yG hb3';have HZ3:=yG (ht3.blk (hW0.out.ext hw2) (by omega));have HM3:=yG ((hWM.out.trans (Mod.ZJ hw2 g)).ZX ht3 (by rw[HGS.out]; omega));have HR3:=yG ((hWR.out.ext hw2).ZX ht3 hgt (YZ (by omega)));have hgs3:gs+1<w3.heap.size:=hb3'.lt;have hgl3:g<w3.heap.size:=HR3.out.blk.lt
 have hbg3:b≠gs+1:=by omega
 have hgt':g≠gs+1:=fun e=>hgt e.symm;clear hw2 hb3 hb3' ht3 hW1 hW0 hWM hWR hEC hsz1 hle0 b0 b1 hgl e0 hbw1;have t0:w3.cell? ⟨gs+1,0,none⟩=some (.int .u8 0):=HT3.out.cell 0;have hgs4:gs+1<w3.heap.size:=HT3.out.lt;have a1:w3.cell? ⟨g,1,none⟩=some (.int .i64 (k:Int)):=HR3.out.blk.cell 1;clear t0;have t0:=HT3.out.cell 0;have t1:=HT3.out.cell 1;have t2:=HT3.out.cell 2;have t3:=HT3.out.cell 3;have t4:=HT3.out.cell 4;have f2:=HT3.out.frozen 2;have f3:=HT3.out.frozen 3;have f4:=HT3.out.frozen 4;have HTE:=HT3;have HZE:=HZ3;have HME:=HM3;have HRE:=HR3
 go_upto_region 18 with fail
 have HT5:Hid (Blk ((w3).setCell ⟨gs+1,2,none⟩ (.int .i64 (k:Int))) (gs+1) 75 #[.int .u8 0,.int .i64 (k:Int),.int .i64 (k:Int),.string ⟨#[]⟩,.int .i64 0]):=yG (HTE.out.put 2 _);have HZ5:Hid (Blk ((w3).setCell ⟨gs+1,2,none⟩ (.int .i64 (k:Int))) gs 75 #[.int .u8 0,.int .i64 0,.int .i64 0,.string ⟨#[]⟩,.int .i64 0]):=yG (HZE.out.far (by simp) _);have HM5:Hid (Mod g w ((w3).setCell ⟨gs+1,2,none⟩ (.int .i64 (k:Int)))):=yG (HME.out.far (by rw[HGS.out]; omega) 2 _);have HR5:Hid (Rd ((w3).setCell ⟨gs+1,2,none⟩ (.int .i64 (k:Int))) g (some ⟨b,off,none⟩) l c k):=yG (HRE.out.XY hgt (YZ hbg3) 2 _);clear HTE HZE HME HRE;generalize (w3).setCell ⟨gs+1,2,none⟩ (.int .i64 (k:Int))=w5 at *
 go_wp2_with (first
  | refine zBa rfl 75 (.tmp 4) rfl (gs+1) rfl 75 _ _ HT5.out Tryz.underlying75 rfl (by kernel_rfl) ?_
  | (refine vK rfl 75 (.tmp 2) (.tmp 90) rfl gs _ rfl rfl 75 _ HZ5.out (by kernel_rfl) rfl rfl ?_; intro w6 ht6 hb6))
 have z0:=hb6.cell 0;have z1:=hb6.cell 1;have z2:=hb6.cell 2;have z3:=hb6.cell 3;have z4:=hb6.cell 4;refine bodyPost_ret (v:=.tuple #[zDY 0 k k [] 0,.int .i64 30]) (by simp[results,Tryz.results43,go_sem,z0,z1,z2,z3,z4,zDY,zC4]) rfl ?_;have HM6:=HM5.out.ZX ht6 (by rw[HGS.out]; exact zX _);have HR6:=HR5.out.ZX ht6 hgz (YZ (by omega));refine⟨HM6,.inr ⟨30,0,k,[],0,?_,by decide,rfl⟩⟩;rw[HSTEP.out,zUI HBL.out HHS.out HKD.out]
theorem zRB (g:Nat)(A:Option Addr)(l:Bs)(c k:Nat)(w:World)(hr:Rd w g A l c k)(hlt:k<l.length)(hb:XH l[k]=false)(hh:(l[k]==35)=false) :
  Calls Tryz.prog 43 #[.pointer (some ⟨g,0,none⟩)] w (zEc g A l c k w):=by
 have h:XZ l[k]=1∨XZ l[k]=2∨XZ l[k]=3∨XZ l[k]=0:=by
  unfold XZ
  split
  ·exact .inl rfl
  ·split
   ·exact .inr (.inl rfl)
   ·split
    ·exact .inr (.inr (.inl rfl))
    ·exact .inr (.inr (.inr rfl))
 rcases h with h | h | h | h
 ·exact zM2 g A l c k w hr hlt hb hh h
 ·exact zN3 g A l c k w hr hlt hb hh h
 ·exact zPV g A l c k w hr hlt hb hh h
 ·exact zQc g A l c k w hr hlt hb hh h
end Go.Proofs.YtbadjmmjbpeocaaGreatDoor
