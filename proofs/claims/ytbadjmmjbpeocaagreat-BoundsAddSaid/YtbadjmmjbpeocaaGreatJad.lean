/- reader.next, walked. Condition: the reader's block is known whole, the source does not lie in it, and a byte is left. -/
import Derived.Test.YtbadjmmjbpeocaaGreatJaa
import Derived.Test.YtbadjmmjbpeocaaGreatJac
import Derived.StillTailTactics
import Derived.Deep.Cut
import Derived.IntWalk
set_option linter.unusedVariables false
set_option linter.unusedSimpArgs false
set_option maxRecDepth 100000
set_option maxHeartbeats 16000000
namespace Go.Proofs.YtbadjmmjbpeocaaGreat
open Go Go.RowKit
theorem zAy {P:Program}{ops:Array Oper}{rest:List Oper}{o:Oper}{a:Act}{w:World}{Q:Exit→Act→World→Prop}(hgd:o.guard=none)(ty:TypeId)(x y:Operand)(ho:o.op=.store ty x y)
  (g i:Nat) (hx:a.eval x=.pointer (some ⟨g,i,none⟩)) (v:Value) (hy:a.eval y=v) (t:TypeId) (cs:Array Value) (hg:Blk w g t cs) (hi:i<cs.size) (h1:v.oneCell'=true) (hv:v.cells=#[v]) (hsz:∀w,(Go.sizeOf ty).run P w=.ok 1 w)
  (h:∀w',Touch g w w'→Blk w' g t (cs.setIfInBounds i v)→wpList P ops Q rest (a.put o.dst undef) w'):wpList P ops Q (o::rest) a w:=by
 have hc:w.cell? ⟨g,i,none⟩=some cs[i]:=by rw[hg.cell]; simp[hi]
 have hf:=hg.frozen i
 have AA:(storeVar ty ⟨g,i,none⟩ v).run P w=.ok () (w.setCell ⟨g,i,none⟩ v):=by
  simp[storeVar,hv,hsz,storeCells,Addr.add,Result.andThen];rw[run_store P w _ _ _ h1];simp[hc,hf]
 refine wpList_plain hgd fun K hK=>?_;unfold Oper.wp execOp;simp only[ho,hx,hy,Instr.storeAt,Instr.sureAddr,Sem.run_bind,Sem.run_pure,AA,Result.andThen_ok];refine hK _ _ (h (w.setCell ⟨g,i,none⟩ v) ⟨rfl,rfl,rfl,by simp[World.setCell],fun k hk=>zS _ _ _ _ hk⟩ (hg.put i v))
theorem Blk.newAt {w:World}{o:Obj}{t:TypeId}{cs:Array Value}{g:Nat}(hg:(w.alloc o).heap.size=g):Blk ((w.alloc o).alloc (.cells cs t)) g t cs:=by subst hg; exact Blk.new _ _ _
def zEa (kd at_ en:Nat)(x:Bs)(n:Int):Value:=.agg #[.int .u8 (kd:Int),.int .i64 (at_:Int),.int .i64 (en:Int),.string (xG x),.int .i64 n]
theorem zQx:zAn ⟨#[97,98,99,100,101,102,103,104,105,106,107,108,109,110,111,112,113,114,115,116,117,118,119,120,121,122,48,49,50,51,52,53,54,55,56,57,95]⟩ zD4:=by unfold zAn; decide +kernel
theorem zNF:zAn ⟨#[48,49,50,51,52,53,54,55,56,57]⟩ ZU:=zFu
theorem Mod.jQ {g b:Nat}{w w' w'':World}(h:Mod g w w')(t:Touch b w' w'')(hb:w.heap.size≤b):Mod g w w'':=
 ⟨t.os.trans h.os,t.tape.trans h.tape,t.output.trans h.output,by rw[t.size]; exact h.size,fun k hk hg=>(t.other k (by omega)).trans (h.other k hk hg)⟩
theorem Rd.jQ {w w':World}{g b:Nat}{A:Option Addr}{l:Bs}{c k:Nat}(h:Rd w g A l c k)(t:Touch b w w')(hb:b≠g)(ha:∀b' off,A=some ⟨b',off,none⟩→b'≠b):Rd w' g A l c k:=
 ⟨t.blk h.blk (Ne.symm hb),t.cells h.src ha,h.far,h.le,h.cap,h.zIv,h.big⟩
theorem Rd.ext {w w':World}{g:Nat}{A:Option Addr}{l:Bs}{c k:Nat}(h:Rd w g A l c k)(t:Ext w w'):Rd w' g A l c k:=
 ⟨h.blk.ext t,h.src.ext t,h.far,h.le,h.cap,h.zIv,h.big⟩
theorem Rd.JA {w:World}{g b:Nat}{A:Option Addr}{l:Bs}{c k:Nat}(h:Rd w g A l c k)(hb:b≠g)(ha:∀b' off,A=some ⟨b',off,none⟩→b'≠b)(i:Nat)(v:Value):Rd (w.setCell ⟨b,i,none⟩ v) g A l c k:=
 h.jQ ⟨rfl,rfl,rfl,by simp[World.setCell],fun k hk=>zS _ _ _ _ hk⟩ hb ha
theorem zPj (g:Nat)(A:Option Addr)(l:Bs)(c k:Nat)(s:ByteArray)(p:UInt8→Bool)(hs:zAn s p)(w:World)(hr:Rd w g A l c k)(u:Bs)(hu:Hid ((l.drop k).takeWhile p=u))(en:Nat)(hen:Hid (k+u.length=en)) :
  Calls Tryz.prog 94 #[.pointer (some ⟨g,0,none⟩),.string s] w fun e w'=>e=.returned (.string (xG u))∧Mod g w w'∧Rd w' g A l c en:=by
 have h:=zEY g A l c k s p hs w hr;rw[hu.out,hen.out] at h;exact h
theorem YZ {b off g:Nat}(h:b≠g):∀b' AA,(some (⟨b,off,none⟩:Addr))=some ⟨b',AA,none⟩→b'≠g:=by
 intro b' AA e;injection e with e;injection e with e1;subst e1;exact h
theorem zHv {kd k en en':Nat}{x x':Bs}{n er:Int}(h1:en=en')(h2:x=x'):Ending.returned (.tuple #[zEa kd k en x n,.int .i64 er])=.returned (.tuple #[zEa kd k en' x' n,.int .i64 er]):=by rw[h1,h2]
theorem zUn {x:UInt8}(h:JB x=1):JC x=true:=by
 unfold JB at h; split at h
 ·assumption
 ·split at h
  ·omega
  ·split at h <;> omega
theorem zUf {x:UInt8}(h:JB x=2):JC x=false∧ZU x=true:=by
 unfold JB at h; split at h
 ·omega
 ·rename_i h1
  split at h
  ·rename_i h2; exact⟨by simpa using h1,h2⟩
  ·split at h <;> omega
theorem zUy {x:UInt8}(h:JB x=3):JC x=false∧ZU x=false∧zH8 x=true:=by
 unfold JB at h; split at h
 ·omega
 ·rename_i h1
  split at h
  ·omega
  ·rename_i h2
   split at h
   ·rename_i h3; exact⟨by simpa using h1,by simpa using h2,h3⟩
   ·omega
theorem zUz {x:UInt8}(h:JB x=0):JC x=false∧ZU x=false∧zH8 x=false:=by
 unfold JB at h; split at h
 ·omega
 ·rename_i h1
  split at h
  ·omega
  ·rename_i h2
   split at h
   ·omega
   ·rename_i h3; exact⟨by simpa using h1,by simpa using h2,by simpa using h3⟩
theorem zUx {x:UInt8}{r:Bs}(hb:XK x=false)(hh:(x==35)=false)(hk:JB x=1):zAY x r=.tok 1 ((x::r).takeWhile zD4).length 0:=by
 have h:=zUn hk
 have hw:zD4 x=true:=by unfold zD4; rw[h]; rfl
 unfold zAY;rw[hb,hh,h,List.takeWhile_cons,hw];simp[Nat.add_comm]
theorem zRK {x:UInt8}{r:Bs}(hb:XK x=false)(hh:(x==35)=false)(hk:JB x=2):zAY x r=match zCA 0 ((x::r).takeWhile ZU) with | none=>.bad 31 | some n=>.tok 2 ((x::r).takeWhile ZU).length n:=by
 obtain⟨h1,h2⟩:=zUf hk;unfold zAY zO7;rw[hb,hh,h1,h2,List.takeWhile_cons,h2];simp only[Bool.false_eq_true,if_false,if_true,zK];rw[Nat.add_comm]
 cases zCA 0 (x::r.takeWhile ZU) <;> rfl
theorem zRI {x:UInt8}{r:Bs}(hb:XK x=false)(hh:(x==35)=false)(hk:JB x=3):zAY x r=if x==61&&r.head?==some 61 then .tok 3 2 0 else .tok 3 1 0:=by
 obtain⟨h1,h2,h3⟩:=zUy hk;unfold zAY;rw[hb,hh,h1,h2,h3]
 simp
theorem zUu {x:UInt8}{r:Bs}(hb:XK x=false)(hh:(x==35)=false)(hk:JB x=0):zAY x r=.bad 30:=by
 obtain⟨h1,h2,h3⟩:=zUz hk
 have AA:(x==61)=false:=by
  rw[yI];intro e;subst e
  revert h3
  decide
 unfold zAY;rw[hb,hh,h1,h2,h3,AA]
 rfl
def zBX (N:Nat)(Fs:List (Value→World→Prop))(w w':World):Prop:=Below N w w'∧N≤w.heap.size∧∀F ∈ Fs,∀v,F v w→F v w'
theorem zBX.trans {N:Nat}{Fs:List (Value→World→Prop)}(a b c:World)(h:zBX N Fs a b)(k:zBX N Fs b c):zBX N Fs a c:=⟨h.1.trans k.1,h.2.1,fun F hF v hv=>k.2.2 F hF v (h.2.2 F hF v hv)⟩
theorem zBX.ext {N:Nat}{Fs:List (Value→World→Prop)}{w w':World}(hE:∀F ∈ Fs,∀v w w',F v w→Ext w w'→F v w')(hN:N≤w.heap.size)(h:Ext w w'):zBX N Fs w w':=⟨Below.mono h hN,hN,fun F hF v hv=>hE F hF v _ _ hv h⟩
theorem zLm {P:Program}{id:Nat}{Q':Exit→Act→World→Prop}{a:Act}{w:World}{l:List Oper}{ks:List Take}(N:Nat)(Fs:List (Value→World→Prop))(m:Nat)(hm:P.follows .mixedOrders=true)(hB:YG l.toArray m=true)(hT:zBY l.toArray m=true)
  (hE:∀F ∈ Fs,∀v w w',F v w→Ext w w'→F v w') (hN:N≤w.heap.size)
  (h:ZF P l.toArray (zBX N Fs) w (fun a' w'=>wpList P l.toArray Q' (l.drop m) a' w') (l.take m) ks a []):(Code.region id l.toArray true).wp P Q' a w:=
 ZZ (R:=zBX N Fs) m ks hm hB hT (fun _ _ _=>zBX.trans _ _ _) (zBX.ext hE hN (Below.drew (Below.refl _ _))) h
theorem XT {N:Nat}{Fs:List (Value→World→Prop)}{w0 w:World}(h:zBX N Fs w0 w):zBX N Fs w w:=⟨Below.refl _ _,Nat.le_trans h.2.1 h.1.size,fun F hF v hv=>hv⟩
theorem zGy {N:Nat}{Fs:List (Value→World→Prop)}{w0 w:World}(h:zBX N Fs w0 w):N≤w.heap.size:=Nat.le_trans h.2.1 h.1.size
def zA0 (N:Nat)(v:Value)(w:World):Prop:=∃(g:Nat) (fr:Nat × Nat),v=.slice (some ⟨g,0,none⟩) 2 2∧N≤g∧w.heap[g]?=some (.cells #[.int .u8 61,.int .u8 61] 5 fr)
theorem zA0.ext (N:Nat):∀F ∈ [zA0 N],∀v w w',F v w→Ext w w'→F v w':=by
 intro F hF v w w' h hx;rw[yN] at hF;subst hF;obtain⟨g,fr,h1,h2,h3⟩:=h;exact⟨g,fr,h1,h2,(hx.block g (Array.getElem?_eq_some_iff.1 h3).1).trans h3⟩
theorem zA0.mono {N:Nat}(v:Value)(w w':World)(h:zA0 N v w)(hx:zBX N [zA0 N] w w'):zA0 N v w':=hx.2.2 _ (List.mem_singleton.2 rfl) v h
theorem zG1 (w:World)(g i k:Nat)(h:k≠g):(w.freeze ⟨g,i,none⟩ 1).heap[k]?=w.heap[k]?:=by
 simp only[World.freeze];rw[if_neg (by omega)];simp only[Array.getElem?_modify];rw[if_neg (by omega)]
theorem zCr (w:World)(g i:Nat){cs:Array Value}{t:TypeId}{fr:Nat × Nat}(h:w.heap[g]?=some (.cells cs t fr)):∃fr',(w.freeze ⟨g,i,none⟩ 1).heap[g]?=some (.cells cs t fr'):=by
 simp only[World.freeze];rw[if_neg (by omega)];simp only[Array.getElem?_modify];simp[h]
theorem zLy {N g:Nat}{w:World}(hN:N≤w.heap.size)(hg:N≤g)(i:Nat):zBX N [zA0 N] w (w.freeze ⟨g,i,none⟩ 1):=by
 refine⟨⟨rfl,rfl,rfl,by simp[World.freeze],fun k hk=>zG1 w g i k (by omega)⟩,hN,fun F hF v h=>?_⟩;rw[yN] at hF;subst hF;obtain⟨g',fr,h1,h2,h3⟩:=h
 by_cases AA:g'=g
 ·subst AA;obtain⟨AB,h4⟩:=zCr w g' i h3;exact⟨g',AB,h1,h2,h4⟩
 ·exact⟨g',fr,h1,h2,(zG1 w g i g' AA).trans h3⟩
theorem zGA {P:Program}(w:World)(t e:TypeId)(ht:P.underlying t=some (.slice e))(he:P.underlying e=some (.int .u8))(g n c:Nat){cs:Array Value}{fr:Nat × Nat}{e':TypeId}(h:w.heap[g]?=some (.cells cs e' fr)) :
  (convert t t (.slice (some ⟨g,0,none⟩) n c)).run P w=.ok (.slice (some ⟨g,0,none⟩) n c) (w.freeze ⟨g,cs.size,none⟩ 1):=by
 have AA:w.shape? g=some (e',cs.size):=by unfold World.shape?; rw[h]
 simp[convert,run_underlying ht,run_underlying he,markStringish,AA,Result.andThen]
theorem zSg {w:World}{g:Nat}{fr:Nat × Nat}(h:w.heap[g]?=some (.cells #[.int .u8 61,.int .u8 61] 5 fr)):Cells w (some ⟨g,0,none⟩) (vE [61,61]):=
 .inr ⟨g,0,rfl,(Array.getElem?_eq_some_iff.1 h).1,fun k hk=>by rw[Nat.zero_add,cell_of_row w g k _ _ fr h]; simp[vE]⟩
theorem zDe:xG []=⟨#[]⟩:=rfl
theorem zHF {b off c k:Nat}(h:k<c):zDT (some ⟨b,off,none⟩) c k=some ⟨b,off+k,none⟩:=by
 unfold zDT;rw[if_neg (by omega)];simp only[Option.map_some,Addr.add]
 split
 ·rename_i h0; subst h0; rfl
 ·rfl
theorem zMk (A B:Option Addr)(a b:Bs)(n m c d:Nat)(w:World)(hn:n=a.length)(hm:m=b.length)(hc:n≤c)(hA:Cells w A (vE a))(hB:Cells w B (vE b))(t:Bool)(ht:Hid ((decide (b.length≤a.length)&&(a.take b.length==b))=t)) :
  Calls Tryz.prog 99 #[.slice A n c,.slice B m d] w fun e w'=>e=.returned (.bool t)∧w'=w:=by
 have h:=zIQ A B a b n m c d w hn hm hc hA hB;rw[ht.out] at h;exact h
def zEo (g:Nat)(A:Option Addr)(l:Bs)(c k:Nat)(w:World)(e:Ending)(w':World):Prop:=
 Mod g w w'∧((∃kd j n,step (l.drop k)=.tok kd j n∧e=.returned (.tuple #[zEa kd k (k+j) ((l.drop k).take j) n,.int .i64 0])∧Rd w' g A l c (k+j)) ∨
    (∃er kd en x n,step (l.drop k)=.bad er∧er≠0∧e=.returned (.tuple #[zEa kd k en x n,.int .i64 er])))
theorem zM9 (g:Nat)(A:Option Addr)(l:Bs)(c k:Nat)(w:World)(hr:Rd w g A l c k)(hlt:k<l.length)(hb:XK l[k]=false)(hh:(l[k]==35)=false)(hkd:JB l[k]=1) :
  Calls Tryz.prog 68 #[.pointer (some ⟨g,0,none⟩)] w (zEo g A l c k w):=by
 have Ar:=hr.big;have A5:=hr.le;have Al:=hr.cap;have AE:=hr.blk.lt;have HR:=yG hr;have AF:Hid (step (l.drop k)=zAY l[k] (l.drop (k+1))):=yG (by rw[List.drop_eq_getElem_cons hlt]; rfl);have b1:w.cell? ⟨g,1,none⟩=some (.int .i64 (k:Int)):=hr.blk.cell 1;have Ay:=yG (List.drop_eq_getElem_cons hlt);obtain⟨b,AC,hA,A6,Aw,AP⟩:=hr.byte (by omega);have Aa:=yG (AP k hlt)
 have q0:(k:Int)<(l.length:Int):=by omega
 have HB:=yG AP
 have As:=yG hb;have A3:=yG hh;have AY:=yG hkd;clear hr AP hb hh hkd;generalize l[k]=x at *;subst hA;have Ak:Hid (Blk ((w.alloc (.cells #[.int .u8 0,.int .i64 0,.int .i64 0,.string ⟨#[]⟩,.int .i64 0] 104)).alloc (.cells #[.int .u8 0,.int .i64 (k:Int),.int .i64 0,.string ⟨#[]⟩,.int .i64 0] 104)) (w.heap.size+1) 104 #[.int .u8 0,.int .i64 (k:Int),.int .i64 0,.string ⟨#[]⟩,.int .i64 0]):=yG (Blk.newAt (by simp));have Ai:Hid (Blk ((w.alloc (.cells #[.int .u8 0,.int .i64 0,.int .i64 0,.string ⟨#[]⟩,.int .i64 0] 104)).alloc (.cells #[.int .u8 0,.int .i64 (k:Int),.int .i64 0,.string ⟨#[]⟩,.int .i64 0] 104)) w.heap.size 104 #[.int .u8 0,.int .i64 0,.int .i64 0,.string ⟨#[]⟩,.int .i64 0]):=yG ((Blk.new _ _ _).alloc _);have Ag:Hid (Mod g w ((w.alloc (.cells #[.int .u8 0,.int .i64 0,.int .i64 0,.string ⟨#[]⟩,.int .i64 0] 104)).alloc (.cells #[.int .u8 0,.int .i64 (k:Int),.int .i64 0,.string ⟨#[]⟩,.int .i64 0] 104))):=yG (((Mod.refl g w).alloc _).alloc _);have AJ:Hid (Rd ((w.alloc (.cells #[.int .u8 0,.int .i64 0,.int .i64 0,.string ⟨#[]⟩,.int .i64 0] 104)).alloc (.cells #[.int .u8 0,.int .i64 (k:Int),.int .i64 0,.string ⟨#[]⟩,.int .i64 0] 104)) g (some ⟨b,AC,none⟩) l c k):=yG ⟨(HR.out.blk.alloc _).alloc _,HR.out.src.ext ((Ext.alloc _ _).trans (Ext.alloc _ _)),HR.out.far,HR.out.le,HR.out.cap,HR.out.zIv,HR.out.big⟩
 have Ae:Hid (((w.alloc (.cells #[.int .u8 0,.int .i64 0,.int .i64 0,.string ⟨#[]⟩,.int .i64 0] 104)).alloc (.cells #[.int .u8 0,.int .i64 (k:Int),.int .i64 0,.string ⟨#[]⟩,.int .i64 0] 104)).cell? ⟨b,AC+k,none⟩=some (.int .u8 (x.toNat:Int))):=yG ((((Ext.alloc _ _).trans (Ext.alloc _ _)).cell (p:=⟨b,AC+k,none⟩) Aw).trans Aa.out)
 have AS:w.heap.size+1<((w.alloc (.cells #[.int .u8 0,.int .i64 0,.int .i64 0,.string ⟨#[]⟩,.int .i64 0] 104)).alloc (.cells #[.int .u8 0,.int .i64 (k:Int),.int .i64 0,.string ⟨#[]⟩,.int .i64 0] 104)).heap.size:=by simp
 go_enter Tryz.func68,Tryz.ntmps68
 go_upto_region 4 with fail
 clear b1 Aa HR HB;generalize hw1:((w.alloc (.cells #[.int .u8 0,.int .i64 0,.int .i64 0,.string ⟨#[]⟩,.int .i64 0] 104)).alloc (.cells #[.int .u8 0,.int .i64 (k:Int),.int .i64 0,.string ⟨#[]⟩,.int .i64 0] 104))=w1 at *
 have AI:w.heap.size+1≠g:=by omega
 have Aj:w.heap.size≠g:=by omega
 have At:=yG hw1;clear hw1 AE
 have AG:b<w1.heap.size:=by omega
 have AT:Hid (w.heap.size≤w.heap.size):=yG (zX _);generalize hgs:w.heap.size=gs at *;have AL:=yG hgs;clear hgs;have b0:w1.cell? ⟨g,0,none⟩=some (.slice (some ⟨b,AC,none⟩) l.length c):=AJ.out.blk.cell 0;have b1:w1.cell? ⟨g,1,none⟩=some (.int .i64 (k:Int)):=AJ.out.blk.cell 1;have AE:g<w1.heap.size:=AJ.out.blk.lt;have e0:=Ae.out;apply xN 13 (by kernel_rfl) (by kernel_rfl) (by kernel_rfl);dsimp only[List.take_succ_cons,List.take_zero,List.drop_succ_cons,List.drop_zero];apply sP q0 (.func (.func 96) #[] #[]);apply sP q0 (.pointer (some ⟨g,0,none⟩));apply sP q0 (.pointer (some ⟨g,0,none⟩));apply sP q0 (.pointer (some ⟨g,0,none⟩));apply sR b0 AE q0 (.slice (some ⟨b,AC,none⟩) l.length c);apply sP q0 (.pointer (some ⟨g,0,none⟩));apply sP q0 (.pointer (some ⟨g,0,none⟩));apply sP q0 (.pointer (some ⟨g,1,none⟩));apply sR b1 AE q0 (.int .i64 (k:Int));apply sP q0 (.pointer (some ⟨b,AC+k,none⟩));apply sR e0 AG q0 (.int .u8 (x.toNat:Int));apply xB (.int .u8 1) rfl rfl rfl
 ·intro w' A7 hH;clear hH;simp[xA,go_sem];refine(zF6 x w').mono ?_;rintro e w2 ⟨rfl,hx⟩;exact⟨_,rfl,by rw[AY.out]; rfl,hx⟩
 apply sP q0 (.pointer (some ⟨gs+1,0,none⟩));apply xR;intro w2 AK hH;clear hH;(try simp only[Act.put,yD,yF,yE]);refine zAy rfl 5 (.tmp 24) (.tmp 23) rfl (gs+1) 0 (by kernel_rfl) (.int .u8 1) (by kernel_rfl) 104 _ (Ak.out.ext AK) (Nat.zero_lt_succ _) rfl rfl zCF ?_;intro w3 AM AX;have AB:Blk w3 (gs+1) 104 #[.int .u8 1,.int .i64 (k:Int),.int .i64 0,.string ⟨#[]⟩,.int .i64 0]:=AX;have AO:=yG AB;have AZ:=yG (AM.blk (Ai.out.ext AK) (by omega));have AW:=yG ((Ag.out.trans (Mod.ZV AK g)).jQ AM (by rw[AL.out]; omega));have AR:=yG ((AJ.out.ext AK).jQ AM AI (YZ (by omega)));have Au:gs+1<w3.heap.size:=AB.lt;have A4:g<w3.heap.size:=AR.out.blk.lt
 have AH:b≠gs+1:=by omega
 have Ax:g≠gs+1:=fun e=>AI e.symm;clear AK AX AB AM Ak Ai Ag AJ Ae AS AT b0 b1 AE e0 AG;have t0:w3.cell? ⟨gs+1,0,none⟩=some (.int .u8 1):=AO.out.cell 0;obtain⟨u,HU⟩:∃u,Hid ((l.drop k).takeWhile zD4=u):=⟨_,yG rfl⟩;obtain⟨en,AQ⟩:∃en,Hid (k+u.length=en):=⟨_,yG rfl⟩
 go_wp2_with fail
 refine(zPj g _ l c k _ zD4 zQx w3 AR.out u HU en AQ).mono ?_;rintro e w4 ⟨rfl,AN,Af⟩;have AA:=yG (AN.blk AO.out AI);have Az:=yG (AN.blk AZ.out Aj);have A1:=yG (AW.out.trans AN);have AU:=yG Af;have Am:gs+1<w4.heap.size:=AA.out.lt;have Ap:g<w4.heap.size:=AU.out.blk.lt;have a1:w4.cell? ⟨g,1,none⟩=some (.int .i64 (en:Int)):=AU.out.blk.cell 1;clear AN Af AO AZ AW AR t0;have t0:=AA.out.cell 0;have t1:=AA.out.cell 1;have t2:=AA.out.cell 2;have t3:=AA.out.cell 3;have t4:=AA.out.cell 4;have f2:=AA.out.frozen 2;have f3:=AA.out.frozen 3;have f4:=AA.out.frozen 4;have Ad:Hid (Blk (w4.setCell ⟨gs+1,3,none⟩ (.string (xG u))) (gs+1) 104 #[.int .u8 1,.int .i64 (k:Int),.int .i64 0,.string (xG u),.int .i64 0]):=yG (AA.out.put 3 _);have Ab:=yG (Az.out.far (p:=⟨gs+1,3,none⟩) (by simp) (.string (xG u)));have AV:=yG (A1.out.far (b:=gs+1) (by rw[AL.out]; omega) 3 (.string (xG u)));have Ac:=yG (AU.out.JA AI (YZ AH) 3 (.string (xG u)))
 go_upto_region 18 with fail
 have Av:Hid (Blk ((w4.setCell ⟨gs+1,3,none⟩ (.string (xG u))).setCell ⟨gs+1,2,none⟩ (.int .i64 (en:Int))) (gs+1) 104 #[.int .u8 1,.int .i64 (k:Int),.int .i64 (en:Int),.string (xG u),.int .i64 0]):=yG (Ad.out.put 2 _);have Ao:Hid (Blk ((w4.setCell ⟨gs+1,3,none⟩ (.string (xG u))).setCell ⟨gs+1,2,none⟩ (.int .i64 (en:Int))) gs 104 #[.int .u8 0,.int .i64 0,.int .i64 0,.string ⟨#[]⟩,.int .i64 0]):=yG (Ab.out.far (by simp) _);have Aq:Hid (Mod g w ((w4.setCell ⟨gs+1,3,none⟩ (.string (xG u))).setCell ⟨gs+1,2,none⟩ (.int .i64 (en:Int)))):=yG (AV.out.far (by rw[AL.out]; omega) 2 _);have A2:Hid (Rd ((w4.setCell ⟨gs+1,3,none⟩ (.string (xG u))).setCell ⟨gs+1,2,none⟩ (.int .i64 (en:Int))) g (some ⟨b,AC,none⟩) l c en):=yG (Ac.out.JA AI (YZ AH) 2 _);clear Ad Ab AV Ac;generalize (w4.setCell ⟨gs+1,3,none⟩ (.string (xG u))).setCell ⟨gs+1,2,none⟩ (.int .i64 (en:Int))=w5 at *
 go_wp2_with (first
  | refine zA6 rfl 104 (.tmp 4) rfl (gs+1) rfl 104 _ _ Av.out Tryz.underlying104 rfl (by kernel_rfl) ?_
  | (refine xQ rfl 104 (.tmp 2) (.tmp 90) rfl gs _ rfl rfl 104 _ Ao.out (by kernel_rfl) rfl rfl ?_; intro w6 Ah AD))
 have z0:=AD.cell 0;have z1:=AD.cell 1;have z2:=AD.cell 2;have z3:=AD.cell 3;have z4:=AD.cell 4;refine bodyPost_ret (v:=.tuple #[zEa 1 k en u 0,.int .i64 0]) (by simp[results,Tryz.results68,go_sem,z0,z1,z2,z3,z4,zEa,zDe]) rfl ?_;have An:=Aq.out.jQ Ah (by rw[AL.out]; exact zX _);have A0:=A2.out.jQ Ah Aj (YZ (by omega));refine⟨An,.inl ⟨1,u.length,0,?_,zHv AQ.out.symm ?_,by rw[AQ.out]; exact A0⟩⟩
 ·rw[AF.out,zUx As.out A3.out AY.out,←Ay.out,HU.out]
 ·rw[←HU.out,zLh]
theorem zOa (g:Nat)(A:Option Addr)(l:Bs)(c k:Nat)(w:World)(hr:Rd w g A l c k)(hlt:k<l.length)(hb:XK l[k]=false)(hh:(l[k]==35)=false)(hkd:JB l[k]=2) :
  Calls Tryz.prog 68 #[.pointer (some ⟨g,0,none⟩)] w (zEo g A l c k w):=by
 have BF:=hr.big;have BJ:=hr.le;have A6:=hr.cap;have AI:=hr.blk.lt;have HR:=yG hr;have AD:Hid (step (l.drop k)=zAY l[k] (l.drop (k+1))):=yG (by rw[List.drop_eq_getElem_cons hlt]; rfl);have b1:w.cell? ⟨g,1,none⟩=some (.int .i64 (k:Int)):=hr.blk.cell 1;have Ax:=yG (List.drop_eq_getElem_cons hlt);obtain⟨b,AE,hA,BL,BA,Ah⟩:=hr.byte (by omega);have An:=yG (Ah k hlt)
 have q0:(k:Int)<(l.length:Int):=by omega
 have HB:=yG Ah
 have Al:=yG hb;have A5:=yG hh;have Ag:=yG hkd;clear hr Ah hb hh hkd;generalize l[k]=x at *;subst hA;have A3:Hid (Blk ((w.alloc (.cells #[.int .u8 0,.int .i64 0,.int .i64 0,.string ⟨#[]⟩,.int .i64 0] 104)).alloc (.cells #[.int .u8 0,.int .i64 (k:Int),.int .i64 0,.string ⟨#[]⟩,.int .i64 0] 104)) (w.heap.size+1) 104 #[.int .u8 0,.int .i64 (k:Int),.int .i64 0,.string ⟨#[]⟩,.int .i64 0]):=yG (Blk.newAt (by simp));have Ar:Hid (Blk ((w.alloc (.cells #[.int .u8 0,.int .i64 0,.int .i64 0,.string ⟨#[]⟩,.int .i64 0] 104)).alloc (.cells #[.int .u8 0,.int .i64 (k:Int),.int .i64 0,.string ⟨#[]⟩,.int .i64 0] 104)) w.heap.size 104 #[.int .u8 0,.int .i64 0,.int .i64 0,.string ⟨#[]⟩,.int .i64 0]):=yG ((Blk.new _ _ _).alloc _);have A0:Hid (Mod g w ((w.alloc (.cells #[.int .u8 0,.int .i64 0,.int .i64 0,.string ⟨#[]⟩,.int .i64 0] 104)).alloc (.cells #[.int .u8 0,.int .i64 (k:Int),.int .i64 0,.string ⟨#[]⟩,.int .i64 0] 104))):=yG (((Mod.refl g w).alloc _).alloc _);have AN:Hid (Rd ((w.alloc (.cells #[.int .u8 0,.int .i64 0,.int .i64 0,.string ⟨#[]⟩,.int .i64 0] 104)).alloc (.cells #[.int .u8 0,.int .i64 (k:Int),.int .i64 0,.string ⟨#[]⟩,.int .i64 0] 104)) g (some ⟨b,AE,none⟩) l c k):=yG ⟨(HR.out.blk.alloc _).alloc _,HR.out.src.ext ((Ext.alloc _ _).trans (Ext.alloc _ _)),HR.out.far,HR.out.le,HR.out.cap,HR.out.zIv,HR.out.big⟩
 have Aw:Hid (((w.alloc (.cells #[.int .u8 0,.int .i64 0,.int .i64 0,.string ⟨#[]⟩,.int .i64 0] 104)).alloc (.cells #[.int .u8 0,.int .i64 (k:Int),.int .i64 0,.string ⟨#[]⟩,.int .i64 0] 104)).cell? ⟨b,AE+k,none⟩=some (.int .u8 (x.toNat:Int))):=yG ((((Ext.alloc _ _).trans (Ext.alloc _ _)).cell (p:=⟨b,AE+k,none⟩) BA).trans An.out)
 have Ad:w.heap.size+1<((w.alloc (.cells #[.int .u8 0,.int .i64 0,.int .i64 0,.string ⟨#[]⟩,.int .i64 0] 104)).alloc (.cells #[.int .u8 0,.int .i64 (k:Int),.int .i64 0,.string ⟨#[]⟩,.int .i64 0] 104)).heap.size:=by simp
 go_enter Tryz.func68,Tryz.ntmps68
 go_upto_region 4 with fail
 clear b1 An HR HB;generalize hw1:((w.alloc (.cells #[.int .u8 0,.int .i64 0,.int .i64 0,.string ⟨#[]⟩,.int .i64 0] 104)).alloc (.cells #[.int .u8 0,.int .i64 (k:Int),.int .i64 0,.string ⟨#[]⟩,.int .i64 0] 104))=w1 at *
 have AG:w.heap.size+1≠g:=by omega
 have Ae:w.heap.size≠g:=by omega
 have A8:=yG hw1;clear hw1 AI
 have AJ:b<w1.heap.size:=by omega
 have Aj:Hid (w.heap.size≤w.heap.size):=yG (zX _);generalize hgs:w.heap.size=gs at *;have AF:=yG hgs;clear hgs;have b0:w1.cell? ⟨g,0,none⟩=some (.slice (some ⟨b,AE,none⟩) l.length c):=AN.out.blk.cell 0;have b1:w1.cell? ⟨g,1,none⟩=some (.int .i64 (k:Int)):=AN.out.blk.cell 1;have AI:g<w1.heap.size:=AN.out.blk.lt;have e0:=Aw.out;apply xN 13 (by kernel_rfl) (by kernel_rfl) (by kernel_rfl);dsimp only[List.take_succ_cons,List.take_zero,List.drop_succ_cons,List.drop_zero];apply sP q0 (.func (.func 96) #[] #[]);apply sP q0 (.pointer (some ⟨g,0,none⟩));apply sP q0 (.pointer (some ⟨g,0,none⟩));apply sP q0 (.pointer (some ⟨g,0,none⟩));apply sR b0 AI q0 (.slice (some ⟨b,AE,none⟩) l.length c);apply sP q0 (.pointer (some ⟨g,0,none⟩));apply sP q0 (.pointer (some ⟨g,0,none⟩));apply sP q0 (.pointer (some ⟨g,1,none⟩));apply sR b1 AI q0 (.int .i64 (k:Int));apply sP q0 (.pointer (some ⟨b,AE+k,none⟩));apply sR e0 AJ q0 (.int .u8 (x.toNat:Int));apply xB (.int .u8 2) rfl rfl rfl
 ·intro w' BK hH;clear hH;simp[xA,go_sem];refine(zF6 x w').mono ?_;rintro e w2 ⟨rfl,hx⟩;exact⟨_,rfl,by rw[Ag.out]; rfl,hx⟩
 apply sP q0 (.pointer (some ⟨gs+1,0,none⟩));apply xR;intro w2 AO hH;clear hH;(try simp only[Act.put,yD,yF,yE]);refine zAy rfl 5 (.tmp 24) (.tmp 23) rfl (gs+1) 0 (by kernel_rfl) (.int .u8 2) (by kernel_rfl) 104 _ (A3.out.ext AO) (Nat.zero_lt_succ _) rfl rfl zCF ?_;intro w3 AU At;have AH:Blk w3 (gs+1) 104 #[.int .u8 2,.int .i64 (k:Int),.int .i64 0,.string ⟨#[]⟩,.int .i64 0]:=At;have AW:=yG AH;have Am:=yG (AU.blk (Ar.out.ext AO) (by omega));have Ak:=yG ((A0.out.trans (Mod.ZV AO g)).jQ AU (by rw[AF.out]; omega));have Ac:=yG ((AN.out.ext AO).jQ AU AG (YZ (by omega)));have BG:gs+1<w3.heap.size:=AH.lt;have BE:g<w3.heap.size:=Ac.out.blk.lt
 have AC:b≠gs+1:=by omega
 have BB:g≠gs+1:=fun e=>AG e.symm;clear AO At AH AU A3 Ar A0 AN Aw Ad Aj b0 b1 AI e0 AJ;have t0:w3.cell? ⟨gs+1,0,none⟩=some (.int .u8 2):=AW.out.cell 0;obtain⟨u,HU⟩:∃u,Hid ((l.drop k).takeWhile ZU=u):=⟨_,yG rfl⟩;obtain⟨en,Ab⟩:∃en,Hid (k+u.length=en):=⟨_,yG rfl⟩;obtain⟨r,AZ⟩:∃r,Hid (zCA 0 u=r):=⟨_,yG rfl⟩;have BH:Hid (∀c ∈ u,ZU c=true):=yG (by rw[←HU.out]; exact fun c hc=>by have:=zR7 (p:=ZU) ((l.drop k).takeWhile ZU) (by have h:=zPg (p:=ZU) (l.drop k) _ (zX _); rw[zLh] at h; exact h) c hc; exact this)
 have BC:u.length≤140737488355328:=by
  have:=zM7 ZU (l.drop k)
  rw[HU.out,List.length_drop] at this;omega
 go_wp2_with fail
 refine(zPj g _ l c k _ ZU zNF w3 Ac.out u HU en Ab).mono ?_;rintro e w4 ⟨rfl,AV,Ap⟩;have AQ:=yG (AV.blk AW.out AG);have Ay:=yG (AV.blk Am.out Ae);have A1:=yG (Ak.out.trans AV);have A4:=yG Ap;have A7:gs+1<w4.heap.size:=AQ.out.lt;clear AV Ap AW Am Ak Ac t0;have t3:=AQ.out.cell 3;have f3:=AQ.out.frozen 3;have A2:Hid (Blk (w4.setCell ⟨gs+1,3,none⟩ (.string (xG u))) (gs+1) 104 #[.int .u8 2,.int .i64 (k:Int),.int .i64 0,.string (xG u),.int .i64 0]):=yG (AQ.out.put 3 _);have Au:=yG (Ay.out.far (p:=⟨gs+1,3,none⟩) (by simp) (.string (xG u)));have As:=yG (A1.out.far (b:=gs+1) (by rw[AF.out]; omega) 3 (.string (xG u)));have Av:=yG (A4.out.JA AG (YZ AC) 3 (.string (xG u)))
 go_wp2_with fail
 refine(zOd u BH.out BC _ r AZ).mono ?_;rintro e w5 ⟨rfl,AR⟩;have AA:=yG (A2.out.ext AR);have Aq:=yG (Au.out.ext AR);have Ao:=yG (As.out.trans (Mod.ZV AR g));have AT:=yG (Av.out.ext AR);have BD:gs+1<w5.heap.size:=AA.out.lt;have A9:g<w5.heap.size:=AT.out.blk.lt;have a1:w5.cell? ⟨g,1,none⟩=some (.int .i64 (en:Int)):=AT.out.blk.cell 1;clear AR AQ Ay A1 A4 t3 f3 A2 Au As Av
 cases r with
 | none=>
  dsimp only[zH1];have t0:=AA.out.cell 0;have t1:=AA.out.cell 1;have t2:=AA.out.cell 2;have t3:=AA.out.cell 3;have t4:=AA.out.cell 4;have f2:=AA.out.frozen 2;have f3:=AA.out.frozen 3;have f4:=AA.out.frozen 4;have AL:Hid (Blk (w5.setCell ⟨gs+1,4,none⟩ (.int .i64 0)) (gs+1) 104 #[.int .u8 2,.int .i64 (k:Int),.int .i64 0,.string (xG u),.int .i64 0]):=yG (AA.out.put 4 _);have AK:=yG (Aq.out.far (p:=⟨gs+1,4,none⟩) (by simp) (.int .i64 0));have AP:=yG (Ao.out.far (b:=gs+1) (by rw[AF.out]; omega) 4 (.int .i64 0));have AS:=yG (AT.out.JA AG (YZ AC) 4 (.int .i64 0))
  go_upto_region 18 with fail
  have Aa:Hid (Blk ((w5.setCell ⟨gs+1,4,none⟩ (.int .i64 0)).setCell ⟨gs+1,2,none⟩ (.int .i64 (en:Int))) (gs+1) 104 #[.int .u8 2,.int .i64 (k:Int),.int .i64 (en:Int),.string (xG u),.int .i64 0]):=yG (AL.out.put 2 _);have AX:Hid (Blk ((w5.setCell ⟨gs+1,4,none⟩ (.int .i64 0)).setCell ⟨gs+1,2,none⟩ (.int .i64 (en:Int))) gs 104 #[.int .u8 0,.int .i64 0,.int .i64 0,.string ⟨#[]⟩,.int .i64 0]):=yG (AK.out.far (by simp) _);have AY:Hid (Mod g w ((w5.setCell ⟨gs+1,4,none⟩ (.int .i64 0)).setCell ⟨gs+1,2,none⟩ (.int .i64 (en:Int)))):=yG (AP.out.far (by rw[AF.out]; omega) 2 _);have Ai:Hid (Rd ((w5.setCell ⟨gs+1,4,none⟩ (.int .i64 0)).setCell ⟨gs+1,2,none⟩ (.int .i64 (en:Int))) g (some ⟨b,AE,none⟩) l c en):=yG (AS.out.JA AG (YZ AC) 2 _);clear AL AK AP AS;generalize (w5.setCell ⟨gs+1,4,none⟩ (.int .i64 0)).setCell ⟨gs+1,2,none⟩ (.int .i64 (en:Int))=w5 at *
  go_wp2_with (first
   | refine zA6 rfl 104 (.tmp 4) rfl (gs+1) rfl 104 _ _ Aa.out Tryz.underlying104 rfl (by kernel_rfl) ?_
   | (refine xQ rfl 104 (.tmp 2) (.tmp 90) rfl gs _ rfl rfl 104 _ AX.out (by kernel_rfl) rfl rfl ?_; intro w6 AM AB))
  have z0:=AB.cell 0;have z1:=AB.cell 1;have z2:=AB.cell 2;have z3:=AB.cell 3;have z4:=AB.cell 4;refine bodyPost_ret (v:=.tuple #[zEa 2 k en u 0,.int .i64 31]) (by simp[results,Tryz.results68,go_sem,z0,z1,z2,z3,z4,zEa,zDe]) rfl ?_;have Af:=AY.out.jQ AM (by rw[AF.out]; exact zX _);have Az:=Ai.out.jQ AM Ae (YZ (by omega));refine⟨Af,.inr ⟨31,2,en,u,0,?_,by decide,rfl⟩⟩;rw[AD.out,zRK Al.out A5.out Ag.out,←Ax.out,HU.out,AZ.out]
 | some m=>
  dsimp only[zH1];have t0:=AA.out.cell 0;have t1:=AA.out.cell 1;have t2:=AA.out.cell 2;have t3:=AA.out.cell 3;have t4:=AA.out.cell 4;have f2:=AA.out.frozen 2;have f3:=AA.out.frozen 3;have f4:=AA.out.frozen 4;have AL:Hid (Blk (w5.setCell ⟨gs+1,4,none⟩ (.int .i64 m)) (gs+1) 104 #[.int .u8 2,.int .i64 (k:Int),.int .i64 0,.string (xG u),.int .i64 m]):=yG (AA.out.put 4 _);have AK:=yG (Aq.out.far (p:=⟨gs+1,4,none⟩) (by simp) (.int .i64 m));have AP:=yG (Ao.out.far (b:=gs+1) (by rw[AF.out]; omega) 4 (.int .i64 m));have AS:=yG (AT.out.JA AG (YZ AC) 4 (.int .i64 m))
  go_upto_region 18 with fail
  have Aa:Hid (Blk ((w5.setCell ⟨gs+1,4,none⟩ (.int .i64 m)).setCell ⟨gs+1,2,none⟩ (.int .i64 (en:Int))) (gs+1) 104 #[.int .u8 2,.int .i64 (k:Int),.int .i64 (en:Int),.string (xG u),.int .i64 m]):=yG (AL.out.put 2 _);have AX:Hid (Blk ((w5.setCell ⟨gs+1,4,none⟩ (.int .i64 m)).setCell ⟨gs+1,2,none⟩ (.int .i64 (en:Int))) gs 104 #[.int .u8 0,.int .i64 0,.int .i64 0,.string ⟨#[]⟩,.int .i64 0]):=yG (AK.out.far (by simp) _);have AY:Hid (Mod g w ((w5.setCell ⟨gs+1,4,none⟩ (.int .i64 m)).setCell ⟨gs+1,2,none⟩ (.int .i64 (en:Int)))):=yG (AP.out.far (by rw[AF.out]; omega) 2 _);have Ai:Hid (Rd ((w5.setCell ⟨gs+1,4,none⟩ (.int .i64 m)).setCell ⟨gs+1,2,none⟩ (.int .i64 (en:Int))) g (some ⟨b,AE,none⟩) l c en):=yG (AS.out.JA AG (YZ AC) 2 _);clear AL AK AP AS;generalize (w5.setCell ⟨gs+1,4,none⟩ (.int .i64 m)).setCell ⟨gs+1,2,none⟩ (.int .i64 (en:Int))=w5 at *
  go_wp2_with (first
   | refine zA6 rfl 104 (.tmp 4) rfl (gs+1) rfl 104 _ _ Aa.out Tryz.underlying104 rfl (by kernel_rfl) ?_
   | (refine xQ rfl 104 (.tmp 2) (.tmp 90) rfl gs _ rfl rfl 104 _ AX.out (by kernel_rfl) rfl rfl ?_; intro w6 AM AB))
  have z0:=AB.cell 0;have z1:=AB.cell 1;have z2:=AB.cell 2;have z3:=AB.cell 3;have z4:=AB.cell 4;refine bodyPost_ret (v:=.tuple #[zEa 2 k en u m,.int .i64 0]) (by simp[results,Tryz.results68,go_sem,z0,z1,z2,z3,z4,zEa,zDe]) rfl ?_;have Af:=AY.out.jQ AM (by rw[AF.out]; exact zX _);have Az:=Ai.out.jQ AM Ae (YZ (by omega));refine⟨Af,.inl ⟨2,u.length,m,?_,zHv Ab.out.symm ?_,by rw[Ab.out]; exact Az⟩⟩
  ·rw[AD.out,zRK Al.out A5.out Ag.out,←Ax.out,HU.out,AZ.out]
  ·rw[←HU.out,zLh]
theorem zPN (g:Nat)(A:Option Addr)(l:Bs)(c k:Nat)(w:World)(hr:Rd w g A l c k)(hlt:k<l.length)(hb:XK l[k]=false)(hh:(l[k]==35)=false)(hkd:JB l[k]=3) :
  Calls Tryz.prog 68 #[.pointer (some ⟨g,0,none⟩)] w (zEo g A l c k w):=by
 have Bi:=hr.big;have Bd:=hr.le;have Ae:=hr.cap;have Ag:=hr.blk.lt;have HR:=yG hr;have AQ:Hid (step (l.drop k)=zAY l[k] (l.drop (k+1))):=yG (by rw[List.drop_eq_getElem_cons hlt]; rfl);have b1:w.cell? ⟨g,1,none⟩=some (.int .i64 (k:Int)):=hr.blk.cell 1;have A1:=yG (List.drop_eq_getElem_cons hlt);obtain⟨b,AB,hA,Bn,Bf,BE⟩:=hr.byte (by omega);have BQ:=yG (BE k hlt)
 have q0:(k:Int)<(l.length:Int):=by omega
 have HB:=yG BE
 have BM:=yG hb;have Bb:=yG hh;have BD:=yG hkd;clear hr BE hb hh hkd;generalize l[k]=x at *;subst hA;have Ba:Hid (Blk ((w.alloc (.cells #[.int .u8 0,.int .i64 0,.int .i64 0,.string ⟨#[]⟩,.int .i64 0] 104)).alloc (.cells #[.int .u8 0,.int .i64 (k:Int),.int .i64 0,.string ⟨#[]⟩,.int .i64 0] 104)) (w.heap.size+1) 104 #[.int .u8 0,.int .i64 (k:Int),.int .i64 0,.string ⟨#[]⟩,.int .i64 0]):=yG (Blk.newAt (by simp));have BR:Hid (Blk ((w.alloc (.cells #[.int .u8 0,.int .i64 0,.int .i64 0,.string ⟨#[]⟩,.int .i64 0] 104)).alloc (.cells #[.int .u8 0,.int .i64 (k:Int),.int .i64 0,.string ⟨#[]⟩,.int .i64 0] 104)) w.heap.size 104 #[.int .u8 0,.int .i64 0,.int .i64 0,.string ⟨#[]⟩,.int .i64 0]):=yG ((Blk.new _ _ _).alloc _);have BZ:Hid (Mod g w ((w.alloc (.cells #[.int .u8 0,.int .i64 0,.int .i64 0,.string ⟨#[]⟩,.int .i64 0] 104)).alloc (.cells #[.int .u8 0,.int .i64 (k:Int),.int .i64 0,.string ⟨#[]⟩,.int .i64 0] 104))):=yG (((Mod.refl g w).alloc _).alloc _);have Aq:Hid (Rd ((w.alloc (.cells #[.int .u8 0,.int .i64 0,.int .i64 0,.string ⟨#[]⟩,.int .i64 0] 104)).alloc (.cells #[.int .u8 0,.int .i64 (k:Int),.int .i64 0,.string ⟨#[]⟩,.int .i64 0] 104)) g (some ⟨b,AB,none⟩) l c k):=yG ⟨(HR.out.blk.alloc _).alloc _,HR.out.src.ext ((Ext.alloc _ _).trans (Ext.alloc _ _)),HR.out.far,HR.out.le,HR.out.cap,HR.out.zIv,HR.out.big⟩
 have BX:Hid (((w.alloc (.cells #[.int .u8 0,.int .i64 0,.int .i64 0,.string ⟨#[]⟩,.int .i64 0] 104)).alloc (.cells #[.int .u8 0,.int .i64 (k:Int),.int .i64 0,.string ⟨#[]⟩,.int .i64 0] 104)).cell? ⟨b,AB+k,none⟩=some (.int .u8 (x.toNat:Int))):=yG ((((Ext.alloc _ _).trans (Ext.alloc _ _)).cell (p:=⟨b,AB+k,none⟩) Bf).trans BQ.out)
 have A9:w.heap.size+1<((w.alloc (.cells #[.int .u8 0,.int .i64 0,.int .i64 0,.string ⟨#[]⟩,.int .i64 0] 104)).alloc (.cells #[.int .u8 0,.int .i64 (k:Int),.int .i64 0,.string ⟨#[]⟩,.int .i64 0] 104)).heap.size:=by simp
 go_enter Tryz.func68,Tryz.ntmps68
 go_upto_region 4 with fail
 clear b1 BQ HR HB;generalize AP:((w.alloc (.cells #[.int .u8 0,.int .i64 0,.int .i64 0,.string ⟨#[]⟩,.int .i64 0] 104)).alloc (.cells #[.int .u8 0,.int .i64 (k:Int),.int .i64 0,.string ⟨#[]⟩,.int .i64 0] 104))=w1 at *
 have AR:w.heap.size+1≠g:=by omega
 have Az:w.heap.size≠g:=by omega
 have Be:=yG AP;clear AP Ag
 have Aj:b<w1.heap.size:=by omega
 have BJ:Hid (w.heap.size≤w.heap.size):=yG (zX _);generalize hgs:w.heap.size=gs at *;have Ab:=yG hgs;clear hgs;have b0:w1.cell? ⟨g,0,none⟩=some (.slice (some ⟨b,AB,none⟩) l.length c):=Aq.out.blk.cell 0;have b1:w1.cell? ⟨g,1,none⟩=some (.int .i64 (k:Int)):=Aq.out.blk.cell 1;have Ag:g<w1.heap.size:=Aq.out.blk.lt;have e0:=BX.out;apply xN 13 (by kernel_rfl) (by kernel_rfl) (by kernel_rfl);dsimp only[List.take_succ_cons,List.take_zero,List.drop_succ_cons,List.drop_zero];apply sP q0 (.func (.func 96) #[] #[]);apply sP q0 (.pointer (some ⟨g,0,none⟩));apply sP q0 (.pointer (some ⟨g,0,none⟩));apply sP q0 (.pointer (some ⟨g,0,none⟩));apply sR b0 Ag q0 (.slice (some ⟨b,AB,none⟩) l.length c);apply sP q0 (.pointer (some ⟨g,0,none⟩));apply sP q0 (.pointer (some ⟨g,0,none⟩));apply sP q0 (.pointer (some ⟨g,1,none⟩));apply sR b1 Ag q0 (.int .i64 (k:Int));apply sP q0 (.pointer (some ⟨b,AB+k,none⟩));apply sR e0 Aj q0 (.int .u8 (x.toNat:Int));apply xB (.int .u8 3) rfl rfl rfl
 ·intro w' AA hH;clear hH;simp[xA,go_sem];refine(zF6 x w').mono ?_;rintro e w2 ⟨rfl,hx⟩;exact⟨_,rfl,by rw[BD.out]; rfl,hx⟩
 apply sP q0 (.pointer (some ⟨gs+1,0,none⟩));apply xR;intro w2 Ar hH;clear hH;(try simp only[Act.put,yD,yF,yE]);refine zAy rfl 5 (.tmp 24) (.tmp 23) rfl (gs+1) 0 (by kernel_rfl) (.int .u8 3) (by kernel_rfl) 104 _ (Ba.out.ext Ar) (Nat.zero_lt_succ _) rfl rfl zCF ?_;intro w3 Ay BV;have Aa:Blk w3 (gs+1) 104 #[.int .u8 3,.int .i64 (k:Int),.int .i64 0,.string ⟨#[]⟩,.int .i64 0]:=BV;have A4:=yG Aa;have BN:=yG (Ay.blk (BR.out.ext Ar) (by omega));have BL:=yG ((BZ.out.trans (Mod.ZV Ar g)).jQ Ay (by rw[Ab.out]; omega));have AV:=yG ((Aq.out.ext Ar).jQ Ay AR (YZ (by omega)));have Bj:gs+1<w3.heap.size:=Aa.lt;have AX:g<w3.heap.size:=AV.out.blk.lt
 have AI:b≠gs+1:=by omega
 have Bg:g≠gs+1:=fun e=>AR e.symm;clear Ar BV Aa Ay Ba BR BZ Aq BX A9 BJ b0 b1 Ag e0 Aj;have t0:w3.cell? ⟨gs+1,0,none⟩=some (.int .u8 3):=A4.out.cell 0;obtain⟨tp,HP⟩:∃t,Hid ((decide (([61,61]:Bs).length≤(l.drop k).length)&&((l.drop k).take ([61,61]:Bs).length==[61,61]))=t):=⟨_,yG rfl⟩
 have BY:Hid (Cells w3 (some ⟨b,AB+k,none⟩) (vE (l.drop k))):=yG (by
  have h:=zDj AV.out.src Ae k l.length;rw[zHF (by omega),List.take_of_length_le (by simp)] at h
  exact h)
 have BT:Hid (Cells w3 (some ⟨b,AB+k,none⟩) (vE [x])):=yG (by
  have h:=zDj AV.out.src Ae k 1;rw[zHF (by omega),A1.out] at h
  exact h)
 have BP:∀W,(Instr.slice 22 (.slice (some ⟨b,AB,none⟩) l.length c) (some (.int .i64 (k:Int))) (some (.int .i64 ((k:Int)+1))) none).run Tryz.prog W=.ok (.slice (some ⟨b,AB+k,none⟩) 1 (c-k)) W:=fun W=>by
  have h:=zPf W _ _ Tryz.underlying22 zCF (some ⟨b,AB,none⟩) l.length c k (k+1) (by omega) (by omega);rw[zHF (by omega),show k+1-k=1 from by omega] at h;exact h
 have Av:∀W,(Instr.slice 22 (.slice (some ⟨b,AB,none⟩) l.length c) (some (.int .i64 (k:Int))) none none).run Tryz.prog W=.ok (.slice (some ⟨b,AB+k,none⟩) (l.length-k) (c-k)) W:=fun W=>by
  have h:=zB2 W _ _ Tryz.underlying22 zCF (some ⟨b,AB,none⟩) l.length c k Bd;rw[zHF (by omega)] at h;exact h
 have Bc:=yG BP;have BG:=yG Av;clear BP Av
 go_upto_region 13 with fail
 clear t0;have b0:w3.cell? ⟨g,0,none⟩=some (.slice (some ⟨b,AB,none⟩) l.length c):=AV.out.blk.cell 0;have b1:w3.cell? ⟨g,1,none⟩=some (.int .i64 (k:Int)):=AV.out.blk.cell 1;apply xN 16 (by kernel_rfl) (by kernel_rfl) (by kernel_rfl);dsimp only[List.take_succ_cons,List.take_zero,List.drop_succ_cons,List.drop_zero];apply sP q0 (.pointer (some ⟨g,0,none⟩));apply sP q0 (.pointer (some ⟨g,0,none⟩));apply sP q0 (.pointer (some ⟨g,0,none⟩));apply sR b0 AX q0 (.slice (some ⟨b,AB,none⟩) l.length c);apply sP q0 (.pointer (some ⟨g,0,none⟩));apply sP q0 (.pointer (some ⟨g,0,none⟩));apply sP q0 (.pointer (some ⟨g,1,none⟩));apply sR b1 AX q0 (.int .i64 (k:Int));apply sP q0 (.pointer (some ⟨g,0,none⟩));apply sP q0 (.pointer (some ⟨g,0,none⟩));apply sP q0 (.pointer (some ⟨g,1,none⟩));apply sR b1 AX q0 (.int .i64 (k:Int));apply xB (.int .i64 ((k:Int)+1)) rfl rfl rfl
 ·intro w' AA hH;clear hH;have AP:IntKind.i64.wrap ((k:Int)+1)=(k:Int)+1:=IntWalk.i64_in _ (by omega);simp[xA,go_sem,AP]
  try exact⟨by omega,Ext.refl _⟩
  try exact Ext.refl _
 apply xB (.slice (some ⟨b,AB+k,none⟩) 1 (c-k)) rfl rfl rfl
 ·intro w' AA hH;clear hH;have hs:=Bc.out w';simp[xA,go_sem,hs]
  try exact Ext.refl _
 apply xB (.string (xG [x])) rfl rfl rfl
 ·intro w' AA hH;clear hH;have Bm:=zBr (P:=Tryz.prog) (n:=1) (c:=c-k) Tryz.underlying22 Tryz.underlying5 Tryz.underlying9 rfl (BT.out.ext AA);simp[xA,go_sem,Bm]
  try exact Ext.refl _
 apply sP q0 (.pointer (some ⟨gs+1,3,none⟩));apply xR;intro w4 Ac hH;clear hH;(try simp only[Act.put,yD,yF,yE]);refine zAy rfl 9 (.tmp 61) (.tmp 60) rfl (gs+1) 3 (by kernel_rfl) (.string (xG [x])) (by kernel_rfl) 104 _ (A4.out.ext Ac) (by show 3<5; decide) rfl rfl (fun w=>by kernel_rfl) ?_;intro w5 Ap BU;have AZ:Blk w5 (gs+1) 104 #[.int .u8 3,.int .i64 (k:Int),.int .i64 0,.string (xG [x]),.int .i64 0]:=BU;have Ak:=yG AZ;have At:=yG (Ap.blk (BN.out.ext Ac) (by omega));have Af:=yG ((BL.out.trans (Mod.ZV Ac g)).jQ Ap (by rw[Ab.out]; omega));have AK:=yG ((AV.out.ext Ac).jQ Ap AR (YZ AI));have BW:=yG (Ap.cells (BY.out.ext Ac) (YZ AI));have Bh:gs+1<w5.heap.size:=AZ.lt;have Ai:g<w5.heap.size:=AK.out.blk.lt
 have BA:∀b' Am,(some ⟨b,AB+k,none⟩:Option Addr)=some ⟨b',Am,none⟩→b'<w5.heap.size:=fun b' Am e=>by
  injection e with e;injection e with e;subst e;omega
 clear Ac BU AZ Ap A4 BN BL AV b0 b1 BY BT;have b0:w5.cell? ⟨g,0,none⟩=some (.slice (some ⟨b,AB,none⟩) l.length c):=AK.out.blk.cell 0;have b1:w5.cell? ⟨g,1,none⟩=some (.int .i64 (k:Int)):=AK.out.blk.cell 1
 go_upto_region 14 with fail
 apply zLm w5.heap.size [zA0 w5.heap.size] 12 (by kernel_rfl) (by kernel_rfl) (by kernel_rfl) (zA0.ext _) (zX _);dsimp only[List.take_succ_cons,List.take_zero,List.drop_succ_cons,List.drop_zero];apply xB (.pointer (some ⟨g,0,none⟩)) rfl rfl rfl
 ·intro w' AA hH;clear hH;simp[xA,go_sem,q0];exact XT AA
 apply xB (.pointer (some ⟨g,0,none⟩)) rfl rfl rfl
 ·intro w' AA hH;clear hH;simp[xA,go_sem,q0];exact XT AA
 apply xB (.pointer (some ⟨g,0,none⟩)) rfl rfl rfl
 ·intro w' AA hH;clear hH;simp[xA,go_sem,q0];exact XT AA
 apply xB (.slice (some ⟨b,AB,none⟩) l.length c) rfl rfl rfl
 ·intro w' AA hH;clear hH;have z0:=(AA.1.cell (p:=⟨g,0,none⟩) Ai).trans b0;simp[xA,go_sem,z0,q0];exact XT AA
 apply xB (.pointer (some ⟨g,0,none⟩)) rfl rfl rfl
 ·intro w' AA hH;clear hH;simp[xA,go_sem,q0];exact XT AA
 apply xB (.pointer (some ⟨g,0,none⟩)) rfl rfl rfl
 ·intro w' AA hH;clear hH;simp[xA,go_sem,q0];exact XT AA
 apply xB (.pointer (some ⟨g,1,none⟩)) rfl rfl rfl
 ·intro w' AA hH;clear hH;simp[xA,go_sem,q0];exact XT AA
 apply xB (.int .i64 (k:Int)) rfl rfl rfl
 ·intro w' AA hH;clear hH;have z0:=(AA.1.cell (p:=⟨g,1,none⟩) Ai).trans b1;simp[xA,go_sem,z0,q0];exact XT AA
 apply xB (.slice (some ⟨b,AB+k,none⟩) (l.length-k) (c-k)) rfl rfl rfl
 ·intro w' AA hH;clear hH;have hs:=BG.out w';simp[xA,go_sem,hs];exact XT AA
 apply xZ (zA0 w5.heap.size) zA0.mono rfl rfl rfl
 ·intro w' AA hH;clear hH;simp[xA,go_sem];exact⟨⟨w'.heap.size,(0,0),rfl,zGy AA,zQ _ _⟩,zBX.ext (zA0.ext _) (zGy AA) (Ext.alloc _ _)⟩
 intro BS;apply xZ (zA0 w5.heap.size) zA0.mono rfl rfl rfl
 ·intro w' AA hH;have hy:zA0 w5.heap.size BS w':=hH (some 71,zA0 w5.heap.size BS) (List.mem_cons_self ..) ⟨71,rfl,by decide⟩;clear hH;have h1:=hy.choose_spec.choose_spec.1;have h2:=hy.choose_spec.choose_spec.2.1;have h3:=hy.choose_spec.choose_spec.2.2;generalize hy.choose_spec.choose=fr at h1 h2 h3;generalize hy.choose=g1 at h1 h2 h3;clear hy;subst h1;have Bl:=zGA (P:=Tryz.prog) w' 22 5 Tryz.underlying22 Tryz.underlying5 g1 2 2 h3;simp[xA,go_sem,Bl];exact⟨⟨g1,(zCr w' g1 2 h3).choose,rfl,h2,(zCr w' g1 2 h3).choose_spec⟩,zLy (zGy AA) h2 2⟩
 intro BO;apply xB (.bool tp) rfl rfl rfl
 ·intro w' AA hH;have hy:zA0 w5.heap.size BO w':=hH (some 72,zA0 w5.heap.size BO) (List.mem_cons_self ..) ⟨72,rfl,by decide⟩;clear hH;have h1:=hy.choose_spec.choose_spec.1;have h2:=hy.choose_spec.choose_spec.2.1;have h3:=hy.choose_spec.choose_spec.2.2;generalize hy.choose_spec.choose=fr at h1 h2 h3;generalize hy.choose=g1 at h1 h2 h3;clear hy;subst h1;simp[xA,go_sem];refine(zMk (some ⟨b,AB+k,none⟩) (some ⟨g1,0,none⟩) (l.drop k) [61,61] (l.length-k) 2 (c-k) 2 w' (by simp) rfl (by omega) (BW.out.below BA AA.1) (zSg h3) tp HP).mono ?_;rintro e w2 ⟨rfl,rfl⟩;exact⟨_,rfl,rfl,XT AA⟩
 apply xR;intro w6 Ao hH;clear hH;have Aw:Ext w5 w6:=Ao.1;clear Ao;refine wpList_nil ?_;(try simp only[Act.put,yD,yF,yE]);have AT:=yG (Ak.out.ext Aw);have A0:=yG (At.out.ext Aw);have AM:=yG (Af.out.trans (Mod.ZV Aw g));have AH:=yG (AK.out.ext Aw);have A7:gs+1<w6.heap.size:=AT.out.lt;have A2:g<w6.heap.size:=AH.out.blk.lt;clear Aw Ak At Af AK b0 b1 BW
 cases tp with
 | true=>
  have t3:=AT.out.cell 3;have f3:=AT.out.frozen 3;have AO:Hid (Blk (w6.setCell ⟨gs+1,3,none⟩ (.string (xG [61,61]))) (gs+1) 104 #[.int .u8 3,.int .i64 (k:Int),.int .i64 0,.string (xG [61,61]),.int .i64 0]):=yG (AT.out.put 3 _);have Ax:=yG (A0.out.far (p:=⟨gs+1,3,none⟩) (by simp) (.string (xG [61,61])));have Au:=yG (AM.out.far (b:=gs+1) (by rw[Ab.out]; omega) 3 (.string (xG [61,61])));have AD:=yG (AH.out.JA AR (YZ AI) 3 (.string (xG [61,61])));have AS:gs+1<(w6.setCell ⟨gs+1,3,none⟩ (.string (xG [61,61]))).heap.size:=AO.out.lt;have AU:g<(w6.setCell ⟨gs+1,3,none⟩ (.string (xG [61,61]))).heap.size:=AD.out.blk.lt
  go_upto_region 16 with fail
  clear t3 f3 AT A0 AM AH;have BK:(⟨#[61,61]⟩:ByteArray)=xG [61,61]:=rfl;rw[BK];clear BK;generalize w6.setCell ⟨gs+1,3,none⟩ (.string (xG [61,61]))=w7 at *;have b1:w7.cell? ⟨g,1,none⟩=some (.int .i64 (k:Int)):=AD.out.blk.cell 1;have c3:w7.cell? ⟨gs+1,3,none⟩=some (.string (xG [61,61])):=AO.out.cell 3
  have AY:(xG [61,61]).size=2:=by simp[xG,ByteArray.size]
  obtain⟨en,AL⟩:∃en,Hid (k+2=en):=⟨_,yG rfl⟩;apply xN 10 (by kernel_rfl) (by kernel_rfl) (by kernel_rfl);dsimp only[List.take_succ_cons,List.take_zero,List.drop_succ_cons,List.drop_zero];apply sQ (.pointer (some ⟨g,0,none⟩));apply sQ (.pointer (some ⟨g,0,none⟩));apply sQ (.pointer (some ⟨g,1,none⟩));apply sL b1 AU (.int .i64 (k:Int));apply sQ (.pointer (some ⟨gs+1,3,none⟩));apply sL c3 AS (.string (xG [61,61]));apply xB (.int .i64 2) rfl rfl rfl
  ·intro w' AA hH;clear hH;simp[xA,go_sem,AY]
   try exact Ext.refl _
  apply xB (.int .i64 (en:Int)) rfl rfl rfl
  ·intro w' AA hH;clear hH;have Bk:=AL.out;have AP:IntKind.i64.wrap ((k:Int)+2)=(k:Int)+2:=IntWalk.i64_in _ (by omega);simp[xA,go_sem,AP]
   try exact⟨by omega,Ext.refl _⟩
  apply sQ (.pointer (some ⟨g,0,none⟩));apply sQ (.pointer (some ⟨g,1,none⟩));apply xR;intro w8 AE hH;clear hH;(try simp only[Act.put,yD,yF,yE]);refine zAy rfl 3 (.tmp 84) (.tmp 82) rfl g 1 (by kernel_rfl) (.int .i64 (en:Int)) (by kernel_rfl) 146 _ (AD.out.ext AE).blk (by show 1<2; decide) rfl rfl (fun w=>by kernel_rfl) ?_;intro w9 AJ Ah;have AG:Blk w9 g 146 #[.slice (some ⟨b,AB,none⟩) l.length c,.int .i64 (en:Int)]:=Ah;have AC:=yG (AJ.blk (AO.out.ext AE) AR);have Al:=yG (AJ.blk (Ax.out.ext AE) Az);have As:=yG ((Au.out.trans (Mod.ZV AE g)).trans (Mod.zFR AJ));have AN:Hid (Rd w9 g (some ⟨b,AB,none⟩) l c en):=yG ⟨AG,AJ.cells (AD.out.src.ext AE) (AD.out.far (by omega)),AD.out.far,(by have h:=HP.out; rw[←AL.out]; simp only[zG,zF,List.length_drop] at h; have:=h.1; simp at this; omega),AD.out.cap,AD.out.zIv,AD.out.big⟩;clear AE Ah AG AJ AO Ax Au AD b1 c3;have BC:gs+1<w9.heap.size:=AC.out.lt;have A3:g<w9.heap.size:=AN.out.blk.lt;have a1:w9.cell? ⟨g,1,none⟩=some (.int .i64 (en:Int)):=AN.out.blk.cell 1;have t0:=AC.out.cell 0;have t1:=AC.out.cell 1;have t2:=AC.out.cell 2;have t3:=AC.out.cell 3;have t4:=AC.out.cell 4;have f2:=AC.out.frozen 2;have f3:=AC.out.frozen 3;have f4:=AC.out.frozen 4
  go_upto_region 18 with fail
  have A8:Hid (Blk ((w9).setCell ⟨gs+1,2,none⟩ (.int .i64 (en:Int))) (gs+1) 104 #[.int .u8 3,.int .i64 (k:Int),.int .i64 (en:Int),.string (xG [61,61]),.int .i64 0]):=yG (AC.out.put 2 _);have A5:Hid (Blk ((w9).setCell ⟨gs+1,2,none⟩ (.int .i64 (en:Int))) gs 104 #[.int .u8 0,.int .i64 0,.int .i64 0,.string ⟨#[]⟩,.int .i64 0]):=yG (Al.out.far (by simp) _);have A6:Hid (Mod g w ((w9).setCell ⟨gs+1,2,none⟩ (.int .i64 (en:Int)))):=yG (As.out.far (by rw[Ab.out]; omega) 2 _);have BH:Hid (Rd ((w9).setCell ⟨gs+1,2,none⟩ (.int .i64 (en:Int))) g (some ⟨b,AB,none⟩) l c en):=yG (AN.out.JA AR (YZ AI) 2 _);clear AC Al As AN;generalize (w9).setCell ⟨gs+1,2,none⟩ (.int .i64 (en:Int))=w5 at *
  go_wp2_with (first
   | refine zA6 rfl 104 (.tmp 4) rfl (gs+1) rfl 104 _ _ A8.out Tryz.underlying104 rfl (by kernel_rfl) ?_
   | (refine xQ rfl 104 (.tmp 2) (.tmp 90) rfl gs _ rfl rfl 104 _ A5.out (by kernel_rfl) rfl rfl ?_; intro w6 An AF))
  have z0:=AF.cell 0;have z1:=AF.cell 1;have z2:=AF.cell 2;have z3:=AF.cell 3;have z4:=AF.cell 4;refine bodyPost_ret (v:=.tuple #[zEa 3 k en [61,61] 0,.int .i64 0]) (by simp[results,Tryz.results68,go_sem,z0,z1,z2,z3,z4,zEa,zDe]) rfl ?_;have BB:=A6.out.jQ An (by rw[Ab.out]; exact zX _);have BF:=BH.out.jQ An Az (YZ (by omega));have Ad:=HP.out;simp only[zG,zF,zO] at Ad;have AW:(l.drop k).take 2=[61,61]:=Ad.2;refine⟨BB,.inl ⟨3,2,0,?_,zHv AL.out.symm AW.symm,by rw[AL.out]; exact BF⟩⟩;rw[A1.out] at AW;rw[AQ.out,zRI BM.out Bb.out BD.out]
  cases hd:l.drop (k+1) with
  | nil=>rw[hd] at AW; cases AW
  | cons y r'=>
   rw[hd] at AW;simp only[List.take_succ_cons,List.take_zero,List.cons.injEq] at AW;obtain⟨rfl,rfl,_⟩:=AW
   rfl
 | false=>
  have AO:=AT;have Ax:=A0;have Au:=AM;have AD:=AH
  go_upto_region 16 with fail
  clear AT A0 AM AH;have AS:=A7;have AU:=A2;generalize w6=w7 at *;have b1:w7.cell? ⟨g,1,none⟩=some (.int .i64 (k:Int)):=AD.out.blk.cell 1;have c3:w7.cell? ⟨gs+1,3,none⟩=some (.string (xG [x])):=AO.out.cell 3
  have AY:(xG [x]).size=1:=by simp[xG,ByteArray.size]
  obtain⟨en,AL⟩:∃en,Hid (k+1=en):=⟨_,yG rfl⟩;apply xN 10 (by kernel_rfl) (by kernel_rfl) (by kernel_rfl);dsimp only[List.take_succ_cons,List.take_zero,List.drop_succ_cons,List.drop_zero];apply sQ (.pointer (some ⟨g,0,none⟩));apply sQ (.pointer (some ⟨g,0,none⟩));apply sQ (.pointer (some ⟨g,1,none⟩));apply sL b1 AU (.int .i64 (k:Int));apply sQ (.pointer (some ⟨gs+1,3,none⟩));apply sL c3 AS (.string (xG [x]));apply xB (.int .i64 1) rfl rfl rfl
  ·intro w' AA hH;clear hH;simp[xA,go_sem,AY]
   try exact Ext.refl _
  apply xB (.int .i64 (en:Int)) rfl rfl rfl
  ·intro w' AA hH;clear hH;have Bk:=AL.out;have AP:IntKind.i64.wrap ((k:Int)+1)=(k:Int)+1:=IntWalk.i64_in _ (by omega);simp[xA,go_sem,AP]
   try exact⟨by omega,Ext.refl _⟩
  apply sQ (.pointer (some ⟨g,0,none⟩));apply sQ (.pointer (some ⟨g,1,none⟩));apply xR;intro w8 AE hH;clear hH;(try simp only[Act.put,yD,yF,yE]);refine zAy rfl 3 (.tmp 84) (.tmp 82) rfl g 1 (by kernel_rfl) (.int .i64 (en:Int)) (by kernel_rfl) 146 _ (AD.out.ext AE).blk (by show 1<2; decide) rfl rfl (fun w=>by kernel_rfl) ?_;intro w9 AJ Ah;have AG:Blk w9 g 146 #[.slice (some ⟨b,AB,none⟩) l.length c,.int .i64 (en:Int)]:=Ah;have AC:=yG (AJ.blk (AO.out.ext AE) AR);have Al:=yG (AJ.blk (Ax.out.ext AE) Az);have As:=yG ((Au.out.trans (Mod.ZV AE g)).trans (Mod.zFR AJ));have AN:Hid (Rd w9 g (some ⟨b,AB,none⟩) l c en):=yG ⟨AG,AJ.cells (AD.out.src.ext AE) (AD.out.far (by omega)),AD.out.far,(by rw[←AL.out]; omega),AD.out.cap,AD.out.zIv,AD.out.big⟩;clear AE Ah AG AJ AO Ax Au AD b1 c3;have BC:gs+1<w9.heap.size:=AC.out.lt;have A3:g<w9.heap.size:=AN.out.blk.lt;have a1:w9.cell? ⟨g,1,none⟩=some (.int .i64 (en:Int)):=AN.out.blk.cell 1;have t0:=AC.out.cell 0;have t1:=AC.out.cell 1;have t2:=AC.out.cell 2;have t3:=AC.out.cell 3;have t4:=AC.out.cell 4;have f2:=AC.out.frozen 2;have f3:=AC.out.frozen 3;have f4:=AC.out.frozen 4
  go_upto_region 18 with fail
  have A8:Hid (Blk ((w9).setCell ⟨gs+1,2,none⟩ (.int .i64 (en:Int))) (gs+1) 104 #[.int .u8 3,.int .i64 (k:Int),.int .i64 (en:Int),.string (xG [x]),.int .i64 0]):=yG (AC.out.put 2 _);have A5:Hid (Blk ((w9).setCell ⟨gs+1,2,none⟩ (.int .i64 (en:Int))) gs 104 #[.int .u8 0,.int .i64 0,.int .i64 0,.string ⟨#[]⟩,.int .i64 0]):=yG (Al.out.far (by simp) _);have A6:Hid (Mod g w ((w9).setCell ⟨gs+1,2,none⟩ (.int .i64 (en:Int)))):=yG (As.out.far (by rw[Ab.out]; omega) 2 _);have BH:Hid (Rd ((w9).setCell ⟨gs+1,2,none⟩ (.int .i64 (en:Int))) g (some ⟨b,AB,none⟩) l c en):=yG (AN.out.JA AR (YZ AI) 2 _);clear AC Al As AN;generalize (w9).setCell ⟨gs+1,2,none⟩ (.int .i64 (en:Int))=w5 at *
  go_wp2_with (first
   | refine zA6 rfl 104 (.tmp 4) rfl (gs+1) rfl 104 _ _ A8.out Tryz.underlying104 rfl (by kernel_rfl) ?_
   | (refine xQ rfl 104 (.tmp 2) (.tmp 90) rfl gs _ rfl rfl 104 _ A5.out (by kernel_rfl) rfl rfl ?_; intro w6 An AF))
  have z0:=AF.cell 0;have z1:=AF.cell 1;have z2:=AF.cell 2;have z3:=AF.cell 3;have z4:=AF.cell 4;refine bodyPost_ret (v:=.tuple #[zEa 3 k en [x] 0,.int .i64 0]) (by simp[results,Tryz.results68,go_sem,z0,z1,z2,z3,z4,zEa,zDe]) rfl ?_;have BB:=A6.out.jQ An (by rw[Ab.out]; exact zX _);have BF:=BH.out.jQ An Az (YZ (by omega));have Ad:=HP.out;refine⟨BB,.inl ⟨3,1,0,?_,zHv AL.out.symm (by rw[A1.out]; rfl),by rw[AL.out]; exact BF⟩⟩;rw[AQ.out,zRI BM.out Bb.out BD.out];rw[A1.out] at Ad;refine if_neg ?_;intro hc;simp only[zG,zO] at hc;obtain⟨rfl,h2⟩:=hc
  cases hd:l.drop (k+1) with
  | nil=>rw[hd] at h2; cases h2
  | cons y r'=>
   rw[hd] at h2 Ad;injection h2 with h2;subst h2
   simp at Ad
theorem zP4 (g:Nat)(A:Option Addr)(l:Bs)(c k:Nat)(w:World)(hr:Rd w g A l c k)(hlt:k<l.length)(hb:XK l[k]=false)(hh:(l[k]==35)=false)(hkd:JB l[k]=0) :
  Calls Tryz.prog 68 #[.pointer (some ⟨g,0,none⟩)] w (zEo g A l c k w):=by
 have Aj:=hr.big;have Av:=hr.le;have Ad:=hr.cap;have AE:=hr.blk.lt;have HR:=yG hr;have AF:Hid (step (l.drop k)=zAY l[k] (l.drop (k+1))):=yG (by rw[List.drop_eq_getElem_cons hlt]; rfl);have b1:w.cell? ⟨g,1,none⟩=some (.int .i64 (k:Int)):=hr.blk.cell 1;have Ax:=yG (List.drop_eq_getElem_cons hlt);obtain⟨b,AC,hA,Aw,Ap,AL⟩:=hr.byte (by omega);have AU:=yG (AL k hlt)
 have q0:(k:Int)<(l.length:Int):=by omega
 have HB:=yG AL
 have Ak:=yG hb;have At:=yG hh;have AT:=yG hkd;clear hr AL hb hh hkd;generalize l[k]=x at *;subst hA;have Ac:Hid (Blk ((w.alloc (.cells #[.int .u8 0,.int .i64 0,.int .i64 0,.string ⟨#[]⟩,.int .i64 0] 104)).alloc (.cells #[.int .u8 0,.int .i64 (k:Int),.int .i64 0,.string ⟨#[]⟩,.int .i64 0] 104)) (w.heap.size+1) 104 #[.int .u8 0,.int .i64 (k:Int),.int .i64 0,.string ⟨#[]⟩,.int .i64 0]):=yG (Blk.newAt (by simp));have Ab:Hid (Blk ((w.alloc (.cells #[.int .u8 0,.int .i64 0,.int .i64 0,.string ⟨#[]⟩,.int .i64 0] 104)).alloc (.cells #[.int .u8 0,.int .i64 (k:Int),.int .i64 0,.string ⟨#[]⟩,.int .i64 0] 104)) w.heap.size 104 #[.int .u8 0,.int .i64 0,.int .i64 0,.string ⟨#[]⟩,.int .i64 0]):=yG ((Blk.new _ _ _).alloc _);have AZ:Hid (Mod g w ((w.alloc (.cells #[.int .u8 0,.int .i64 0,.int .i64 0,.string ⟨#[]⟩,.int .i64 0] 104)).alloc (.cells #[.int .u8 0,.int .i64 (k:Int),.int .i64 0,.string ⟨#[]⟩,.int .i64 0] 104))):=yG (((Mod.refl g w).alloc _).alloc _);have AH:Hid (Rd ((w.alloc (.cells #[.int .u8 0,.int .i64 0,.int .i64 0,.string ⟨#[]⟩,.int .i64 0] 104)).alloc (.cells #[.int .u8 0,.int .i64 (k:Int),.int .i64 0,.string ⟨#[]⟩,.int .i64 0] 104)) g (some ⟨b,AC,none⟩) l c k):=yG ⟨(HR.out.blk.alloc _).alloc _,HR.out.src.ext ((Ext.alloc _ _).trans (Ext.alloc _ _)),HR.out.far,HR.out.le,HR.out.cap,HR.out.zIv,HR.out.big⟩
 have AY:Hid (((w.alloc (.cells #[.int .u8 0,.int .i64 0,.int .i64 0,.string ⟨#[]⟩,.int .i64 0] 104)).alloc (.cells #[.int .u8 0,.int .i64 (k:Int),.int .i64 0,.string ⟨#[]⟩,.int .i64 0] 104)).cell? ⟨b,AC+k,none⟩=some (.int .u8 (x.toNat:Int))):=yG ((((Ext.alloc _ _).trans (Ext.alloc _ _)).cell (p:=⟨b,AC+k,none⟩) Ap).trans AU.out)
 have AN:w.heap.size+1<((w.alloc (.cells #[.int .u8 0,.int .i64 0,.int .i64 0,.string ⟨#[]⟩,.int .i64 0] 104)).alloc (.cells #[.int .u8 0,.int .i64 (k:Int),.int .i64 0,.string ⟨#[]⟩,.int .i64 0] 104)).heap.size:=by simp
 go_enter Tryz.func68,Tryz.ntmps68
 go_upto_region 4 with fail
 clear b1 AU HR HB;generalize hw1:((w.alloc (.cells #[.int .u8 0,.int .i64 0,.int .i64 0,.string ⟨#[]⟩,.int .i64 0] 104)).alloc (.cells #[.int .u8 0,.int .i64 (k:Int),.int .i64 0,.string ⟨#[]⟩,.int .i64 0] 104))=w1 at *
 have AP:w.heap.size+1≠g:=by omega
 have Ar:w.heap.size≠g:=by omega
 have Al:=yG hw1;clear hw1 AE
 have AG:b<w1.heap.size:=by omega
 have AQ:Hid (w.heap.size≤w.heap.size):=yG (zX _);generalize hgs:w.heap.size=gs at *;have AK:=yG hgs;clear hgs;have b0:w1.cell? ⟨g,0,none⟩=some (.slice (some ⟨b,AC,none⟩) l.length c):=AH.out.blk.cell 0;have b1:w1.cell? ⟨g,1,none⟩=some (.int .i64 (k:Int)):=AH.out.blk.cell 1;have AE:g<w1.heap.size:=AH.out.blk.lt;have e0:=AY.out;apply xN 13 (by kernel_rfl) (by kernel_rfl) (by kernel_rfl);dsimp only[List.take_succ_cons,List.take_zero,List.drop_succ_cons,List.drop_zero];apply sP q0 (.func (.func 96) #[] #[]);apply sP q0 (.pointer (some ⟨g,0,none⟩));apply sP q0 (.pointer (some ⟨g,0,none⟩));apply sP q0 (.pointer (some ⟨g,0,none⟩));apply sR b0 AE q0 (.slice (some ⟨b,AC,none⟩) l.length c);apply sP q0 (.pointer (some ⟨g,0,none⟩));apply sP q0 (.pointer (some ⟨g,0,none⟩));apply sP q0 (.pointer (some ⟨g,1,none⟩));apply sR b1 AE q0 (.int .i64 (k:Int));apply sP q0 (.pointer (some ⟨b,AC+k,none⟩));apply sR e0 AG q0 (.int .u8 (x.toNat:Int));apply xB (.int .u8 0) rfl rfl rfl
 ·intro w' Az hH;clear hH;simp[xA,go_sem];refine(zF6 x w').mono ?_;rintro e w2 ⟨rfl,hx⟩;exact⟨_,rfl,by rw[AT.out]; rfl,hx⟩
 apply sP q0 (.pointer (some ⟨gs+1,0,none⟩));apply xR;intro w2 AI hH;clear hH;(try simp only[Act.put,yD,yF,yE]);refine zAy rfl 5 (.tmp 24) (.tmp 23) rfl (gs+1) 0 (by kernel_rfl) (.int .u8 0) (by kernel_rfl) 104 _ (Ac.out.ext AI) (Nat.zero_lt_succ _) rfl rfl zCF ?_;intro w3 AJ AS;have AB:Blk w3 (gs+1) 104 #[.int .u8 0,.int .i64 (k:Int),.int .i64 0,.string ⟨#[]⟩,.int .i64 0]:=AS;have AA:=yG AB;have Am:=yG (AJ.blk (Ab.out.ext AI) (by omega));have Af:=yG ((AZ.out.trans (Mod.ZV AI g)).jQ AJ (by rw[AK.out]; omega));have AM:=yG ((AH.out.ext AI).jQ AJ AP (YZ (by omega)));have An:gs+1<w3.heap.size:=AB.lt;have Au:g<w3.heap.size:=AM.out.blk.lt
 have AO:b≠gs+1:=by omega
 have Aq:g≠gs+1:=fun e=>AP e.symm;clear AI AS AB AJ Ac Ab AZ AH AY AN AQ b0 b1 AE e0 AG;have t0:w3.cell? ⟨gs+1,0,none⟩=some (.int .u8 0):=AA.out.cell 0;have Ae:gs+1<w3.heap.size:=AA.out.lt;have a1:w3.cell? ⟨g,1,none⟩=some (.int .i64 (k:Int)):=AM.out.blk.cell 1;clear t0;have t0:=AA.out.cell 0;have t1:=AA.out.cell 1;have t2:=AA.out.cell 2;have t3:=AA.out.cell 3;have t4:=AA.out.cell 4;have f2:=AA.out.frozen 2;have f3:=AA.out.frozen 3;have f4:=AA.out.frozen 4;have AX:=AA;have AV:=Am;have AR:=Af;have AW:=AM
 go_upto_region 18 with fail
 have Ao:Hid (Blk ((w3).setCell ⟨gs+1,2,none⟩ (.int .i64 (k:Int))) (gs+1) 104 #[.int .u8 0,.int .i64 (k:Int),.int .i64 (k:Int),.string ⟨#[]⟩,.int .i64 0]):=yG (AX.out.put 2 _);have Ah:Hid (Blk ((w3).setCell ⟨gs+1,2,none⟩ (.int .i64 (k:Int))) gs 104 #[.int .u8 0,.int .i64 0,.int .i64 0,.string ⟨#[]⟩,.int .i64 0]):=yG (AV.out.far (by simp) _);have Ai:Hid (Mod g w ((w3).setCell ⟨gs+1,2,none⟩ (.int .i64 (k:Int)))):=yG (AR.out.far (by rw[AK.out]; omega) 2 _);have As:Hid (Rd ((w3).setCell ⟨gs+1,2,none⟩ (.int .i64 (k:Int))) g (some ⟨b,AC,none⟩) l c k):=yG (AW.out.JA AP (YZ AO) 2 _);clear AX AV AR AW;generalize (w3).setCell ⟨gs+1,2,none⟩ (.int .i64 (k:Int))=w5 at *
 go_wp2_with (first
  | refine zA6 rfl 104 (.tmp 4) rfl (gs+1) rfl 104 _ _ Ao.out Tryz.underlying104 rfl (by kernel_rfl) ?_
  | (refine xQ rfl 104 (.tmp 2) (.tmp 90) rfl gs _ rfl rfl 104 _ Ah.out (by kernel_rfl) rfl rfl ?_; intro w6 Aa AD))
 have z0:=AD.cell 0;have z1:=AD.cell 1;have z2:=AD.cell 2;have z3:=AD.cell 3;have z4:=AD.cell 4;refine bodyPost_ret (v:=.tuple #[zEa 0 k k [] 0,.int .i64 30]) (by simp[results,Tryz.results68,go_sem,z0,z1,z2,z3,z4,zEa,zDe]) rfl ?_;have Ag:=Ai.out.jQ Aa (by rw[AK.out]; exact zX _);have Ay:=As.out.jQ Aa Ar (YZ (by omega));refine⟨Ag,.inr ⟨30,0,k,[],0,?_,by decide,rfl⟩⟩;rw[AF.out,zUu Ak.out At.out AT.out]
theorem zRy (g:Nat)(A:Option Addr)(l:Bs)(c k:Nat)(w:World)(hr:Rd w g A l c k)(hlt:k<l.length)(hb:XK l[k]=false)(hh:(l[k]==35)=false) :
  Calls Tryz.prog 68 #[.pointer (some ⟨g,0,none⟩)] w (zEo g A l c k w):=by
 have h:JB l[k]=1∨JB l[k]=2∨JB l[k]=3∨JB l[k]=0:=by
  unfold JB
  split
  ·exact .inl rfl
  ·split
   ·exact .inr (.inl rfl)
   ·split
    ·exact .inr (.inr (.inl rfl))
    ·exact .inr (.inr (.inr rfl))
 rcases h with h | h | h | h
 ·exact zM9 g A l c k w hr hlt hb hh h
 ·exact zOa g A l c k w hr hlt hb hh h
 ·exact zPN g A l c k w hr hlt hb hh h
 ·exact zP4 g A l c k w hr hlt hb hh h
end Go.Proofs.YtbadjmmjbpeocaaGreat
