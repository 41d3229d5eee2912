/- The small predicates of trees and names, walked. (and what follows of it). The conditions stand at each lemma. -/
import Derived.Test.YtioffpjajhalaaaGreatDoorLaa
import Derived.Test.YtioffpjajhalaaaGreatDoorLag
import Derived.Deep.QuietTactic
import Derived.BigQuiet
import Derived.Deep.Cut
import Derived.Test.YtioffpjajhalaaaGreatDoorLac
set_option linter.unusedVariables false
set_option linter.unusedSimpArgs false
set_option maxRecDepth 100000
set_option maxHeartbeats 16000000
namespace Go.Proofs.YtioffpjajhalaaaGreatDoor.TT
open Go Go.RowKit
theorem xE {a b:Bool}(h:a=b):Ending.returned (.bool a)=.returned (.bool b):=by rw[h]
theorem zAS (k:Int)(w:World):Calls Tryz.prog 55 #[.int .u8 k] w fun e w'=>e=.returned (.bool (XH k))∧w=w':=by
 by_cases h:21≤k
 ·have H:Hid (XH k=decide (k≤26)):=yD (by unfold XH; rw[yP h,Bool.true_and]);have h1:decide (21≤k)=true:=yP h
  go_enter Tryz.func55,Tryz.ntmps55
  go_wp2
  go_ret;exact⟨xE H.out.symm,rfl⟩
 ·have H:Hid (XH k=false):=yD (by unfold XH; rw[yO h,Bool.false_and]);have h1:decide (21≤k)=false:=yO h
  go_enter Tryz.func55,Tryz.ntmps55
  go_wp2
  go_ret;exact⟨xE H.out.symm,rfl⟩
theorem zB9 (k:Int)(w:World):Calls Tryz.prog 169 #[.int .u8 k] w fun e w'=>e=.returned (.bool (XH k))∧w=w':=by
 by_cases h:21≤k
 ·have H:Hid (XH k=decide (k≤26)):=yD (by unfold XH; rw[yP h,Bool.true_and]);have h1:decide (21≤k)=true:=yP h
  go_enter Tryz.func169,Tryz.ntmps169
  go_wp2
  go_ret;exact⟨xE H.out.symm,rfl⟩
 ·have H:Hid (XH k=false):=yD (by unfold XH; rw[yO h,Bool.false_and]);have h1:decide (21≤k)=false:=yO h
  go_enter Tryz.func169,Tryz.ntmps169
  go_wp2
  go_ret;exact⟨xE H.out.symm,rfl⟩
theorem zAU (k:Int)(w:World):Calls Tryz.prog 142 #[.int .u8 k] w fun e w'=>e=.returned (.bool (JP k))∧w=w':=by
 by_cases h:7≤k
 ·have H:Hid (JP k=decide (k≤19)):=yD (by unfold JP; rw[yP h,Bool.true_and]);have h1:decide (7≤k)=true:=yP h
  go_enter Tryz.func142,Tryz.ntmps142
  go_wp2
  go_ret;exact⟨xE H.out.symm,rfl⟩
 ·have H:Hid (JP k=false):=yD (by unfold JP; rw[yO h,Bool.false_and]);have h1:decide (7≤k)=false:=yO h
  go_enter Tryz.func142,Tryz.ntmps142
  go_wp2
  go_ret;exact⟨xE H.out.symm,rfl⟩
theorem zD4 (k:Int)(w:World):Calls Tryz.prog 170 #[.int .u8 k] w fun e w'=>e=.returned (.bool (JP k))∧w=w':=by
 by_cases h:7≤k
 ·have H:Hid (JP k=decide (k≤19)):=yD (by unfold JP; rw[yP h,Bool.true_and]);have h1:decide (7≤k)=true:=yP h
  go_enter Tryz.func170,Tryz.ntmps170
  go_wp2
  go_ret;exact⟨xE H.out.symm,rfl⟩
 ·have H:Hid (JP k=false):=yD (by unfold JP; rw[yO h,Bool.false_and]);have h1:decide (7≤k)=false:=yO h
  go_enter Tryz.func170,Tryz.ntmps170
  go_wp2
  go_ret;exact⟨xE H.out.symm,rfl⟩
theorem zBD (k:Int)(w:World):Calls Tryz.prog 117 #[.int .u8 k] w fun e w'=>e=.returned (.bool (vI k))∧w=w':=by
 by_cases h:97≤k
 ·have H:Hid (vI k=decide (k≤122)):=yD (by unfold vI; rw[yP h,Bool.true_and]);have h1:decide (97≤k)=true:=yP h
  go_enter Tryz.func117,Tryz.ntmps117
  go_wp2
  go_ret;exact⟨xE H.out.symm,rfl⟩
 ·have H:Hid (vI k=false):=yD (by unfold vI; rw[yO h,Bool.false_and]);have h1:decide (97≤k)=false:=yO h
  go_enter Tryz.func117,Tryz.ntmps117
  go_wp2
  go_ret;exact⟨xE H.out.symm,rfl⟩
theorem zEJ (k:Int)(w:World):Calls Tryz.prog 118 #[.int .u8 k] w fun e w'=>e=.returned (.bool (vP k))∧w=w':=by
 by_cases h:48≤k
 ·have H:Hid (vP k=decide (k≤57)):=yD (by unfold vP; rw[yP h,Bool.true_and]);have h1:decide (48≤k)=true:=yP h
  go_enter Tryz.func118,Tryz.ntmps118
  go_wp2
  go_ret;exact⟨xE H.out.symm,rfl⟩
 ·have H:Hid (vP k=false):=yD (by unfold vP; rw[yO h,Bool.false_and]);have h1:decide (48≤k)=false:=yO h
  go_enter Tryz.func118,Tryz.ntmps118
  go_wp2
  go_ret;exact⟨xE H.out.symm,rfl⟩
theorem YC (k:Int)(w:World):Calls Tryz.prog 140 #[.int .u8 k] w fun e w'=>e=.returned (.bool (VJ k))∧w=w':=by
 by_cases h:k=2
 ·subst h
  go_enter Tryz.func140,Tryz.ntmps140
  go_wp2
  go_ret;exact⟨rfl,rfl⟩
 ·have h1:(k==2)=false:=beq_eq_false_iff_ne.2 h;have H:Hid (VJ k=(k==3)):=yD (by unfold VJ; rw[h1,Bool.false_or])
  go_enter Tryz.func140,Tryz.ntmps140
  go_wp2
  go_ret;exact⟨xE H.out.symm,rfl⟩
theorem zAc (k j:Int)(g:Nat)(w:World)(hg:Blk w g 5 #[.int .u8 j]):Calls Tryz.prog 168 #[.int .u8 k,.pointer (some ⟨g,0,none⟩)] w fun e w'=>e=.returned (.bool (k==j))∧w=w':=by
 have h0:=hg.cell 0;have hf:=hg.frozen 0;clear hg
 go_enter Tryz.func168,Tryz.ntmps168
 go_wp2
 go_ret;exact⟨rfl,rfl⟩
theorem zGS (k:Int)(w:World):Calls Tryz.prog 141 #[.int .u8 k] w fun e w'=>e=.returned (.func (.func 168) #[] #[.pointer (some ⟨w.heap.size,0,none⟩)])∧w'=w.alloc (.cells #[.int .u8 k] 5):=by
 go_enter Tryz.func141,Tryz.ntmps141
 go_wp2
 go_ret;exact⟨rfl,rfl⟩
def zAC (w:World):jG→Value→Prop
 | .JL k,v=>∃g,v=.func (.func 168) #[] #[.pointer (some ⟨g,0,none⟩)]∧Blk w g 5 #[.int .u8 k]
 | .expr,v=>v=.func (.func 55) #[] #[]
 | .stmt,v=>v=.func (.func 142) #[] #[]
 | .part,v=>v=.func (.func 140) #[] #[]
theorem zAC.ext {w w':World}{p:jG}{v:Value}(h:zAC w p v)(hx:Ext w w'):zAC w' p v:=by
 cases p with
 | JL k=>obtain⟨g,h1,h2⟩:=h; exact⟨g,h1,h2.ext hx⟩
 | expr=>exact h
 | stmt=>exact h
 | part=>exact h
theorem zAC.form {w:World}{p:jG}{v:Value}(h:zAC w p v):∃f lb,v=.func (.func f) #[] lb∧v.oneCell'=true:=by
 cases p with
 | JL k=>obtain⟨g,h1,h2⟩:=h; subst h1; exact⟨_,_,rfl,rfl⟩
 | expr=>subst h; exact⟨_,_,rfl,rfl⟩
 | stmt=>subst h; exact⟨_,_,rfl,rfl⟩
 | part=>subst h; exact⟨_,_,rfl,rfl⟩
def Kept (w w':World):Prop:=∀g t cs,Blk w g t cs→Blk w' g t cs
theorem Kept.jY {w w':World}(h:Ext w w'):Kept w w':=fun _ _ _ hb=>hb.ext h
theorem Kept.zEa {w w':World}{r clock:Nat}{es:Array MapEntry}(hm:ZG w r es clock)(h:Touch r w w'):Kept w w':=fun g t cs hb=>h.blk hb (by
 rintro rfl;unfold Blk at hb;unfold ZG at hm;rw[hb] at hm
 cases hm)
def zET {α β:Type}(R:α→β→Prop):List α→List β→Prop
 | [],[]=>True
 | a::l,b::m=>R a b∧zET R l m
 | _,_=>False
theorem zET.mono {α β:Type}{R S:α→β→Prop}(h:∀a b,R a b→S a b):∀ {l:List α} {m:List β},zET R l m→zET S l m
 | [],[],_=>trivial
 | a::l,b::m,⟨h1,h2⟩=>⟨h a b h1,zET.mono h h2⟩
 | [],_::_,h=>h.elim
 | _::_,[],h=>h.elim
theorem zET.len {α β:Type}{R:α→β→Prop}:∀ {l:List α} {m:List β},zET R l m→l.length=m.length
 | [],[],_=>rfl
 | a::l,b::m,⟨_,h2⟩=>by rw[zJ,zJ,h2.len]
 | [],_::_,h=>h.elim
 | _::_,[],h=>h.elim
theorem zET.get {α β:Type}{R:α→β→Prop}:∀ {l:List α} {m:List β} (h:zET R l m) (i:Nat) (hi:i<l.length),∃b,m[i]?=some b∧R l[i] b
 | a::l,b::m,⟨h1,_⟩,0,_=>⟨b,rfl,h1⟩
 | a::l,b::m,⟨_,h2⟩,i+1,hi=>by
  obtain⟨c,hc,hr⟩:=h2.get i (by simpa using hi);exact⟨c,by simpa using hc,hr⟩
 | [],[],_,i,hi=>by simp at hi
 | [],_::_,h,_,_=>h.elim
 | _::_,[],h,_,_=>h.elim
theorem zAC.kept {w w':World}{p:jG}{v:Value}(h:zAC w p v)(hx:Kept w w'):zAC w' p v:=by
 cases p with
 | JL k=>obtain⟨g,h1,h2⟩:=h; exact⟨g,h1,hx _ _ _ h2⟩
 | expr=>exact h
 | stmt=>exact h
 | part=>exact h
def zDw (w:World):Option jG→Value→Prop
 | none,v=>v=.nilFunc
 | some p,v=>zAC w p v
theorem zDw.kept {w w':World}{p:Option jG}{v:Value}(h:zDw w p v)(hx:Kept w w'):zDw w' p v:=by
 cases p with
 | none=>exact h
 | some p=>exact zAC.kept h hx
def zBH (w:World)(ps:List jG)(v:Value):Prop:=(ps=[]∧v=.slice none 0 0)∨∃g vs,v=.slice (some ⟨g,0,none⟩) ps.length ps.length∧Blk w g 145 (Array.mk vs)∧zET (zAC w) ps vs
theorem zBH.kept {w w':World}{ps:List jG}{v:Value}(h:zBH w ps v)(hx:Kept w w'):zBH w' ps v:=by
 rcases h with h | ⟨g,vs,h1,h2,h3⟩
 ·exact .inl h
 ·exact .inr ⟨g,vs,h1,hx _ _ _ h2,h3.mono fun a b h=>zAC.kept h hx⟩
def zBW (w:World)(f:jK)(cs:List Value):Prop:=∃ks mv,cs=[ks,mv,.bool f.named,.int .i64 f.most]∧zBH w f.kids ks∧zDw w f.more mv
theorem zBW.kept {w w':World}{f:jK}{cs:List Value}(h:zBW w f cs)(hx:Kept w w'):zBW w' f cs:=by
 obtain⟨ks,mv,h1,h2,h3⟩:=h;exact⟨ks,mv,h1,h2.kept hx,h3.kept hx⟩
theorem zBW.len {w:World}{f:jK}{cs:List Value}(h:zBW w f cs):cs.length=4:=by
 obtain⟨ks,mv,h1,_⟩:=h;rw[h1]; rfl
def zAF (w:World)(fs:List jK)(v:Value):Prop:=(fs=[]∧v=.slice none 0 0)∨∃g css,v=.slice (some ⟨g,0,none⟩) fs.length fs.length∧Blk w g 147 (Array.mk css.flatten)∧zET (zBW w) fs css
theorem zAF.kept {w w':World}{fs:List jK}{v:Value}(h:zAF w fs v)(hx:Kept w w'):zAF w' fs v:=by
 rcases h with h | ⟨g,vs,h1,h2,h3⟩
 ·exact .inl h
 ·exact .inr ⟨g,vs,h1,hx _ _ _ h2,h3.mono fun a b h=>zBW.kept h hx⟩
def zCM:List (Int × Value)→Nat→List MapEntry
 | [],_=>[]
 | x::l,c=>{ key:=.int .u8 x.1,val:=x.2,born:=c } :: zCM l (c+1)
theorem zMA (l:List (Int × Value))(x:Int × Value):∀c,zCM (l++[x]) c=zCM l c++[{ key:=.int .u8 x.1,val:=x.2,born:=c+l.length }]:=by
 induction l with
 | nil=>intro c; rfl
 | cons y l ih=>intro c; simp only[zZ,zCM,ih,zJ]; rw[show c+1+l.length=c+(l.length+1) from by omega]
theorem zIR (a b:Int):Instr.sameNow (.int .u8) (.int .u8 a) (.int .u8 b)=some (a==b):=by simp[Instr.sameNow]
theorem zIh (l:List (Int × Value))(n:Int)(h:∀x ∈ l,x.1≠n):∀c j,Instr.findNow (.int .u8) (.int .u8 n) (zCM l c) j=some none:=by
 induction l with
 | nil=>intro c j; rfl
 | cons x l ih=>
  intro c j;have hx:(n==x.1)=false:=beq_eq_false_iff_ne.2 (Ne.symm (h x (by simp)));unfold zCM Instr.findNow;simp only[zIR,hx];exact ih (fun y hy=>h y (by simp[hy])) _ _
theorem zNU (l:List (Int × Value))(n:Int):∀(i:Nat) (v:Value) (c j:Nat),l[i]?=some (n,v)→(∀j x,j<i→l[j]?=some x→x.1≠n)→Instr.findNow (.int .u8) (.int .u8 n) (zCM l c) j=some (some (j+i,v)):=by
 induction l with
 | nil=>intro i v c j h; simp at h
 | cons y l ih=>
  intro i v c j hi h;unfold zCM Instr.findNow
  match i with
  | 0=>
   simp at hi
   subst hi;simp only[zIR,beq_self_eq_true]
   rfl
  | i+1=>
   have hx:(n==y.1)=false:=beq_eq_false_iff_ne.2 (Ne.symm (h 0 y (by omega) rfl));simp only[zIR,hx];rw[ih i v (c+1) (j+1) (by simpa using hi) (fun j x hj hx=>h (j+1) x (by omega) (by simpa using hx))]
   congr 3
   omega
structure FSt (w0 w:World)(r:Nat)(ks:List Int)(l:List (Int × Value))(g4 g5 g6 g7:Nat):Prop where
 map:ZG w r (Array.mk (zCM l 0)) l.length
 keys:l.map Prod.fst=ks
 zLc:∀x ∈ l,zAF w (VU x.1) x.2
 ext:Ext w0 w
 low:w0.heap.size≤r
 k4:Blk w g4 5 #[.int .u8 20]
 k5:Blk w g5 5 #[.int .u8 5]
 k6:Blk w g6 5 #[.int .u8 6]
 k7:Blk w g7 5 #[.int .u8 21]
theorem FSt.mono {w0 w w':World}{r:Nat}{ks:List Int}{l:List (Int × Value)}{g4 g5 g6 g7:Nat}(h:FSt w0 w r ks l g4 g5 g6 g7)(hx:Ext w w'):FSt w0 w' r ks l g4 g5 g6 g7:=
 ⟨h.map.ext hx,h.keys,fun x hm=>(h.zLc x hm).kept (Kept.jY hx),h.ext.trans hx,h.low,h.k4.ext hx,h.k5.ext hx,h.k6.ext hx,h.k7.ext hx⟩
theorem zAX {w0 w:World}{ops:Array Oper}{rest:List Oper}{o:Oper}{a:Act}{Q:Exit→Act→World→Prop}{r:Nat}{ks:List Int}{l:List (Int × Value)}{g4 g5 g6 g7:Nat}(hgd:o.guard=none)(m k x:Operand)(n:Int)(v:Value)(ho:o.op=.insert 177 m k x)
  (em:a.eval m=.map (some r)) (ek:a.eval k=.int .u8 n) (ex:a.eval x=v) (hst:FSt w0 w r ks l g4 g5 g6 g7) (hv:zAF w (VU n) v) (hn:ks.contains n=false)
  (h:∀w' l',FSt w0 w' r (ks++[n]) l' g4 g5 g6 g7→wpList Tryz.prog ops Q rest (a.put o.dst undef) w'):wpList Tryz.prog ops Q (o::rest) a w:=by
 have AA:∀y ∈ l,y.1≠n:=by
  rintro y hy rfl
  have:y.1 ∈ ks:=by rw[←hst.keys]; exact List.mem_map_of_mem hy
  simp at hn
  exact hn this
 refine zAJ hgd 177 m k x ho Tryz.underlying177 Tryz.underlying5 r l.length _ n v em ek ex hst.map (zIh l n AA 0 0) fun w' ht hm=>h w' (l++[(n,v)]) ?_;have hk:=Kept.zEa hst.map ht;refine⟨?_,by rw[List.map_append,hst.keys]; rfl,fun y hy=>?_,ht.ext hst.ext hst.low,hst.low,hk _ _ _ hst.k4,hk _ _ _ hst.k5,hk _ _ _ hst.k6,hk _ _ _ hst.k7⟩
 ·have:(Array.mk (zCM l 0)).push { key:=.int .u8 n,val:=v,born:=l.length } = Array.mk (zCM (l++[(n,v)]) 0):=by
   rw[zMA,Nat.zero_add]
   simp
  rw[this] at hm;rw[yM];exact hm
 ·rcases List.mem_append.1 hy with hy | hy
  ·exact(hst.zLc y hy).kept hk
  ·rw[List.mem_singleton.1 hy];exact hv.kept hk
theorem zGA {P:Program}{w:World}{t kt et:TypeId}{kk:IntKind}{r clock:Nat}{es:Array MapEntry}{n:Int}{z:Value}(hm:P.underlying t=some (.map kt et))(hk:P.underlying kt=some (.int kk))
  (hb:ZG w r es clock) (hz:(zeroValue et).run P w=.ok z w) (hf:Instr.findNow (.int kk) (.int kk n) es.toList 0=some none):(Instr.lookup t (.map (some r)) (.int kk n) false).run P w=.ok z w:=by
 have hc:(Instr.checkKey es.isEmpty 10000 kt (.int kk n)).run P w=.ok () w:=MapKept.run_checkKey (k:=.int kk n) hk (by simp[MapKept.IsKey]) _ 9999;simp[Instr.lookup,run_underlying hm,MapKept.run_getObj_map hb,hc,MapKept.run_findKey hk hf,hz,Result.andThen]
theorem zDC {P:Program}{w:World}{ops:Array Oper}{rest:List Oper}{o:Oper}{a:Act}{Q:Exit→Act→World→Prop}(hgd:o.guard=none)(t:TypeId)(m k:Operand)(ho:o.op=.lookup t m k false){kt et:TypeId}{kk:IntKind}
  (hm:P.underlying t=some (.map kt et)) (hk:P.underlying kt=some (.int kk)) (r clock:Nat) (es:Array MapEntry) (n:Int) (z:Value) (hz:∀w,(zeroValue et).run P w=.ok z w)
  (em:a.eval m=.map (some r)) (ek:a.eval k=.int kk n) (hb:ZG w r es clock) (hf:Instr.findNow (.int kk) (.int kk n) es.toList 0=some none)
  (h:wpList P ops Q rest (a.put o.dst z) w):wpList P ops Q (o::rest) a w:=by
 refine wpList_plain hgd fun K hK=>?_;have AA:=zGA (P:=P) hm hk hb (hz w) hf;unfold Oper.wp execOp;simp only[ho,em,ek,Sem.run_bind,Sem.run_pure,AA,Result.andThen_ok];exact hK _ _ h
theorem zMb {l:List (Int × Value)}{ks:List Int}(hk:l.map Prod.fst=ks)(n:Int)(i:Nat)(hi:ks[i]?=some n)(hd:(ks.take i).contains n=false):∃v,l[i]?=some (n,v)∧∀j x,j<i→l[j]?=some x→x.1≠n:=by
 subst hk;rw[zM] at hi;obtain⟨x,hx,rfl⟩:=Option.map_eq_some_iff.1 hi;refine⟨x.2,hx,?_⟩;rintro j y hj hy he
 have:y.1 ∈ (l.map Prod.fst).take i:=by
  rw[←List.map_take];exact List.mem_map_of_mem (zY (i:=j) (by rw[List.getElem?_take,if_pos hj]; exact hy))
 rw[he] at this
 simp at hd
 exact hd (by simpa using this)
theorem zSW {w0 w:World}{ops:Array Oper}{rest:List Oper}{o:Oper}{a:Act}{Q:Exit→Act→World→Prop}{r:Nat}{l:List (Int × Value)}{g4 g5 g6 g7:Nat}(hgd:o.guard=none)(m k:Operand)(n:Int)(ho:o.op=.lookup 177 m k false)
  (em:a.eval m=.map (some r)) (ek:a.eval k=.int .u8 n) (hst:FSt w0 w r [1,2,3,4,5,6,7,8,9,10,11,12,13,14,15,16,17,18,19,20,21,22,23,24,25,26] l g4 g5 g6 g7) (hz:∀w,(zeroValue 143).run Tryz.prog w=.ok (.slice none 0 0) w)
  (h:∀v,zAF w (VU n) v→wpList Tryz.prog ops Q rest (a.put o.dst v) w):wpList Tryz.prog ops Q (o::rest) a w:=by
 by_cases hk:1≤n∧n≤26
 ·have hi:([1,2,3,4,5,6,7,8,9,10,11,12,13,14,15,16,17,18,19,20,21,22,23,24,25,26]:List Int)[(n-1).toNat]?=some n∧(([1,2,3,4,5,6,7,8,9,10,11,12,13,14,15,16,17,18,19,20,21,22,23,24,25,26]:List Int).take (n-1).toNat).contains n=false:=by
   have hc:n=1∨n=2∨n=3∨n=4∨n=5∨n=6∨n=7∨n=8∨n=9∨n=10∨n=11∨n=12∨n=13∨n=14∨n=15∨n=16∨n=17∨n=18∨n=19∨n=20∨n=21∨n=22∨n=23∨n=24∨n=25∨n=26:=by omega
   rcases hc with rfl | rfl | rfl | rfl | rfl | rfl | rfl | rfl | rfl | rfl | rfl | rfl | rfl | rfl | rfl | rfl | rfl | rfl | rfl | rfl | rfl | rfl | rfl | rfl | rfl | rfl <;> exact⟨rfl,rfl⟩
  obtain⟨v,hv,hd⟩:=zMb hst.keys n _ hi.1 hi.2;exact zDZ hgd 177 m k ho Tryz.underlying177 Tryz.underlying5 r l.length _ _ n v em ek hst.map (zNU l n _ v 0 0 hv hd) (h v (hst.zLc _ (zY hv)))
 ·have hn:∀y ∈ l,y.1≠n:=by
   rintro y hy rfl
   have:y.1 ∈ ([1,2,3,4,5,6,7,8,9,10,11,12,13,14,15,16,17,18,19,20,21,22,23,24,25,26]:List Int):=by rw[←hst.keys]; exact List.mem_map_of_mem hy
   simp only[zR,List.not_mem_nil,or_false] at this;omega
  have h0:VU n=[]:=by
   unfold VU
   repeat (rw[if_neg (by omega)])
  exact zDC hgd 177 m k ho Tryz.underlying177 Tryz.underlying5 r l.length _ n _ hz em ek hst.map (zIh l n hn 0 0) (h _ (.inl ⟨h0,rfl⟩))
theorem Blk.newAt {W:World}{t:TypeId}{cs:Array Value}{n:Nat}(h:n=W.heap.size):Blk (W.alloc (.cells cs t)) n t cs:=by subst h; exact Blk.new W t cs
theorem vH {W:World}{f:jK}{g:Nat}{ks mv:Value}{b:Bool}{n:Int}(hn:b=f.named)(hm:n=f.most)(hb:Blk W g 147 #[ks,mv,.bool b,.int .i64 n])(hk:zBH W f.kids ks)(hmv:zDw W f.more mv):zAF W [f] (.slice (some ⟨g,0,none⟩) 1 1):=by
 subst hn hm;exact .inr ⟨g,[[ks,mv,.bool f.named,.int .i64 f.most]],rfl,hb,⟨⟨ks,mv,rfl,hk,hmv⟩,trivial⟩⟩
theorem zHM {W:World}{f f':jK}{g:Nat}{ks mv ks' mv':Value}{b b':Bool}{n n':Int}(hn:b=f.named)(hm:n=f.most)(hn':b'=f'.named)(hm':n'=f'.most)(hb:Blk W g 147 #[ks,mv,.bool b,.int .i64 n,ks',mv',.bool b',.int .i64 n'])(hk:zBH W f.kids ks)(hmv:zDw W f.more mv)(hk':zBH W f'.kids ks')(hmv':zDw W f'.more mv'):zAF W [f,f'] (.slice (some ⟨g,0,none⟩) 2 2):=by
 subst hn hm hn' hm';exact .inr ⟨g,[[ks,mv,.bool f.named,.int .i64 f.most],[ks',mv',.bool f'.named,.int .i64 f'.most]],rfl,hb,⟨⟨ks,mv,rfl,hk,hmv⟩,⟨ks',mv',rfl,hk',hmv'⟩,trivial⟩⟩
theorem JR {W:World}:zBH W [] (.slice none 0 0):=.inl ⟨rfl,rfl⟩
theorem zBj {W:World}{p1:jG}{v1:Value}{g:Nat}(hb:Blk W g 145 #[v1])(h1:zAC W p1 v1):zBH W [p1] (.slice (some ⟨g,0,none⟩) 1 1):=.inr ⟨g,[v1],rfl,hb,h1,trivial⟩
theorem zCv {W:World}{p1 p2:jG}{v1 v2:Value}{g:Nat}(hb:Blk W g 145 #[v1,v2])(h1:zAC W p1 v1)(h2:zAC W p2 v2):zBH W [p1,p2] (.slice (some ⟨g,0,none⟩) 2 2):=.inr ⟨g,[v1,v2],rfl,hb,h1,h2,trivial⟩
theorem zI8 {W:World}{p1 p2 p3:jG}{v1 v2 v3:Value}{g:Nat}(hb:Blk W g 145 #[v1,v2,v3])(h1:zAC W p1 v1)(h2:zAC W p2 v2)(h3:zAC W p3 v3):zBH W [p1,p2,p3] (.slice (some ⟨g,0,none⟩) 3 3):=.inr ⟨g,[v1,v2,v3],rfl,hb,h1,h2,h3,trivial⟩
theorem zRi {W:World}{p1 p2 p3 p4:jG}{v1 v2 v3 v4:Value}{g:Nat}(hb:Blk W g 145 #[v1,v2,v3,v4])(h1:zAC W p1 v1)(h2:zAC W p2 v2)(h3:zAC W p3 v3)(h4:zAC W p4 v4):zBH W [p1,p2,p3,p4] (.slice (some ⟨g,0,none⟩) 4 4):=.inr ⟨g,[v1,v2,v3,v4],rfl,hb,h1,h2,h3,h4,trivial⟩
end Go.Proofs.YtioffpjajhalaaaGreatDoor.TT
