/- Forms, as they lie in memory; the map that tree.forms fills. (and what follows of it). The conditions stand at each lemma. -/
import Derived.Test.YtioffpjajhalaaaGreatDoorJaa
import Derived.Test.YtioffpjajhalaaaGreatDoorJaf
import Derived.Test.YtioffpjajhalaaaGreatDoorJac
import Derived.Laws.EntriesVeiled
import Derived.WalkLawsBesides
set_option linter.unusedVariables false
set_option linter.unusedSimpArgs false
set_option maxRecDepth 100000
set_option maxHeartbeats 16000000
namespace Go.Proofs.YtioffpjajhalaaaGreatDoor.TT
open Go Go.RowKit
def Kept (w w':World):Prop:=∀g t cs,Blk w g t cs→Blk w' g t cs
theorem Kept.ZZ {w w':World}(h:Ext w w'):Kept w w':=fun _ _ _ hb=>hb.ext h
theorem Kept.zFU {w w':World}{r clock:Nat}{es:Array MapEntry}(hm:ZW w r es clock)(h:Touch r w w'):Kept w w':=fun g t cs hb=>h.blk hb (by
 rintro rfl;unfold Blk at hb;unfold ZW at hm;rw[hb] at hm
 cases hm)
def zGO {α β:Type}(R:α→β→Prop):List α→List β→Prop
 | [],[]=>True
 | a::l,b::m=>R a b∧zGO R l m
 | _,_=>False
theorem zGO.mono {α β:Type}{R S:α→β→Prop}(h:∀a b,R a b→S a b):∀ {l:List α} {m:List β},zGO R l m→zGO S l m
 | [],[],_=>trivial
 | a::l,b::m,⟨h1,h2⟩=>⟨h a b h1,zGO.mono h h2⟩
 | [],_::_,h=>h.elim
 | _::_,[],h=>h.elim
theorem zGO.len {α β:Type}{R:α→β→Prop}:∀ {l:List α} {m:List β},zGO R l m→l.length=m.length
 | [],[],_=>rfl
 | a::l,b::m,⟨_,h2⟩=>by rw[zJ,zJ,h2.len]
 | [],_::_,h=>h.elim
 | _::_,[],h=>h.elim
theorem zGO.get {α β:Type}{R:α→β→Prop}:∀ {l:List α} {m:List β} (h:zGO R l m) (i:Nat) (hi:i<l.length),∃b,m[i]?=some b∧R l[i] b
 | a::l,b::m,⟨h1,_⟩,0,_=>⟨b,rfl,h1⟩
 | a::l,b::m,⟨_,h2⟩,i+1,hi=>by
  obtain⟨c,hc,hr⟩:=h2.get i (by simpa using hi);exact⟨c,by simpa using hc,hr⟩
 | [],[],_,i,hi=>by simp at hi
 | [],_::_,h,_,_=>h.elim
 | _::_,[],h,_,_=>h.elim
theorem zBv.kept {w w':World}{p:jQ}{v:Value}(h:zBv w p v)(hx:Kept w w'):zBv w' p v:=by
 cases p with
 | VR k=>obtain⟨g,h1,h2⟩:=h; exact⟨g,h1,hx _ _ _ h2⟩
 | expr=>exact h
 | stmt=>exact h
 | part=>exact h
def zFa (w:World):Option jQ→Value→Prop
 | none,v=>v=.nilFunc
 | some p,v=>zBv w p v
theorem zFa.kept {w w':World}{p:Option jQ}{v:Value}(h:zFa w p v)(hx:Kept w w'):zFa w' p v:=by
 cases p with
 | none=>exact h
 | some p=>exact zBv.kept h hx
def zCK (w:World)(ps:List jQ)(v:Value):Prop:=(ps=[]∧v=.slice none 0 0)∨∃g vs,v=.slice (some ⟨g,0,none⟩) ps.length ps.length∧Blk w g 145 (Array.mk vs)∧zGO (zBv w) ps vs
theorem zCK.kept {w w':World}{ps:List jQ}{v:Value}(h:zCK w ps v)(hx:Kept w w'):zCK w' ps v:=by
 rcases h with h | ⟨g,vs,h1,h2,h3⟩
 ·exact .inl h
 ·exact .inr ⟨g,vs,h1,hx _ _ _ h2,h3.mono fun a b h=>zBv.kept h hx⟩
def zC6 (w:World)(f:jV)(cs:List Value):Prop:=∃ks mv,cs=[ks,mv,.bool f.named,.int .i64 f.most]∧zCK w f.kids ks∧zFa w f.more mv
theorem zC6.kept {w w':World}{f:jV}{cs:List Value}(h:zC6 w f cs)(hx:Kept w w'):zC6 w' f cs:=by
 obtain⟨ks,mv,h1,h2,h3⟩:=h;exact⟨ks,mv,h1,h2.kept hx,h3.kept hx⟩
theorem zC6.len {w:World}{f:jV}{cs:List Value}(h:zC6 w f cs):cs.length=4:=by
 obtain⟨ks,mv,h1,_⟩:=h;rw[h1]; rfl
def zBy (w:World)(fs:List jV)(v:Value):Prop:=(fs=[]∧v=.slice none 0 0)∨∃g css,v=.slice (some ⟨g,0,none⟩) fs.length fs.length∧Blk w g 147 (Array.mk css.flatten)∧zGO (zC6 w) fs css
theorem zBy.kept {w w':World}{fs:List jV}{v:Value}(h:zBy w fs v)(hx:Kept w w'):zBy w' fs v:=by
 rcases h with h | ⟨g,vs,h1,h2,h3⟩
 ·exact .inl h
 ·exact .inr ⟨g,vs,h1,hx _ _ _ h2,h3.mono fun a b h=>zC6.kept h hx⟩
def zEc:List (Int × Value)→Nat→List MapEntry
 | [],_=>[]
 | x::l,c=>{ key:=.int .u8 x.1,val:=x.2,born:=c } :: zEc l (c+1)
theorem zPj (l:List (Int × Value))(x:Int × Value):∀c,zEc (l++[x]) c=zEc l c++[{ key:=.int .u8 x.1,val:=x.2,born:=c+l.length }]:=by
 induction l with
 | nil=>intro c; rfl
 | cons y l ih=>intro c; simp only[zZ,zEc,ih,zJ]; rw[show c+1+l.length=c+(l.length+1) from by omega]
theorem zLA (a b:Int):Instr.sameNow (.int .u8) (.int .u8 a) (.int .u8 b)=some (a==b):=by simp[Instr.sameNow]
theorem zKI (l:List (Int × Value))(n:Int)(h:∀x ∈ l,x.1≠n):∀c j,Instr.findNow (.int .u8) (.int .u8 n) (zEc l c) j=some none:=by
 induction l with
 | nil=>intro c j; rfl
 | cons x l ih=>
  intro c j;have hx:(n==x.1)=false:=beq_eq_false_iff_ne.2 (Ne.symm (h x (by simp)));unfold zEc Instr.findNow;simp only[zLA,hx];exact ih (fun y hy=>h y (by simp[hy])) _ _
theorem zQG (l:List (Int × Value))(n:Int):∀(i:Nat) (v:Value) (c j:Nat),l[i]?=some (n,v)→(∀j x,j<i→l[j]?=some x→x.1≠n)→Instr.findNow (.int .u8) (.int .u8 n) (zEc l c) j=some (some (j+i,v)):=by
 induction l with
 | nil=>intro i v c j h; simp at h
 | cons y l ih=>
  intro i v c j hi h;unfold zEc Instr.findNow
  match i with
  | 0=>
   simp at hi
   subst hi;simp only[zLA,beq_self_eq_true]
   rfl
  | i+1=>
   have hx:(n==y.1)=false:=beq_eq_false_iff_ne.2 (Ne.symm (h 0 y (by omega) rfl));simp only[zLA,hx];rw[ih i v (c+1) (j+1) (by simpa using hi) (fun j x hj hx=>h (j+1) x (by omega) (by simpa using hx))]
   congr 3
   omega
structure FSt (w0 w:World)(r:Nat)(ks:List Int)(l:List (Int × Value))(g4 g5 g6 g7:Nat):Prop where
 map:ZW w r (Array.mk (zEc l 0)) l.length
 keys:l.map Prod.fst=ks
 zN8:∀x ∈ l,zBy w (zAH x.1) x.2
 ext:Ext w0 w
 low:w0.heap.size≤r
 k4:Blk w g4 5 #[.int .u8 20]
 k5:Blk w g5 5 #[.int .u8 5]
 k6:Blk w g6 5 #[.int .u8 6]
 k7:Blk w g7 5 #[.int .u8 21]
theorem FSt.mono {w0 w w':World}{r:Nat}{ks:List Int}{l:List (Int × Value)}{g4 g5 g6 g7:Nat}(h:FSt w0 w r ks l g4 g5 g6 g7)(hx:Ext w w'):FSt w0 w' r ks l g4 g5 g6 g7:=
 ⟨h.map.ext hx,h.keys,fun x hm=>(h.zN8 x hm).kept (Kept.ZZ hx),h.ext.trans hx,h.low,h.k4.ext hx,h.k5.ext hx,h.k6.ext hx,h.k7.ext hx⟩
theorem zBS {w0 w:World}{ops:Array Oper}{rest:List Oper}{o:Oper}{a:Act}{Q:Exit→Act→World→Prop}{r:Nat}{ks:List Int}{l:List (Int × Value)}{g4 g5 g6 g7:Nat}(hgd:o.guard=none)(m k x:Operand)(n:Int)(v:Value)(ho:o.op=.insert 177 m k x)
  (em:a.eval m=.map (some r)) (ek:a.eval k=.int .u8 n) (ex:a.eval x=v) (hst:FSt w0 w r ks l g4 g5 g6 g7) (hv:zBy w (zAH n) v) (hn:ks.contains n=false)
  (h:∀w' l',FSt w0 w' r (ks++[n]) l' g4 g5 g6 g7→wpList Tryz.prog ops Q rest (a.put o.dst undef) w'):wpList Tryz.prog ops Q (o::rest) a w:=by
 have AA:∀y ∈ l,y.1≠n:=by
  rintro y hy rfl
  have:y.1 ∈ ks:=by rw[←hst.keys]; exact List.mem_map_of_mem hy
  simp at hn
  exact hn this
 refine zBE hgd 177 m k x ho Tryz.underlying177 Tryz.underlying5 r l.length _ n v em ek ex hst.map (zKI l n AA 0 0) fun w' ht hm=>h w' (l++[(n,v)]) ?_;have hk:=Kept.zFU hst.map ht;refine⟨?_,by rw[List.map_append,hst.keys]; rfl,fun y hy=>?_,ht.ext hst.ext hst.low,hst.low,hk _ _ _ hst.k4,hk _ _ _ hst.k5,hk _ _ _ hst.k6,hk _ _ _ hst.k7⟩
 ·have:(Array.mk (zEc l 0)).push { key:=.int .u8 n,val:=v,born:=l.length } = Array.mk (zEc (l++[(n,v)]) 0):=by
   rw[zPj,Nat.zero_add]
   simp
  rw[this] at hm;rw[yM];exact hm
 ·rcases List.mem_append.1 hy with hy | hy
  ·exact(hst.zN8 y hy).kept hk
  ·rw[List.mem_singleton.1 hy];exact hv.kept hk
theorem zIC {P:Program}{w:World}{t kt et:TypeId}{kk:IntKind}{r clock:Nat}{es:Array MapEntry}{n:Int}{z:Value}(hm:P.underlying t=some (.map kt et))(hk:P.underlying kt=some (.int kk))
  (hb:ZW w r es clock) (hz:(zeroValue et).run P w=.ok z w) (hf:Instr.findNow (.int kk) (.int kk n) es.toList 0=some none):(Instr.lookup t (.map (some r)) (.int kk n) false).run P w=.ok z w:=by
 have hc:(Instr.checkKey es.isEmpty 10000 kt (.int kk n)).run P w=.ok () w:=MapKept.run_checkKey (k:=.int kk n) hk (by simp[MapKept.IsKey]) _ 9999;simp[Instr.lookup,run_underlying hm,MapKept.run_getObj_map hb,hc,MapKept.run_findKey hk hf,hz,Result.andThen]
theorem zFh {P:Program}{w:World}{ops:Array Oper}{rest:List Oper}{o:Oper}{a:Act}{Q:Exit→Act→World→Prop}(hgd:o.guard=none)(t:TypeId)(m k:Operand)(ho:o.op=.lookup t m k false){kt et:TypeId}{kk:IntKind}
  (hm:P.underlying t=some (.map kt et)) (hk:P.underlying kt=some (.int kk)) (r clock:Nat) (es:Array MapEntry) (n:Int) (z:Value) (hz:∀w,(zeroValue et).run P w=.ok z w)
  (em:a.eval m=.map (some r)) (ek:a.eval k=.int kk n) (hb:ZW w r es clock) (hf:Instr.findNow (.int kk) (.int kk n) es.toList 0=some none)
  (h:wpList P ops Q rest (a.put o.dst z) w):wpList P ops Q (o::rest) a w:=by
 refine wpList_plain hgd fun K hK=>?_;have AA:=zIC (P:=P) hm hk hb (hz w) hf;unfold Oper.wp execOp;simp only[ho,em,ek,Sem.run_bind,Sem.run_pure,AA,Result.andThen_ok];exact hK _ _ h
theorem zO2 {l:List (Int × Value)}{ks:List Int}(hk:l.map Prod.fst=ks)(n:Int)(i:Nat)(hi:ks[i]?=some n)(hd:(ks.take i).contains n=false):∃v,l[i]?=some (n,v)∧∀j x,j<i→l[j]?=some x→x.1≠n:=by
 subst hk;rw[zM] at hi;obtain⟨x,hx,rfl⟩:=Option.map_eq_some_iff.1 hi;refine⟨x.2,hx,?_⟩;rintro j y hj hy he
 have:y.1 ∈ (l.map Prod.fst).take i:=by
  rw[←List.map_take];exact List.mem_map_of_mem (zY (i:=j) (by rw[List.getElem?_take,if_pos hj]; exact hy))
 rw[he] at this
 simp at hd
 exact hd (by simpa using this)
theorem zXa {w0 w:World}{ops:Array Oper}{rest:List Oper}{o:Oper}{a:Act}{Q:Exit→Act→World→Prop}{r:Nat}{l:List (Int × Value)}{g4 g5 g6 g7:Nat}(hgd:o.guard=none)(m k:Operand)(n:Int)(ho:o.op=.lookup 177 m k false)
  (em:a.eval m=.map (some r)) (ek:a.eval k=.int .u8 n) (hst:FSt w0 w r [1,2,3,4,5,6,7,8,9,10,11,12,13,14,15,16,17,18,19,20,21,22,23,24,25,26] l g4 g5 g6 g7) (hz:∀w,(zeroValue 143).run Tryz.prog w=.ok (.slice none 0 0) w)
  (h:∀v,zBy w (zAH n) v→wpList Tryz.prog ops Q rest (a.put o.dst v) w):wpList Tryz.prog ops Q (o::rest) a w:=by
 by_cases hk:1≤n∧n≤26
 ·have hi:([1,2,3,4,5,6,7,8,9,10,11,12,13,14,15,16,17,18,19,20,21,22,23,24,25,26]:List Int)[(n-1).toNat]?=some n∧(([1,2,3,4,5,6,7,8,9,10,11,12,13,14,15,16,17,18,19,20,21,22,23,24,25,26]:List Int).take (n-1).toNat).contains n=false:=by
   have hc:n=1∨n=2∨n=3∨n=4∨n=5∨n=6∨n=7∨n=8∨n=9∨n=10∨n=11∨n=12∨n=13∨n=14∨n=15∨n=16∨n=17∨n=18∨n=19∨n=20∨n=21∨n=22∨n=23∨n=24∨n=25∨n=26:=by omega
   rcases hc with rfl | rfl | rfl | rfl | rfl | rfl | rfl | rfl | rfl | rfl | rfl | rfl | rfl | rfl | rfl | rfl | rfl | rfl | rfl | rfl | rfl | rfl | rfl | rfl | rfl | rfl <;> exact⟨rfl,rfl⟩
  obtain⟨v,hv,hd⟩:=zO2 hst.keys n _ hi.1 hi.2;exact zFD hgd 177 m k ho Tryz.underlying177 Tryz.underlying5 r l.length _ _ n v em ek hst.map (zQG l n _ v 0 0 hv hd) (h v (hst.zN8 _ (zY hv)))
 ·have hn:∀y ∈ l,y.1≠n:=by
   rintro y hy rfl
   have:y.1 ∈ ([1,2,3,4,5,6,7,8,9,10,11,12,13,14,15,16,17,18,19,20,21,22,23,24,25,26]:List Int):=by rw[←hst.keys]; exact List.mem_map_of_mem hy
   simp only[zR,List.not_mem_nil,or_false] at this;omega
  have h0:zAH n=[]:=by
   unfold zAH
   repeat (rw[if_neg (by omega)])
  exact zFh hgd 177 m k ho Tryz.underlying177 Tryz.underlying5 r l.length _ n _ hz em ek hst.map (zKI l n hn 0 0) (h _ (.inl ⟨h0,rfl⟩))
theorem Blk.newAt {W:World}{t:TypeId}{cs:Array Value}{n:Nat}(h:n=W.heap.size):Blk (W.alloc (.cells cs t)) n t cs:=by subst h; exact Blk.new W t cs
theorem vL {W:World}{f:jV}{g:Nat}{ks mv:Value}{b:Bool}{n:Int}(hn:b=f.named)(hm:n=f.most)(hb:Blk W g 147 #[ks,mv,.bool b,.int .i64 n])(hk:zCK W f.kids ks)(hmv:zFa W f.more mv):zBy W [f] (.slice (some ⟨g,0,none⟩) 1 1):=by
 subst hn hm;exact .inr ⟨g,[[ks,mv,.bool f.named,.int .i64 f.most]],rfl,hb,⟨⟨ks,mv,rfl,hk,hmv⟩,trivial⟩⟩
theorem zJ3 {W:World}{f f':jV}{g:Nat}{ks mv ks' mv':Value}{b b':Bool}{n n':Int}(hn:b=f.named)(hm:n=f.most)(hn':b'=f'.named)(hm':n'=f'.most)(hb:Blk W g 147 #[ks,mv,.bool b,.int .i64 n,ks',mv',.bool b',.int .i64 n'])(hk:zCK W f.kids ks)(hmv:zFa W f.more mv)(hk':zCK W f'.kids ks')(hmv':zFa W f'.more mv'):zBy W [f,f'] (.slice (some ⟨g,0,none⟩) 2 2):=by
 subst hn hm hn' hm';exact .inr ⟨g,[[ks,mv,.bool f.named,.int .i64 f.most],[ks',mv',.bool f'.named,.int .i64 f'.most]],rfl,hb,⟨⟨ks,mv,rfl,hk,hmv⟩,⟨ks',mv',rfl,hk',hmv'⟩,trivial⟩⟩
theorem zAb {W:World}:zCK W [] (.slice none 0 0):=.inl ⟨rfl,rfl⟩
theorem zCn {W:World}{p1:jQ}{v1:Value}{g:Nat}(hb:Blk W g 145 #[v1])(h1:zBv W p1 v1):zCK W [p1] (.slice (some ⟨g,0,none⟩) 1 1):=.inr ⟨g,[v1],rfl,hb,h1,trivial⟩
theorem zDH {W:World}{p1 p2:jQ}{v1 v2:Value}{g:Nat}(hb:Blk W g 145 #[v1,v2])(h1:zBv W p1 v1)(h2:zBv W p2 v2):zCK W [p1,p2] (.slice (some ⟨g,0,none⟩) 2 2):=.inr ⟨g,[v1,v2],rfl,hb,h1,h2,trivial⟩
theorem zLW {W:World}{p1 p2 p3:jQ}{v1 v2 v3:Value}{g:Nat}(hb:Blk W g 145 #[v1,v2,v3])(h1:zBv W p1 v1)(h2:zBv W p2 v2)(h3:zBv W p3 v3):zCK W [p1,p2,p3] (.slice (some ⟨g,0,none⟩) 3 3):=.inr ⟨g,[v1,v2,v3],rfl,hb,h1,h2,h3,trivial⟩
theorem zT0 {W:World}{p1 p2 p3 p4:jQ}{v1 v2 v3 v4:Value}{g:Nat}(hb:Blk W g 145 #[v1,v2,v3,v4])(h1:zBv W p1 v1)(h2:zBv W p2 v2)(h3:zBv W p3 v3)(h4:zBv W p4 v4):zCK W [p1,p2,p3,p4] (.slice (some ⟨g,0,none⟩) 4 4):=.inr ⟨g,[v1,v2,v3,v4],rfl,hb,h1,h2,h3,h4,trivial⟩
theorem zHy (w:World):(binOp .eql 145 .nilFunc .nilFunc).run Tryz.prog w=.ok (.bool true) w:=by kernel_rfl
theorem zMw (w:World)(f:Fn)(b lb:Array Value):(binOp .eql 145 (.func f b lb) .nilFunc).run Tryz.prog w=.ok (.bool false) w:=by kernel_rfl
def xO (l:List Int):List Value:=l.map (Value.int .u8)
theorem jU (l:List Int):(xO l).length=l.length:=by simp[xO]
theorem zAc (l:List Int)(k:Nat)(h:k<l.length):(xO l)[k]?=some (.int .u8 l[k]):=by simp[xO,h]
theorem zJV {w:World}{A:Option Addr}{l:List Int}(h:Cells w A (xO l))(k:Nat)(hk:k<l.length):∃b AA,A=some ⟨b,AA,none⟩∧b<w.heap.size∧w.cell? ⟨b,AA+k,none⟩=some (.int .u8 l[k]):=by
 obtain⟨b,AA,hA,hb,AB⟩:=h.at_ (by rw[jU]; omega);exact⟨b,AA,hA,hb,(AB k (by rw[jU]; exact hk)).trans (zAc l k hk)⟩
theorem zCK.open_ {w:World}{ps:List jQ}{v:Value}(h:zCK w ps v):∃A c,v=.slice A ps.length c∧∀i (hi:i<ps.length),∃g u,A=some ⟨g,0,none⟩∧w.cell? ⟨g,i,none⟩=some u∧zBv w ps[i] u:=by
 rcases h with ⟨h1,h2⟩ | ⟨g,vs,h1,h2,h3⟩
 ·subst h1; exact⟨none,0,h2,fun i hi=>by simp at hi⟩
 ·refine⟨_,_,h1,fun i hi=>?_⟩;obtain⟨u,hu,hk⟩:=h3.get i hi;exact⟨g,u,rfl,by rw[h2.cell]; simpa using hu,hk⟩
theorem hu' {w wa:World}{g i:Nat}{u:Value}(h:w.cell? ⟨g,i,none⟩=some u)(hx:Ext w wa):wa.cell? ⟨g,i,none⟩=some u:=(hx.cell (World.block_lt_of_cell? w _ h)).trans h
theorem zS4 {f:jV}{ls:List Int}(h1:¬ls.length<f.kids.length)(h2:¬(f.kids.length<ls.length∧f.more.isNone=true))(h:∀j,j<ls.length→ZC (f.want j) (ls.getD j 0)=true):f.fits ls=true:=by
 unfold jV.fits;rw[if_neg (fun hh=>hh.elim h1 h2),zG];intro j hj;exact h j (by simpa using hj)
theorem JG {f:jV}{ls:List Int}(j:Nat)(hj:j<ls.length)(h:ZC (f.want j) (ls.getD j 0)=false):f.fits ls=false:=by
 unfold jV.fits
 split
 ·rfl
 ·rw[Bool.eq_false_iff];intro hh;rw[zG] at hh
  have:=hh j (by simpa using hj)
  rw[h] at this
  cases this
theorem zPt {f:jV}{ls:List Int}(h:ls.length<f.kids.length):f.fits ls=false:=by unfold jV.fits; rw[if_pos (.inl h)]
theorem zQ3 {f:jV}{ls:List Int}(h:f.kids.length<ls.length)(hn:f.more=none):f.fits ls=false:=by unfold jV.fits; rw[if_pos (.inr ⟨h,by rw[hn]; rfl⟩)]
theorem zQO (f:jV)(cs:List Value)(L:Option Addr)(ls:List Int)(n lc:Nat)(w:World)(hn:n=ls.length)(hf:zC6 w f cs)(hl:Cells w L (xO ls))(hlen:ls.length≤9000) :
  Calls Tryz.prog 94 #[.agg (Array.mk cs),.slice L n lc] w fun e w'=>e=.returned (.bool (f.fits ls))∧Ext w w':=by
 subst hn;obtain⟨ks,mv,rfl,Ab,Ac⟩:=hf;obtain⟨KA,kc,rfl,AU⟩:=Ab.open_;have AQ:=yD AU;have HL:=yD hl;have AP:=yD Ac;clear AU hl Ab Ac;obtain⟨kn,AG⟩:∃kn,Hid (f.kids.length=kn):=⟨_,yD rfl⟩;rw[AG.out]
 by_cases h1:ls.length<kn
 ·have HR:Hid (f.fits ls=false):=yD (zPt (by rw[AG.out]; exact h1));have d1:decide ((ls.length:Int)<(kn:Int))=true:=yP (by omega)
  go_enter Tryz.func94,Tryz.ntmps94
  go_wp2_with fail
  go_ret;exact⟨vR HR.out.symm,(by show Below w.heap.size w _; go_grown)⟩
 ·have d1:decide ((ls.length:Int)<(kn:Int))=false:=yO (by omega)
  by_cases AB:kn<ls.length∧f.more=none
  ·have HR:Hid (f.fits ls=false):=yD (zQ3 (by rw[AG.out]; exact AB.1) AB.2);have hm:=AP.out;rw[AB.2] at hm;have Af:mv=.nilFunc:=hm;subst Af;have Ad:kn<ls.length:=AB.1;have Ag:ls.length > kn:=AB.1;have d2:decide ((kn:Int)<(ls.length:Int))=true:=yP (by omega);clear hm AB;have q1:=zHy
   go_enter Tryz.func94,Tryz.ntmps94
   go_wp2_with fail
   go_ret;exact⟨vR HR.out.symm,(by show Below w.heap.size w _; go_grown)⟩
  ·have AK:¬ls.length<f.kids.length:=by rw[AG.out]; exact h1
   have Aa:¬(f.kids.length<ls.length∧f.more.isNone=true):=by
    rintro ⟨ha,hb⟩;rw[AG.out] at ha;exact AB ⟨ha,by simpa using hb⟩
   have AR:Hid ((∀j,j<ls.length→ZC (f.want j) (ls.getD j 0)=true)→f.fits ls=true):=yD (zS4 AK Aa)
   have HB:Hid (∀i,kn≤i→i<ls.length→∃p,f.more=some p):=yD (by
    intro i h2 h3
    cases hm:f.more with
    | none=>exact absurd ⟨by omega,hm⟩ AB
    | some p=>exact⟨p,rfl⟩)
   have HW:Hid (∀i,f.want i=if i<kn then f.kids[i]? else f.more):=yD (by intro i; unfold jV.want; rw[AG.out]);have q1:=zHy;have q2:=zMw
   have hmf:(mv=.nilFunc∧(kn<ls.length→False))∨∃fm lm,mv=.func (.func fm) #[] lm:=by
    have hm:=AP.out
    cases hmm:f.more with
    | none=>rw[hmm] at hm; exact .inl ⟨hm,fun h=>AB ⟨h,hmm⟩⟩
    | some p=>rw[hmm] at hm; obtain⟨fm,lm,h3,_⟩:=zBv.form hm; exact .inr ⟨fm,lm,h3⟩
   clear AK Aa AB
   have AW:(kn<ls.length∧∃fm lm,mv=.func (.func fm) #[] lm)∨(ls.length=kn∧(mv=.nilFunc∨∃fm lm,mv=.func (.func fm) #[] lm)):=by
    rcases hmf with ⟨h2,h3⟩ | h2
    ·exact .inr ⟨by rcases Nat.lt_or_ge kn ls.length with h | h; exact(h3 h).elim; omega,.inl h2⟩
    ·rcases Nat.lt_or_ge kn ls.length with h | h
     ·exact .inl ⟨h,h2⟩
     ·exact .inr ⟨by omega,.inr h2⟩
   clear hmf h1
   rcases AW with ⟨Ad,fm,lm,rfl⟩ | ⟨Ad,rfl | ⟨fm,lm,rfl⟩⟩
   ·have AT:¬ls.length<kn:=by omega
    have d2:decide ((kn:Int)<(ls.length:Int))=true:=yP (by omega)
    go_enter Tryz.func94,Tryz.ntmps94
    go_wp2_with fail
    have AN:=Blk.new w 147 #[.slice KA kn kc,.func (.func fm) #[] lm,.bool f.named,.int .i64 f.most];have AJ:=Ext.alloc w (.cells #[.slice KA kn kc,.func (.func fm) #[] lm,.bool f.named,.int .i64 f.most] 147);generalize w.alloc (.cells #[.slice KA kn kc,.func (.func fm) #[] lm,.bool f.named,.int .i64 f.most] 147)=wa at *;generalize w.heap.size=ga at *;have x0:=AN.cell 0;have x1:=AN.cell 1;have HX:=yD AJ;have AS:Hid (zFa wa f.more (.func (.func fm) #[] lm)):=yD (AP.out.kept (Kept.ZZ AJ));have AV:=yD (HL.out.ext AJ);clear AN AJ HL AP
    go_loop [29] (fun i=>∃k:Nat,k≤ls.length∧i=.int .i64 k∧Hid (∀j,j<k→ZC (f.want j) (ls.getD j 0)=true)) (fun i=>ls.length-(intOf i).toNat)
    case atStart=>exact⟨0,zT _,rfl,yD fun j hj=>by omega⟩
    case round=>
     obtain⟨k,hk,rfl,HR⟩:=hrel
     by_cases AE:k<ls.length
     ·have d0:decide ((k:Int)<(ls.length:Int))=true:=yP (by omega);obtain⟨b,AZ,rfl,hb,Ae⟩:=zJV AV.out k AE;have HG:Hid (ls.getD k 0=ls[k]):=yD (by rw[yE,yG AE]; rfl);generalize ls[k]=c at *
      by_cases AH:k<kn
      ·have d3:decide ((k:Int)<(kn:Int))=true:=yP (by omega);obtain⟨g,u,rfl,hu,AO⟩:=AQ.out k (by rw[AG.out]; exact AH);have hu':wa.cell? ⟨g,k,none⟩=some u:=hu' hu HX.out;have AI:=yD (AO.ext HX.out);have AA:Hid (ZC (f.want k) (ls.getD k 0)=(f.kids[k]'(by rw[AG.out]; exact AH)).holds c):=yD (by rw[HW.out,if_pos AH,yG (by rw[AG.out]; exact AH),HG.out]; rfl);clear hu AO;generalize (f.kids[k]'(by rw[AG.out]; exact AH))=p at *
       cases p with
       | VR j=>
        obtain⟨gj,rfl,AL⟩:=AI.out;have AM:=yD AL;clear AL
        cases hh:(jQ.VR j).holds c with
        | true=>
         have HH:=yD hh;clear hh
         go_wp2_with (refine(zAM c j gj _ AM.out).mono ?_; rintro e w' ⟨rfl,rfl⟩; simp only[show(c==j)=true from HH.out])
         go_round
         case rel=>exact⟨k+1,by omega,by go_num,yD fun j hj=>by
          by_cases AC:j=k
          ·subst AC; rw[AA.out]; exact HH.out
          ·exact HR.out j (by omega)⟩
         case measure=>simp[intOf]; omega
        | false=>
         have HH:=yD hh;have AD:Hid (f.fits ls=false):=yD (JG k AE (by rw[AA.out]; exact hh));clear hh
         go_wp2_with (refine(zAM c j gj _ AM.out).mono ?_; rintro e w' ⟨rfl,rfl⟩; simp only[show(c==j)=false from HH.out])
         go_ret;exact⟨vR AD.out.symm,HX.out⟩
       | expr=>
        have he:=AI.out
        cases he
        cases hh:(jQ.expr).holds c with
        | true=>
         have HH:=yD hh;clear hh
         go_wp2_with (refine(zAV c _).mono ?_; rintro e w' ⟨rfl,rfl⟩; simp only[show ZQ c=true from HH.out])
         go_round
         case rel=>exact⟨k+1,by omega,by go_num,yD fun j hj=>by
          by_cases AC:j=k
          ·subst AC; rw[AA.out]; exact HH.out
          ·exact HR.out j (by omega)⟩
         case measure=>simp[intOf]; omega
        | false=>
         have HH:=yD hh;have AD:Hid (f.fits ls=false):=yD (JG k AE (by rw[AA.out]; exact hh));clear hh
         go_wp2_with (refine(zAV c _).mono ?_; rintro e w' ⟨rfl,rfl⟩; simp only[show ZQ c=false from HH.out])
         go_ret;exact⟨vR AD.out.symm,HX.out⟩
       | stmt=>
        have he:=AI.out
        cases he
        cases hh:(jQ.stmt).holds c with
        | true=>
         have HH:=yD hh;clear hh
         go_wp2_with (refine(zBO c _).mono ?_; rintro e w' ⟨rfl,rfl⟩; simp only[show zA5 c=true from HH.out])
         go_round
         case rel=>exact⟨k+1,by omega,by go_num,yD fun j hj=>by
          by_cases AC:j=k
          ·subst AC; rw[AA.out]; exact HH.out
          ·exact HR.out j (by omega)⟩
         case measure=>simp[intOf]; omega
        | false=>
         have HH:=yD hh;have AD:Hid (f.fits ls=false):=yD (JG k AE (by rw[AA.out]; exact hh));clear hh
         go_wp2_with (refine(zBO c _).mono ?_; rintro e w' ⟨rfl,rfl⟩; simp only[show zA5 c=false from HH.out])
         go_ret;exact⟨vR AD.out.symm,HX.out⟩
       | part=>
        have he:=AI.out
        cases he
        cases hh:(jQ.part).holds c with
        | true=>
         have HH:=yD hh;clear hh
         go_wp2_with (refine(YZ c _).mono ?_; rintro e w' ⟨rfl,rfl⟩; simp only[show zBR c=true from HH.out])
         go_round
         case rel=>exact⟨k+1,by omega,by go_num,yD fun j hj=>by
          by_cases AC:j=k
          ·subst AC; rw[AA.out]; exact HH.out
          ·exact HR.out j (by omega)⟩
         case measure=>simp[intOf]; omega
        | false=>
         have HH:=yD hh;have AD:Hid (f.fits ls=false):=yD (JG k AE (by rw[AA.out]; exact hh));clear hh
         go_wp2_with (refine(YZ c _).mono ?_; rintro e w' ⟨rfl,rfl⟩; simp only[show zBR c=false from HH.out])
         go_ret;exact⟨vR AD.out.symm,HX.out⟩
      ·have d3:decide ((k:Int)<(kn:Int))=false:=yO (by omega);obtain⟨p,hp⟩:=HB.out k (by omega) AE;have AY:Hid (zBv wa p (.func (.func fm) #[] lm)):=yD (by have h:=AS.out; rw[hp] at h; exact h);have AA:Hid (ZC (f.want k) (ls.getD k 0)=p.holds c):=yD (by rw[HW.out,if_neg AH,hp,HG.out]; rfl);clear hp
       cases p with
       | VR j=>
        obtain⟨gj,AF,AL⟩:=AY.out;injection AF with AF _ hlm;injection AF with AF;subst AF hlm;have AM:=yD AL;clear AL
        cases hh:(jQ.VR j).holds c with
        | true=>
         have HH:=yD hh;clear hh
         go_wp2_with (refine(zAM c j gj _ AM.out).mono ?_; rintro e w' ⟨rfl,rfl⟩; simp only[show(c==j)=true from HH.out])
         go_round
         case rel=>exact⟨k+1,by omega,by go_num,yD fun j hj=>by
          by_cases AC:j=k
          ·subst AC; rw[AA.out]; exact HH.out
          ·exact HR.out j (by omega)⟩
         case measure=>simp[intOf]; omega
        | false=>
         have HH:=yD hh;have AD:Hid (f.fits ls=false):=yD (JG k AE (by rw[AA.out]; exact hh));clear hh
         go_wp2_with (refine(zAM c j gj _ AM.out).mono ?_; rintro e w' ⟨rfl,rfl⟩; simp only[show(c==j)=false from HH.out])
         go_ret;exact⟨vR AD.out.symm,HX.out⟩
       | expr=>
        have AF:=AY.out;injection AF with AF _ hlm;injection AF with AF;subst AF hlm
        cases hh:(jQ.expr).holds c with
        | true=>
         have HH:=yD hh;clear hh
         go_wp2_with (refine(zAV c _).mono ?_; rintro e w' ⟨rfl,rfl⟩; simp only[show ZQ c=true from HH.out])
         go_round
         case rel=>exact⟨k+1,by omega,by go_num,yD fun j hj=>by
          by_cases AC:j=k
          ·subst AC; rw[AA.out]; exact HH.out
          ·exact HR.out j (by omega)⟩
         case measure=>simp[intOf]; omega
        | false=>
         have HH:=yD hh;have AD:Hid (f.fits ls=false):=yD (JG k AE (by rw[AA.out]; exact hh));clear hh
         go_wp2_with (refine(zAV c _).mono ?_; rintro e w' ⟨rfl,rfl⟩; simp only[show ZQ c=false from HH.out])
         go_ret;exact⟨vR AD.out.symm,HX.out⟩
       | stmt=>
        have AF:=AY.out;injection AF with AF _ hlm;injection AF with AF;subst AF hlm
        cases hh:(jQ.stmt).holds c with
        | true=>
         have HH:=yD hh;clear hh
         go_wp2_with (refine(zBO c _).mono ?_; rintro e w' ⟨rfl,rfl⟩; simp only[show zA5 c=true from HH.out])
         go_round
         case rel=>exact⟨k+1,by omega,by go_num,yD fun j hj=>by
          by_cases AC:j=k
          ·subst AC; rw[AA.out]; exact HH.out
          ·exact HR.out j (by omega)⟩
         case measure=>simp[intOf]; omega
        | false=>
         have HH:=yD hh;have AD:Hid (f.fits ls=false):=yD (JG k AE (by rw[AA.out]; exact hh));clear hh
         go_wp2_with (refine(zBO c _).mono ?_; rintro e w' ⟨rfl,rfl⟩; simp only[show zA5 c=false from HH.out])
         go_ret;exact⟨vR AD.out.symm,HX.out⟩
       | part=>
        have AF:=AY.out;injection AF with AF _ hlm;injection AF with AF;subst AF hlm
        cases hh:(jQ.part).holds c with
        | true=>
         have HH:=yD hh;clear hh
         go_wp2_with (refine(YZ c _).mono ?_; rintro e w' ⟨rfl,rfl⟩; simp only[show zBR c=true from HH.out])
         go_round
         case rel=>exact⟨k+1,by omega,by go_num,yD fun j hj=>by
          by_cases AC:j=k
          ·subst AC; rw[AA.out]; exact HH.out
          ·exact HR.out j (by omega)⟩
         case measure=>simp[intOf]; omega
        | false=>
         have HH:=yD hh;have AD:Hid (f.fits ls=false):=yD (JG k AE (by rw[AA.out]; exact hh));clear hh
         go_wp2_with (refine(YZ c _).mono ?_; rintro e w' ⟨rfl,rfl⟩; simp only[show zBR c=false from HH.out])
         go_ret;exact⟨vR AD.out.symm,HX.out⟩
     ·obtain rfl:k=ls.length:=by omega
      have d0:decide ((ls.length:Int)<(ls.length:Int))=false:=by simp
      go_wp2_with fail
      go_ret;exact⟨vR (AR.out HR.out).symm,HX.out⟩
   ·have AT:¬ls.length<kn:=by omega
    have AX:¬kn<ls.length:=by omega
    have d2:decide ((kn:Int)<(ls.length:Int))=false:=yO (by omega)
    go_enter Tryz.func94,Tryz.ntmps94
    go_wp2_with fail
    have AN:=Blk.new w 147 #[.slice KA kn kc,.nilFunc,.bool f.named,.int .i64 f.most];have AJ:=Ext.alloc w (.cells #[.slice KA kn kc,.nilFunc,.bool f.named,.int .i64 f.most] 147);generalize w.alloc (.cells #[.slice KA kn kc,.nilFunc,.bool f.named,.int .i64 f.most] 147)=wa at *;generalize w.heap.size=ga at *;have x0:=AN.cell 0;have x1:=AN.cell 1;have HX:=yD AJ;have AS:Hid (zFa wa f.more (.nilFunc)):=yD (AP.out.kept (Kept.ZZ AJ));have AV:=yD (HL.out.ext AJ);clear AN AJ HL AP
    go_loop [29] (fun i=>∃k:Nat,k≤ls.length∧i=.int .i64 k∧Hid (∀j,j<k→ZC (f.want j) (ls.getD j 0)=true)) (fun i=>ls.length-(intOf i).toNat)
    case atStart=>exact⟨0,zT _,rfl,yD fun j hj=>by omega⟩
    case round=>
     obtain⟨k,hk,rfl,HR⟩:=hrel
     by_cases AE:k<ls.length
     ·have d0:decide ((k:Int)<(ls.length:Int))=true:=yP (by omega);obtain⟨b,AZ,rfl,hb,Ae⟩:=zJV AV.out k AE;have HG:Hid (ls.getD k 0=ls[k]):=yD (by rw[yE,yG AE]; rfl);generalize ls[k]=c at *
      by_cases AH:k<kn
      ·have d3:decide ((k:Int)<(kn:Int))=true:=yP (by omega);obtain⟨g,u,rfl,hu,AO⟩:=AQ.out k (by rw[AG.out]; exact AH);have hu':wa.cell? ⟨g,k,none⟩=some u:=hu' hu HX.out;have AI:=yD (AO.ext HX.out);have AA:Hid (ZC (f.want k) (ls.getD k 0)=(f.kids[k]'(by rw[AG.out]; exact AH)).holds c):=yD (by rw[HW.out,if_pos AH,yG (by rw[AG.out]; exact AH),HG.out]; rfl);clear hu AO;generalize (f.kids[k]'(by rw[AG.out]; exact AH))=p at *
       cases p with
       | VR j=>
        obtain⟨gj,rfl,AL⟩:=AI.out;have AM:=yD AL;clear AL
        cases hh:(jQ.VR j).holds c with
        | true=>
         have HH:=yD hh;clear hh
         go_wp2_with (refine(zAM c j gj _ AM.out).mono ?_; rintro e w' ⟨rfl,rfl⟩; simp only[show(c==j)=true from HH.out])
         go_round
         case rel=>exact⟨k+1,by omega,by go_num,yD fun j hj=>by
          by_cases AC:j=k
          ·subst AC; rw[AA.out]; exact HH.out
          ·exact HR.out j (by omega)⟩
         case measure=>simp[intOf]; omega
        | false=>
         have HH:=yD hh;have AD:Hid (f.fits ls=false):=yD (JG k AE (by rw[AA.out]; exact hh));clear hh
         go_wp2_with (refine(zAM c j gj _ AM.out).mono ?_; rintro e w' ⟨rfl,rfl⟩; simp only[show(c==j)=false from HH.out])
         go_ret;exact⟨vR AD.out.symm,HX.out⟩
       | expr=>
        have he:=AI.out
        cases he
        cases hh:(jQ.expr).holds c with
        | true=>
         have HH:=yD hh;clear hh
         go_wp2_with (refine(zAV c _).mono ?_; rintro e w' ⟨rfl,rfl⟩; simp only[show ZQ c=true from HH.out])
         go_round
         case rel=>exact⟨k+1,by omega,by go_num,yD fun j hj=>by
          by_cases AC:j=k
          ·subst AC; rw[AA.out]; exact HH.out
          ·exact HR.out j (by omega)⟩
         case measure=>simp[intOf]; omega
        | false=>
         have HH:=yD hh;have AD:Hid (f.fits ls=false):=yD (JG k AE (by rw[AA.out]; exact hh));clear hh
         go_wp2_with (refine(zAV c _).mono ?_; rintro e w' ⟨rfl,rfl⟩; simp only[show ZQ c=false from HH.out])
         go_ret;exact⟨vR AD.out.symm,HX.out⟩
       | stmt=>
        have he:=AI.out
        cases he
        cases hh:(jQ.stmt).holds c with
        | true=>
         have HH:=yD hh;clear hh
         go_wp2_with (refine(zBO c _).mono ?_; rintro e w' ⟨rfl,rfl⟩; simp only[show zA5 c=true from HH.out])
         go_round
         case rel=>exact⟨k+1,by omega,by go_num,yD fun j hj=>by
          by_cases AC:j=k
          ·subst AC; rw[AA.out]; exact HH.out
          ·exact HR.out j (by omega)⟩
         case measure=>simp[intOf]; omega
        | false=>
         have HH:=yD hh;have AD:Hid (f.fits ls=false):=yD (JG k AE (by rw[AA.out]; exact hh));clear hh
         go_wp2_with (refine(zBO c _).mono ?_; rintro e w' ⟨rfl,rfl⟩; simp only[show zA5 c=false from HH.out])
         go_ret;exact⟨vR AD.out.symm,HX.out⟩
       | part=>
        have he:=AI.out
        cases he
        cases hh:(jQ.part).holds c with
        | true=>
         have HH:=yD hh;clear hh
         go_wp2_with (refine(YZ c _).mono ?_; rintro e w' ⟨rfl,rfl⟩; simp only[show zBR c=true from HH.out])
         go_round
         case rel=>exact⟨k+1,by omega,by go_num,yD fun j hj=>by
          by_cases AC:j=k
          ·subst AC; rw[AA.out]; exact HH.out
          ·exact HR.out j (by omega)⟩
         case measure=>simp[intOf]; omega
        | false=>
         have HH:=yD hh;have AD:Hid (f.fits ls=false):=yD (JG k AE (by rw[AA.out]; exact hh));clear hh
         go_wp2_with (refine(YZ c _).mono ?_; rintro e w' ⟨rfl,rfl⟩; simp only[show zBR c=false from HH.out])
         go_ret;exact⟨vR AD.out.symm,HX.out⟩
      ·omega
     ·obtain rfl:k=ls.length:=by omega
      have d0:decide ((ls.length:Int)<(ls.length:Int))=false:=by simp
      go_wp2_with fail
      go_ret;exact⟨vR (AR.out HR.out).symm,HX.out⟩
   ·have AT:¬ls.length<kn:=by omega
    have AX:¬kn<ls.length:=by omega
    have d2:decide ((kn:Int)<(ls.length:Int))=false:=yO (by omega)
    go_enter Tryz.func94,Tryz.ntmps94
    go_wp2_with fail
    have AN:=Blk.new w 147 #[.slice KA kn kc,.func (.func fm) #[] lm,.bool f.named,.int .i64 f.most];have AJ:=Ext.alloc w (.cells #[.slice KA kn kc,.func (.func fm) #[] lm,.bool f.named,.int .i64 f.most] 147);generalize w.alloc (.cells #[.slice KA kn kc,.func (.func fm) #[] lm,.bool f.named,.int .i64 f.most] 147)=wa at *;generalize w.heap.size=ga at *;have x0:=AN.cell 0;have x1:=AN.cell 1;have HX:=yD AJ;have AS:Hid (zFa wa f.more (.func (.func fm) #[] lm)):=yD (AP.out.kept (Kept.ZZ AJ));have AV:=yD (HL.out.ext AJ);clear AN AJ HL AP
    go_loop [29] (fun i=>∃k:Nat,k≤ls.length∧i=.int .i64 k∧Hid (∀j,j<k→ZC (f.want j) (ls.getD j 0)=true)) (fun i=>ls.length-(intOf i).toNat)
    case atStart=>exact⟨0,zT _,rfl,yD fun j hj=>by omega⟩
    case round=>
     obtain⟨k,hk,rfl,HR⟩:=hrel
     by_cases AE:k<ls.length
     ·have d0:decide ((k:Int)<(ls.length:Int))=true:=yP (by omega);obtain⟨b,AZ,rfl,hb,Ae⟩:=zJV AV.out k AE;have HG:Hid (ls.getD k 0=ls[k]):=yD (by rw[yE,yG AE]; rfl);generalize ls[k]=c at *
      by_cases AH:k<kn
      ·have d3:decide ((k:Int)<(kn:Int))=true:=yP (by omega);obtain⟨g,u,rfl,hu,AO⟩:=AQ.out k (by rw[AG.out]; exact AH);have hu':wa.cell? ⟨g,k,none⟩=some u:=hu' hu HX.out;have AI:=yD (AO.ext HX.out);have AA:Hid (ZC (f.want k) (ls.getD k 0)=(f.kids[k]'(by rw[AG.out]; exact AH)).holds c):=yD (by rw[HW.out,if_pos AH,yG (by rw[AG.out]; exact AH),HG.out]; rfl);clear hu AO;generalize (f.kids[k]'(by rw[AG.out]; exact AH))=p at *
       cases p with
       | VR j=>
        obtain⟨gj,rfl,AL⟩:=AI.out;have AM:=yD AL;clear AL
        cases hh:(jQ.VR j).holds c with
        | true=>
         have HH:=yD hh;clear hh
         go_wp2_with (refine(zAM c j gj _ AM.out).mono ?_; rintro e w' ⟨rfl,rfl⟩; simp only[show(c==j)=true from HH.out])
         go_round
         case rel=>exact⟨k+1,by omega,by go_num,yD fun j hj=>by
          by_cases AC:j=k
          ·subst AC; rw[AA.out]; exact HH.out
          ·exact HR.out j (by omega)⟩
         case measure=>simp[intOf]; omega
        | false=>
         have HH:=yD hh;have AD:Hid (f.fits ls=false):=yD (JG k AE (by rw[AA.out]; exact hh));clear hh
         go_wp2_with (refine(zAM c j gj _ AM.out).mono ?_; rintro e w' ⟨rfl,rfl⟩; simp only[show(c==j)=false from HH.out])
         go_ret;exact⟨vR AD.out.symm,HX.out⟩
       | expr=>
        have he:=AI.out
        cases he
        cases hh:(jQ.expr).holds c with
        | true=>
         have HH:=yD hh;clear hh
         go_wp2_with (refine(zAV c _).mono ?_; rintro e w' ⟨rfl,rfl⟩; simp only[show ZQ c=true from HH.out])
         go_round
         case rel=>exact⟨k+1,by omega,by go_num,yD fun j hj=>by
          by_cases AC:j=k
          ·subst AC; rw[AA.out]; exact HH.out
          ·exact HR.out j (by omega)⟩
         case measure=>simp[intOf]; omega
        | false=>
         have HH:=yD hh;have AD:Hid (f.fits ls=false):=yD (JG k AE (by rw[AA.out]; exact hh));clear hh
         go_wp2_with (refine(zAV c _).mono ?_; rintro e w' ⟨rfl,rfl⟩; simp only[show ZQ c=false from HH.out])
         go_ret;exact⟨vR AD.out.symm,HX.out⟩
       | stmt=>
        have he:=AI.out
        cases he
        cases hh:(jQ.stmt).holds c with
        | true=>
         have HH:=yD hh;clear hh
         go_wp2_with (refine(zBO c _).mono ?_; rintro e w' ⟨rfl,rfl⟩; simp only[show zA5 c=true from HH.out])
         go_round
         case rel=>exact⟨k+1,by omega,by go_num,yD fun j hj=>by
          by_cases AC:j=k
          ·subst AC; rw[AA.out]; exact HH.out
          ·exact HR.out j (by omega)⟩
         case measure=>simp[intOf]; omega
        | false=>
         have HH:=yD hh;have AD:Hid (f.fits ls=false):=yD (JG k AE (by rw[AA.out]; exact hh));clear hh
         go_wp2_with (refine(zBO c _).mono ?_; rintro e w' ⟨rfl,rfl⟩; simp only[show zA5 c=false from HH.out])
         go_ret;exact⟨vR AD.out.symm,HX.out⟩
       | part=>
        have he:=AI.out
        cases he
        cases hh:(jQ.part).holds c with
        | true=>
         have HH:=yD hh;clear hh
         go_wp2_with (refine(YZ c _).mono ?_; rintro e w' ⟨rfl,rfl⟩; simp only[show zBR c=true from HH.out])
         go_round
         case rel=>exact⟨k+1,by omega,by go_num,yD fun j hj=>by
          by_cases AC:j=k
          ·subst AC; rw[AA.out]; exact HH.out
          ·exact HR.out j (by omega)⟩
         case measure=>simp[intOf]; omega
        | false=>
         have HH:=yD hh;have AD:Hid (f.fits ls=false):=yD (JG k AE (by rw[AA.out]; exact hh));clear hh
         go_wp2_with (refine(YZ c _).mono ?_; rintro e w' ⟨rfl,rfl⟩; simp only[show zBR c=false from HH.out])
         go_ret;exact⟨vR AD.out.symm,HX.out⟩
      ·omega
     ·obtain rfl:k=ls.length:=by omega
      have d0:decide ((ls.length:Int)<(ls.length:Int))=false:=by simp
      go_wp2_with fail
      go_ret;exact⟨vR (AR.out HR.out).symm,HX.out⟩
end Go.Proofs.YtioffpjajhalaaaGreatDoor.TT
