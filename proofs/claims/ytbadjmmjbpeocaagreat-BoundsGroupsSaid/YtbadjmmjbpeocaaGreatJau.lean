/- Forms, as they lie in memory; the map that tree.forms fills. (and what follows of it). The conditions stand at each lemma. -/
import Derived.Test.YtbadjmmjbpeocaaGreatJaa
import Derived.Test.YtbadjmmjbpeocaaGreatJat
import Derived.Test.YtbadjmmjbpeocaaGreatJab
import Derived.Laws.EntriesVeiled
import Derived.WalkLawsBesides
import Derived.Lib.Bytealg
import Derived.Deep.LoopGhost
import Derived.RegionTactic
import Derived.Laws.Externs
import Derived.Laws.IdiomStrings
set_option linter.unusedVariables false
set_option linter.unusedSimpArgs false
set_option maxRecDepth 100000
set_option maxHeartbeats 16000000
namespace Go.Proofs.YtbadjmmjbpeocaaGreat.TT
open Go Go.RowKit
def Kept (w w':World):Prop:=∀g t cs,Blk w g t cs→Blk w' g t cs
theorem Kept.ZV {w w':World}(h:Ext w w'):Kept w w':=fun _ _ _ hb=>hb.ext h
theorem Kept.zFR {w w':World}{r clock:Nat}{es:Array MapEntry}(hm:jK w r es clock)(h:Touch r w w'):Kept w w':=fun g t cs hb=>h.blk hb (by
 rintro rfl;unfold Blk at hb;unfold jK at hm;rw[hb] at hm
 cases hm)
def zGz {α β:Type}(R:α→β→Prop):List α→List β→Prop
 | [],[]=>True
 | a::l,b::m=>R a b∧zGz R l m
 | _,_=>False
theorem zGz.mono {α β:Type}{R S:α→β→Prop}(h:∀a b,R a b→S a b):∀ {l:List α} {m:List β},zGz R l m→zGz S l m
 | [],[],_=>trivial
 | a::l,b::m,⟨h1,h2⟩=>⟨h a b h1,zGz.mono h h2⟩
 | [],_::_,h=>h.elim
 | _::_,[],h=>h.elim
theorem zGz.len {α β:Type}{R:α→β→Prop}:∀ {l:List α} {m:List β},zGz R l m→l.length=m.length
 | [],[],_=>rfl
 | a::l,b::m,⟨_,h2⟩=>by rw[zK,zK,h2.len]
 | [],_::_,h=>h.elim
 | _::_,[],h=>h.elim
theorem zGz.get {α β:Type}{R:α→β→Prop}:∀ {l:List α} {m:List β} (h:zGz R l m) (i:Nat) (hi:i<l.length),∃b,m[i]?=some b∧R l[i] b
 | a::l,b::m,⟨h1,_⟩,0,_=>⟨b,rfl,h1⟩
 | a::l,b::m,⟨_,h2⟩,i+1,hi=>by
  obtain⟨c,hc,hr⟩:=h2.get i (by simpa using hi);exact⟨c,by simpa using hc,hr⟩
 | [],[],_,i,hi=>by simp at hi
 | [],_::_,h,_,_=>h.elim
 | _::_,[],h,_,_=>h.elim
theorem zBg.kept {w w':World}{p:vS}{v:Value}(h:zBg w p v)(hx:Kept w w'):zBg w' p v:=by
 cases p with
 | ZL k=>obtain⟨g,h1,h2⟩:=h; exact⟨g,h1,hx _ _ _ h2⟩
 | expr=>exact h
 | stmt=>exact h
 | part=>exact h
def zFg (w:World):Option vS→Value→Prop
 | none,v=>v=.nilFunc
 | some p,v=>zBg w p v
theorem zFg.kept {w w':World}{p:Option vS}{v:Value}(h:zFg w p v)(hx:Kept w w'):zFg w' p v:=by
 cases p with
 | none=>exact h
 | some p=>exact zBg.kept h hx
def zCx (w:World)(ps:List vS)(v:Value):Prop:=(ps=[]∧v=.slice none 0 0)∨∃g vs,v=.slice (some ⟨g,0,none⟩) ps.length ps.length∧Blk w g 193 (Array.mk vs)∧zGz (zBg w) ps vs
theorem zCx.kept {w w':World}{ps:List vS}{v:Value}(h:zCx w ps v)(hx:Kept w w'):zCx w' ps v:=by
 rcases h with h | ⟨g,vs,h1,h2,h3⟩
 ·exact .inl h
 ·exact .inr ⟨g,vs,h1,hx _ _ _ h2,h3.mono fun a b h=>zBg.kept h hx⟩
def zDd (w:World)(f:vR)(cs:List Value):Prop:=∃ks mv,cs=[ks,mv,.bool f.named,.int .i64 f.most]∧zCx w f.kids ks∧zFg w f.more mv
theorem zDd.kept {w w':World}{f:vR}{cs:List Value}(h:zDd w f cs)(hx:Kept w w'):zDd w' f cs:=by
 obtain⟨ks,mv,h1,h2,h3⟩:=h;exact⟨ks,mv,h1,h2.kept hx,h3.kept hx⟩
theorem zDd.len {w:World}{f:vR}{cs:List Value}(h:zDd w f cs):cs.length=4:=by
 obtain⟨ks,mv,h1,_⟩:=h;rw[h1]; rfl
def zBk (w:World)(fs:List vR)(v:Value):Prop:=(fs=[]∧v=.slice none 0 0)∨∃g css,v=.slice (some ⟨g,0,none⟩) fs.length fs.length∧Blk w g 195 (Array.mk css.flatten)∧zGz (zDd w) fs css
theorem zBk.kept {w w':World}{fs:List vR}{v:Value}(h:zBk w fs v)(hx:Kept w w'):zBk w' fs v:=by
 rcases h with h | ⟨g,vs,h1,h2,h3⟩
 ·exact .inl h
 ·exact .inr ⟨g,vs,h1,hx _ _ _ h2,h3.mono fun a b h=>zDd.kept h hx⟩
def zEm:List (Int × Value)→Nat→List MapEntry
 | [],_=>[]
 | x::l,c=>{ key:=.int .u8 x.1,val:=x.2,born:=c } :: zEm l (c+1)
theorem zOO (l:List (Int × Value))(x:Int × Value):∀c,zEm (l++[x]) c=zEm l c++[{ key:=.int .u8 x.1,val:=x.2,born:=c+l.length }]:=by
 induction l with
 | nil=>intro c; rfl
 | cons y l ih=>intro c; simp only[yC,zEm,ih,zK]; rw[show c+1+l.length=c+(l.length+1) from by omega]
theorem zLe (a b:Int):Instr.sameNow (.int .u8) (.int .u8 a) (.int .u8 b)=some (a==b):=by simp[Instr.sameNow]
theorem zEV (l:List (Int × Value))(n:Int)(h:∀x ∈ l,x.1≠n):∀c j,Instr.findNow (.int .u8) (.int .u8 n) (zEm l c) j=some none:=by
 induction l with
 | nil=>intro c j; rfl
 | cons x l ih=>
  intro c j;have hx:(n==x.1)=false:=beq_eq_false_iff_ne.2 (Ne.symm (h x (by simp)));unfold zEm Instr.findNow;simp only[zLe,hx];exact ih (fun y hy=>h y (by simp[hy])) _ _
theorem zPQ (l:List (Int × Value))(n:Int):∀(i:Nat) (v:Value) (c j:Nat),l[i]?=some (n,v)→(∀j x,j<i→l[j]?=some x→x.1≠n)→Instr.findNow (.int .u8) (.int .u8 n) (zEm l c) j=some (some (j+i,v)):=by
 induction l with
 | nil=>intro i v c j h; simp at h
 | cons y l ih=>
  intro i v c j hi h;unfold zEm Instr.findNow
  match i with
  | 0=>
   simp at hi
   subst hi;simp only[zLe,beq_self_eq_true]
   rfl
  | i+1=>
   have hx:(n==y.1)=false:=beq_eq_false_iff_ne.2 (Ne.symm (h 0 y (by omega) rfl));simp only[zLe,hx];rw[ih i v (c+1) (j+1) (by simpa using hi) (fun j x hj hx=>h (j+1) x (by omega) (by simpa using hx))]
   congr 3
   omega
structure FSt (w0 w:World)(r:Nat)(ks:List Int)(l:List (Int × Value))(g4 g5 g6 g7:Nat):Prop where
 map:jK w r (Array.mk (zEm l 0)) l.length
 keys:l.map Prod.fst=ks
 zNy:∀x ∈ l,zBk w (XY x.1) x.2
 ext:Ext w0 w
 low:w0.heap.size≤r
 k4:Blk w g4 5 #[.int .u8 20]
 k5:Blk w g5 5 #[.int .u8 5]
 k6:Blk w g6 5 #[.int .u8 6]
 k7:Blk w g7 5 #[.int .u8 21]
theorem FSt.mono {w0 w w':World}{r:Nat}{ks:List Int}{l:List (Int × Value)}{g4 g5 g6 g7:Nat}(h:FSt w0 w r ks l g4 g5 g6 g7)(hx:Ext w w'):FSt w0 w' r ks l g4 g5 g6 g7:=
 ⟨h.map.ext hx,h.keys,fun x hm=>(h.zNy x hm).kept (Kept.ZV hx),h.ext.trans hx,h.low,h.k4.ext hx,h.k5.ext hx,h.k6.ext hx,h.k7.ext hx⟩
theorem zBI {w0 w:World}{ops:Array Oper}{rest:List Oper}{o:Oper}{a:Act}{Q:Exit→Act→World→Prop}{r:Nat}{ks:List Int}{l:List (Int × Value)}{g4 g5 g6 g7:Nat}(hgd:o.guard=none)(m k x:Operand)(n:Int)(v:Value)(ho:o.op=.insert 211 m k x)
  (em:a.eval m=.map (some r)) (ek:a.eval k=.int .u8 n) (ex:a.eval x=v) (hst:FSt w0 w r ks l g4 g5 g6 g7) (hv:zBk w (XY n) v) (hn:ks.contains n=false)
  (h:∀w' l',FSt w0 w' r (ks++[n]) l' g4 g5 g6 g7→wpList Tryz.prog ops Q rest (a.put o.dst undef) w'):wpList Tryz.prog ops Q (o::rest) a w:=by
 have AA:∀y ∈ l,y.1≠n:=by
  rintro y hy rfl
  have:y.1 ∈ ks:=by rw[←hst.keys]; exact List.mem_map_of_mem hy
  simp at hn
  exact hn this
 refine ZO hgd 211 m k x ho Tryz.underlying211 Tryz.underlying5 r l.length _ n v em ek ex hst.map (zEV l n AA 0 0) fun w' ht hm=>h w' (l++[(n,v)]) ?_;have hk:=Kept.zFR hst.map ht;refine⟨?_,by rw[List.map_append,hst.keys]; rfl,fun y hy=>?_,ht.ext hst.ext hst.low,hst.low,hk _ _ _ hst.k4,hk _ _ _ hst.k5,hk _ _ _ hst.k6,hk _ _ _ hst.k7⟩
 ·have:(Array.mk (zEm l 0)).push { key:=.int .u8 n,val:=v,born:=l.length } = Array.mk (zEm (l++[(n,v)]) 0):=by
   rw[zOO,Nat.zero_add]
   simp
  rw[this] at hm;rw[yP];exact hm
 ·rcases List.mem_append.1 hy with hy | hy
  ·exact(hst.zNy y hy).kept hk
  ·rw[List.mem_singleton.1 hy];exact hv.kept hk
theorem zHn {P:Program}{w:World}{t kt et:TypeId}{kk:IntKind}{r clock:Nat}{es:Array MapEntry}{n:Int}{z:Value}(hm:P.underlying t=some (.map kt et))(hk:P.underlying kt=some (.int kk))
  (hb:jK w r es clock) (hz:(zeroValue et).run P w=.ok z w) (hf:Instr.findNow (.int kk) (.int kk n) es.toList 0=some none):(Instr.lookup t (.map (some r)) (.int kk n) false).run P w=.ok z w:=by
 have hc:(Instr.checkKey es.isEmpty 10000 kt (.int kk n)).run P w=.ok () w:=MapKept.run_checkKey (k:=.int kk n) hk (by simp[MapKept.IsKey]) _ 9999;simp[Instr.lookup,run_underlying hm,MapKept.run_getObj_map hb,hc,MapKept.run_findKey hk hf,hz,Result.andThen]
theorem zFn {P:Program}{w:World}{ops:Array Oper}{rest:List Oper}{o:Oper}{a:Act}{Q:Exit→Act→World→Prop}(hgd:o.guard=none)(t:TypeId)(m k:Operand)(ho:o.op=.lookup t m k false){kt et:TypeId}{kk:IntKind}
  (hm:P.underlying t=some (.map kt et)) (hk:P.underlying kt=some (.int kk)) (r clock:Nat) (es:Array MapEntry) (n:Int) (z:Value) (hz:∀w,(zeroValue et).run P w=.ok z w)
  (em:a.eval m=.map (some r)) (ek:a.eval k=.int kk n) (hb:jK w r es clock) (hf:Instr.findNow (.int kk) (.int kk n) es.toList 0=some none)
  (h:wpList P ops Q rest (a.put o.dst z) w):wpList P ops Q (o::rest) a w:=by
 refine wpList_plain hgd fun K hK=>?_;have AA:=zHn (P:=P) hm hk hb (hz w) hf;unfold Oper.wp execOp;simp only[ho,em,ek,Sem.run_bind,Sem.run_pure,AA,Result.andThen_ok];exact hK _ _ h
theorem zOw {l:List (Int × Value)}{ks:List Int}(hk:l.map Prod.fst=ks)(n:Int)(i:Nat)(hi:ks[i]?=some n)(hd:(ks.take i).contains n=false):∃v,l[i]?=some (n,v)∧∀j x,j<i→l[j]?=some x→x.1≠n:=by
 subst hk;rw[zN] at hi;obtain⟨x,hx,rfl⟩:=Option.map_eq_some_iff.1 hi;refine⟨x.2,hx,?_⟩;rintro j y hj hy he
 have:y.1 ∈ (l.map Prod.fst).take i:=by
  rw[←List.map_take];exact List.mem_map_of_mem (yB (i:=j) (by rw[List.getElem?_take,if_pos hj]; exact hy))
 rw[he] at this
 simp at hd
 exact hd (by simpa using this)
theorem zUZ {w0 w:World}{ops:Array Oper}{rest:List Oper}{o:Oper}{a:Act}{Q:Exit→Act→World→Prop}{r:Nat}{l:List (Int × Value)}{g4 g5 g6 g7:Nat}(hgd:o.guard=none)(m k:Operand)(n:Int)(ho:o.op=.lookup 211 m k false)
  (em:a.eval m=.map (some r)) (ek:a.eval k=.int .u8 n) (hst:FSt w0 w r [1,2,3,4,5,6,7,8,9,10,11,12,13,14,15,16,17,18,19,20,21,22,23,24,25,26] l g4 g5 g6 g7) (hz:∀w,(zeroValue 190).run Tryz.prog w=.ok (.slice none 0 0) w)
  (h:∀v,zBk w (XY n) v→wpList Tryz.prog ops Q rest (a.put o.dst v) w):wpList Tryz.prog ops Q (o::rest) a w:=by
 by_cases hk:1≤n∧n≤26
 ·have hi:([1,2,3,4,5,6,7,8,9,10,11,12,13,14,15,16,17,18,19,20,21,22,23,24,25,26]:List Int)[(n-1).toNat]?=some n∧(([1,2,3,4,5,6,7,8,9,10,11,12,13,14,15,16,17,18,19,20,21,22,23,24,25,26]:List Int).take (n-1).toNat).contains n=false:=by
   have hc:n=1∨n=2∨n=3∨n=4∨n=5∨n=6∨n=7∨n=8∨n=9∨n=10∨n=11∨n=12∨n=13∨n=14∨n=15∨n=16∨n=17∨n=18∨n=19∨n=20∨n=21∨n=22∨n=23∨n=24∨n=25∨n=26:=by omega
   rcases hc with rfl | rfl | rfl | rfl | rfl | rfl | rfl | rfl | rfl | rfl | rfl | rfl | rfl | rfl | rfl | rfl | rfl | rfl | rfl | rfl | rfl | rfl | rfl | rfl | rfl | rfl <;> exact⟨rfl,rfl⟩
  obtain⟨v,hv,hd⟩:=zOw hst.keys n _ hi.1 hi.2;exact zFH hgd 211 m k ho Tryz.underlying211 Tryz.underlying5 r l.length _ _ n v em ek hst.map (zPQ l n _ v 0 0 hv hd) (h v (hst.zNy _ (yB hv)))
 ·have hn:∀y ∈ l,y.1≠n:=by
   rintro y hy rfl
   have:y.1 ∈ ([1,2,3,4,5,6,7,8,9,10,11,12,13,14,15,16,17,18,19,20,21,22,23,24,25,26]:List Int):=by rw[←hst.keys]; exact List.mem_map_of_mem hy
   simp only[zU,List.not_mem_nil,or_false] at this;omega
  have h0:XY n=[]:=by
   unfold XY
   repeat (rw[if_neg (by omega)])
  exact zFn hgd 211 m k ho Tryz.underlying211 Tryz.underlying5 r l.length _ n _ hz em ek hst.map (zEV l n hn 0 0) (h _ (.inl ⟨h0,rfl⟩))
theorem Blk.newAt {W:World}{t:TypeId}{cs:Array Value}{n:Nat}(h:n=W.heap.size):Blk (W.alloc (.cells cs t)) n t cs:=by subst h; exact Blk.new W t cs
theorem vV {W:World}{f:vR}{g:Nat}{ks mv:Value}{b:Bool}{n:Int}(hn:b=f.named)(hm:n=f.most)(hb:Blk W g 195 #[ks,mv,.bool b,.int .i64 n])(hk:zCx W f.kids ks)(hmv:zFg W f.more mv):zBk W [f] (.slice (some ⟨g,0,none⟩) 1 1):=by
 subst hn hm;exact .inr ⟨g,[[ks,mv,.bool f.named,.int .i64 f.most]],rfl,hb,⟨⟨ks,mv,rfl,hk,hmv⟩,trivial⟩⟩
theorem zIB {W:World}{f f':vR}{g:Nat}{ks mv ks' mv':Value}{b b':Bool}{n n':Int}(hn:b=f.named)(hm:n=f.most)(hn':b'=f'.named)(hm':n'=f'.most)(hb:Blk W g 195 #[ks,mv,.bool b,.int .i64 n,ks',mv',.bool b',.int .i64 n'])(hk:zCx W f.kids ks)(hmv:zFg W f.more mv)(hk':zCx W f'.kids ks')(hmv':zFg W f'.more mv'):zBk W [f,f'] (.slice (some ⟨g,0,none⟩) 2 2):=by
 subst hn hm hn' hm';exact .inr ⟨g,[[ks,mv,.bool f.named,.int .i64 f.most],[ks',mv',.bool f'.named,.int .i64 f'.most]],rfl,hb,⟨⟨ks,mv,rfl,hk,hmv⟩,⟨ks',mv',rfl,hk',hmv'⟩,trivial⟩⟩
theorem VY {W:World}:zCx W [] (.slice none 0 0):=.inl ⟨rfl,rfl⟩
theorem zB4 {W:World}{p1:vS}{v1:Value}{g:Nat}(hb:Blk W g 193 #[v1])(h1:zBg W p1 v1):zCx W [p1] (.slice (some ⟨g,0,none⟩) 1 1):=.inr ⟨g,[v1],rfl,hb,h1,trivial⟩
theorem zDN {W:World}{p1 p2:vS}{v1 v2:Value}{g:Nat}(hb:Blk W g 193 #[v1,v2])(h1:zBg W p1 v1)(h2:zBg W p2 v2):zCx W [p1,p2] (.slice (some ⟨g,0,none⟩) 2 2):=.inr ⟨g,[v1,v2],rfl,hb,h1,h2,trivial⟩
theorem zLE {W:World}{p1 p2 p3:vS}{v1 v2 v3:Value}{g:Nat}(hb:Blk W g 193 #[v1,v2,v3])(h1:zBg W p1 v1)(h2:zBg W p2 v2)(h3:zBg W p3 v3):zCx W [p1,p2,p3] (.slice (some ⟨g,0,none⟩) 3 3):=.inr ⟨g,[v1,v2,v3],rfl,hb,h1,h2,h3,trivial⟩
theorem zS2 {W:World}{p1 p2 p3 p4:vS}{v1 v2 v3 v4:Value}{g:Nat}(hb:Blk W g 193 #[v1,v2,v3,v4])(h1:zBg W p1 v1)(h2:zBg W p2 v2)(h3:zBg W p3 v3)(h4:zBg W p4 v4):zCx W [p1,p2,p3,p4] (.slice (some ⟨g,0,none⟩) 4 4):=.inr ⟨g,[v1,v2,v3,v4],rfl,hb,h1,h2,h3,h4,trivial⟩
theorem zG8 (w:World):(binOp .eql 193 .nilFunc .nilFunc).run Tryz.prog w=.ok (.bool true) w:=by kernel_rfl
theorem zL7 (w:World)(f:Fn)(b lb:Array Value):(binOp .eql 193 (.func f b lb) .nilFunc).run Tryz.prog w=.ok (.bool false) w:=by kernel_rfl
def vE (l:List Int):List Value:=l.map (Value.int .u8)
theorem jU (l:List Int):(vE l).length=l.length:=by simp[vE]
theorem VZ (l:List Int)(k:Nat)(h:k<l.length):(vE l)[k]?=some (.int .u8 l[k]):=by simp[vE,h]
theorem zIs {w:World}{A:Option Addr}{l:List Int}(h:Cells w A (vE l))(k:Nat)(hk:k<l.length):∃b AA,A=some ⟨b,AA,none⟩∧b<w.heap.size∧w.cell? ⟨b,AA+k,none⟩=some (.int .u8 l[k]):=by
 obtain⟨b,AA,hA,hb,AB⟩:=h.at_ (by rw[jU]; omega);exact⟨b,AA,hA,hb,(AB k (by rw[jU]; exact hk)).trans (VZ l k hk)⟩
theorem zCx.open_ {w:World}{ps:List vS}{v:Value}(h:zCx w ps v):∃A c,v=.slice A ps.length c∧∀i (hi:i<ps.length),∃g u,A=some ⟨g,0,none⟩∧w.cell? ⟨g,i,none⟩=some u∧zBg w ps[i] u:=by
 rcases h with ⟨h1,h2⟩ | ⟨g,vs,h1,h2,h3⟩
 ·subst h1; exact⟨none,0,h2,fun i hi=>by simp at hi⟩
 ·refine⟨_,_,h1,fun i hi=>?_⟩;obtain⟨u,hu,hk⟩:=h3.get i hi;exact⟨g,u,rfl,by rw[h2.cell]; simpa using hu,hk⟩
theorem hu' {w wa:World}{g i:Nat}{u:Value}(h:w.cell? ⟨g,i,none⟩=some u)(hx:Ext w wa):wa.cell? ⟨g,i,none⟩=some u:=(hx.cell (World.block_lt_of_cell? w _ h)).trans h
theorem zSe {f:vR}{ls:List Int}(h1:¬ls.length<f.kids.length)(h2:¬(f.kids.length<ls.length∧f.more.isNone=true))(h:∀j,j<ls.length→vI (f.want j) (ls.getD j 0)=true):f.fits ls=true:=by
 unfold vR.fits;rw[if_neg (fun hh=>hh.elim h1 h2),zH];intro j hj;exact h j (by simpa using hj)
theorem JD {f:vR}{ls:List Int}(j:Nat)(hj:j<ls.length)(h:vI (f.want j) (ls.getD j 0)=false):f.fits ls=false:=by
 unfold vR.fits
 split
 ·rfl
 ·rw[Bool.eq_false_iff];intro hh;rw[zH] at hh
  have:=hh j (by simpa using hj)
  rw[h] at this
  cases this
theorem zOW {f:vR}{ls:List Int}(h:ls.length<f.kids.length):f.fits ls=false:=by unfold vR.fits; rw[if_pos (.inl h)]
theorem zQa {f:vR}{ls:List Int}(h:f.kids.length<ls.length)(hn:f.more=none):f.fits ls=false:=by unfold vR.fits; rw[if_pos (.inr ⟨h,by rw[hn]; rfl⟩)]
theorem zP0 (f:vR)(cs:List Value)(L:Option Addr)(ls:List Int)(n lc:Nat)(w:World)(hn:n=ls.length)(hf:zDd w f cs)(hl:Cells w L (vE ls))(hlen:ls.length≤9000) :
  Calls Tryz.prog 117 #[.agg (Array.mk cs),.slice L n lc] w fun e w'=>e=.returned (.bool (f.fits ls))∧Ext w w':=by
 subst hn;obtain⟨ks,mv,rfl,Ab,Ac⟩:=hf;obtain⟨KA,kc,rfl,AV⟩:=Ab.open_;have AS:=yG AV;have HL:=yG hl;have AP:=yG Ac;clear AV hl Ab Ac;obtain⟨kn,AG⟩:∃kn,Hid (f.kids.length=kn):=⟨_,yG rfl⟩;rw[AG.out]
 by_cases h1:ls.length<kn
 ·have HR:Hid (f.fits ls=false):=yG (zOW (by rw[AG.out]; exact h1));have d1:decide ((ls.length:Int)<(kn:Int))=true:=yS (by omega)
  go_enter Tryz.func117,Tryz.ntmps117
  go_wp2_with fail
  go_ret;exact⟨jN HR.out.symm,(by show Below w.heap.size w _; go_grown)⟩
 ·have d1:decide ((ls.length:Int)<(kn:Int))=false:=yR (by omega)
  by_cases AB:kn<ls.length∧f.more=none
  ·have HR:Hid (f.fits ls=false):=yG (zQa (by rw[AG.out]; exact AB.1) AB.2);have hm:=AP.out;rw[AB.2] at hm;have Af:mv=.nilFunc:=hm;subst Af;have AZ:kn<ls.length:=AB.1;have Ag:ls.length > kn:=AB.1;have d2:decide ((kn:Int)<(ls.length:Int))=true:=yS (by omega);clear hm AB;have q1:=zG8
   go_enter Tryz.func117,Tryz.ntmps117
   go_wp2_with fail
   go_ret;exact⟨jN HR.out.symm,(by show Below w.heap.size w _; go_grown)⟩
  ·have AL:¬ls.length<f.kids.length:=by rw[AG.out]; exact h1
   have Aa:¬(f.kids.length<ls.length∧f.more.isNone=true):=by
    rintro ⟨ha,hb⟩;rw[AG.out] at ha;exact AB ⟨ha,by simpa using hb⟩
   have AQ:Hid ((∀j,j<ls.length→vI (f.want j) (ls.getD j 0)=true)→f.fits ls=true):=yG (zSe AL Aa)
   have HB:Hid (∀i,kn≤i→i<ls.length→∃p,f.more=some p):=yG (by
    intro i h2 h3
    cases hm:f.more with
    | none=>exact absurd ⟨by omega,hm⟩ AB
    | some p=>exact⟨p,rfl⟩)
   have HW:Hid (∀i,f.want i=if i<kn then f.kids[i]? else f.more):=yG (by intro i; unfold vR.want; rw[AG.out]);have q1:=zG8;have q2:=zL7
   have hmf:(mv=.nilFunc∧(kn<ls.length→False))∨∃fm lm,mv=.func (.func fm) #[] lm:=by
    have hm:=AP.out
    cases hmm:f.more with
    | none=>rw[hmm] at hm; exact .inl ⟨hm,fun h=>AB ⟨h,hmm⟩⟩
    | some p=>rw[hmm] at hm; obtain⟨fm,lm,h3,_⟩:=zBg.form hm; exact .inr ⟨fm,lm,h3⟩
   clear AL Aa AB
   have AX:(kn<ls.length∧∃fm lm,mv=.func (.func fm) #[] lm)∨(ls.length=kn∧(mv=.nilFunc∨∃fm lm,mv=.func (.func fm) #[] lm)):=by
    rcases hmf with ⟨h2,h3⟩ | h2
    ·exact .inr ⟨by rcases Nat.lt_or_ge kn ls.length with h | h; exact(h3 h).elim; omega,.inl h2⟩
    ·rcases Nat.lt_or_ge kn ls.length with h | h
     ·exact .inl ⟨h,h2⟩
     ·exact .inr ⟨by omega,.inr h2⟩
   clear hmf h1
   rcases AX with ⟨AZ,fm,lm,rfl⟩ | ⟨AZ,rfl | ⟨fm,lm,rfl⟩⟩
   ·have AU:¬ls.length<kn:=by omega
    have d2:decide ((kn:Int)<(ls.length:Int))=true:=yS (by omega)
    go_enter Tryz.func117,Tryz.ntmps117
    go_wp2_with fail
    have AN:=Blk.new w 195 #[.slice KA kn kc,.func (.func fm) #[] lm,.bool f.named,.int .i64 f.most];have AI:=Ext.alloc w (.cells #[.slice KA kn kc,.func (.func fm) #[] lm,.bool f.named,.int .i64 f.most] 195);generalize w.alloc (.cells #[.slice KA kn kc,.func (.func fm) #[] lm,.bool f.named,.int .i64 f.most] 195)=wa at *;generalize w.heap.size=ga at *;have x0:=AN.cell 0;have x1:=AN.cell 1;have HX:=yG AI;have AR:Hid (zFg wa f.more (.func (.func fm) #[] lm)):=yG (AP.out.kept (Kept.ZV AI));have AW:=yG (HL.out.ext AI);clear AN AI HL AP
    go_loop [29] (fun i=>∃k:Nat,k≤ls.length∧i=.int .i64 k∧Hid (∀j,j<k→vI (f.want j) (ls.getD j 0)=true)) (fun i=>ls.length-(intOf i).toNat)
    case atStart=>exact⟨0,zW _,rfl,yG fun j hj=>by omega⟩
    case round=>
     obtain⟨k,hk,rfl,HR⟩:=hrel
     by_cases AE:k<ls.length
     ·have d0:decide ((k:Int)<(ls.length:Int))=true:=yS (by omega);obtain⟨b,Ae,rfl,hb,Ad⟩:=zIs AW.out k AE;have HG:Hid (ls.getD k 0=ls[k]):=yG (by rw[yH,yJ AE]; rfl);generalize ls[k]=c at *
      by_cases AH:k<kn
      ·have d3:decide ((k:Int)<(kn:Int))=true:=yS (by omega);obtain⟨g,u,rfl,hu,AO⟩:=AS.out k (by rw[AG.out]; exact AH);have hu':wa.cell? ⟨g,k,none⟩=some u:=hu' hu HX.out;have AJ:=yG (AO.ext HX.out);have AA:Hid (vI (f.want k) (ls.getD k 0)=(f.kids[k]'(by rw[AG.out]; exact AH)).holds c):=yG (by rw[HW.out,if_pos AH,yJ (by rw[AG.out]; exact AH),HG.out]; rfl);clear hu AO;generalize (f.kids[k]'(by rw[AG.out]; exact AH))=p at *
       cases p with
       | ZL j=>
        obtain⟨gj,rfl,AM⟩:=AJ.out;have AK:=yG AM;clear AM
        cases hh:(vS.ZL j).holds c with
        | true=>
         have HH:=yG hh;clear hh
         go_wp2_with (refine(zAH c j gj _ AK.out).mono ?_; rintro e w' ⟨rfl,rfl⟩; simp only[show(c==j)=true from HH.out])
         go_round
         case rel=>exact⟨k+1,by omega,by go_num,yG fun j hj=>by
          by_cases AD:j=k
          ·subst AD; rw[AA.out]; exact HH.out
          ·exact HR.out j (by omega)⟩
         case measure=>simp[intOf]; omega
        | false=>
         have HH:=yG hh;have AC:Hid (f.fits ls=false):=yG (JD k AE (by rw[AA.out]; exact hh));clear hh
         go_wp2_with (refine(zAH c j gj _ AK.out).mono ?_; rintro e w' ⟨rfl,rfl⟩; simp only[show(c==j)=false from HH.out])
         go_ret;exact⟨jN AC.out.symm,HX.out⟩
       | expr=>
        have he:=AJ.out
        cases he
        cases hh:(vS.expr).holds c with
        | true=>
         have HH:=yG hh;clear hh
         go_wp2_with (refine(zBC c _).mono ?_; rintro e w' ⟨rfl,rfl⟩; simp only[show VS c=true from HH.out])
         go_round
         case rel=>exact⟨k+1,by omega,by go_num,yG fun j hj=>by
          by_cases AD:j=k
          ·subst AD; rw[AA.out]; exact HH.out
          ·exact HR.out j (by omega)⟩
         case measure=>simp[intOf]; omega
        | false=>
         have HH:=yG hh;have AC:Hid (f.fits ls=false):=yG (JD k AE (by rw[AA.out]; exact hh));clear hh
         go_wp2_with (refine(zBC c _).mono ?_; rintro e w' ⟨rfl,rfl⟩; simp only[show VS c=false from HH.out])
         go_ret;exact⟨jN AC.out.symm,HX.out⟩
       | stmt=>
        have he:=AJ.out
        cases he
        cases hh:(vS.stmt).holds c with
        | true=>
         have HH:=yG hh;clear hh
         go_wp2_with (refine(zBF c _).mono ?_; rintro e w' ⟨rfl,rfl⟩; simp only[show zAW c=true from HH.out])
         go_round
         case rel=>exact⟨k+1,by omega,by go_num,yG fun j hj=>by
          by_cases AD:j=k
          ·subst AD; rw[AA.out]; exact HH.out
          ·exact HR.out j (by omega)⟩
         case measure=>simp[intOf]; omega
        | false=>
         have HH:=yG hh;have AC:Hid (f.fits ls=false):=yG (JD k AE (by rw[AA.out]; exact hh));clear hh
         go_wp2_with (refine(zBF c _).mono ?_; rintro e w' ⟨rfl,rfl⟩; simp only[show zAW c=false from HH.out])
         go_ret;exact⟨jN AC.out.symm,HX.out⟩
       | part=>
        have he:=AJ.out
        cases he
        cases hh:(vS.part).holds c with
        | true=>
         have HH:=yG hh;clear hh
         go_wp2_with (refine(zBD c _).mono ?_; rintro e w' ⟨rfl,rfl⟩; simp only[show zBH c=true from HH.out])
         go_round
         case rel=>exact⟨k+1,by omega,by go_num,yG fun j hj=>by
          by_cases AD:j=k
          ·subst AD; rw[AA.out]; exact HH.out
          ·exact HR.out j (by omega)⟩
         case measure=>simp[intOf]; omega
        | false=>
         have HH:=yG hh;have AC:Hid (f.fits ls=false):=yG (JD k AE (by rw[AA.out]; exact hh));clear hh
         go_wp2_with (refine(zBD c _).mono ?_; rintro e w' ⟨rfl,rfl⟩; simp only[show zBH c=false from HH.out])
         go_ret;exact⟨jN AC.out.symm,HX.out⟩
      ·have d3:decide ((k:Int)<(kn:Int))=false:=yR (by omega);obtain⟨p,hp⟩:=HB.out k (by omega) AE;have AY:Hid (zBg wa p (.func (.func fm) #[] lm)):=yG (by have h:=AR.out; rw[hp] at h; exact h);have AA:Hid (vI (f.want k) (ls.getD k 0)=p.holds c):=yG (by rw[HW.out,if_neg AH,hp,HG.out]; rfl);clear hp
       cases p with
       | ZL j=>
        obtain⟨gj,AF,AM⟩:=AY.out;injection AF with AF _ hlm;injection AF with AF;subst AF hlm;have AK:=yG AM;clear AM
        cases hh:(vS.ZL j).holds c with
        | true=>
         have HH:=yG hh;clear hh
         go_wp2_with (refine(zAH c j gj _ AK.out).mono ?_; rintro e w' ⟨rfl,rfl⟩; simp only[show(c==j)=true from HH.out])
         go_round
         case rel=>exact⟨k+1,by omega,by go_num,yG fun j hj=>by
          by_cases AD:j=k
          ·subst AD; rw[AA.out]; exact HH.out
          ·exact HR.out j (by omega)⟩
         case measure=>simp[intOf]; omega
        | false=>
         have HH:=yG hh;have AC:Hid (f.fits ls=false):=yG (JD k AE (by rw[AA.out]; exact hh));clear hh
         go_wp2_with (refine(zAH c j gj _ AK.out).mono ?_; rintro e w' ⟨rfl,rfl⟩; simp only[show(c==j)=false from HH.out])
         go_ret;exact⟨jN AC.out.symm,HX.out⟩
       | expr=>
        have AF:=AY.out;injection AF with AF _ hlm;injection AF with AF;subst AF hlm
        cases hh:(vS.expr).holds c with
        | true=>
         have HH:=yG hh;clear hh
         go_wp2_with (refine(zBC c _).mono ?_; rintro e w' ⟨rfl,rfl⟩; simp only[show VS c=true from HH.out])
         go_round
         case rel=>exact⟨k+1,by omega,by go_num,yG fun j hj=>by
          by_cases AD:j=k
          ·subst AD; rw[AA.out]; exact HH.out
          ·exact HR.out j (by omega)⟩
         case measure=>simp[intOf]; omega
        | false=>
         have HH:=yG hh;have AC:Hid (f.fits ls=false):=yG (JD k AE (by rw[AA.out]; exact hh));clear hh
         go_wp2_with (refine(zBC c _).mono ?_; rintro e w' ⟨rfl,rfl⟩; simp only[show VS c=false from HH.out])
         go_ret;exact⟨jN AC.out.symm,HX.out⟩
       | stmt=>
        have AF:=AY.out;injection AF with AF _ hlm;injection AF with AF;subst AF hlm
        cases hh:(vS.stmt).holds c with
        | true=>
         have HH:=yG hh;clear hh
         go_wp2_with (refine(zBF c _).mono ?_; rintro e w' ⟨rfl,rfl⟩; simp only[show zAW c=true from HH.out])
         go_round
         case rel=>exact⟨k+1,by omega,by go_num,yG fun j hj=>by
          by_cases AD:j=k
          ·subst AD; rw[AA.out]; exact HH.out
          ·exact HR.out j (by omega)⟩
         case measure=>simp[intOf]; omega
        | false=>
         have HH:=yG hh;have AC:Hid (f.fits ls=false):=yG (JD k AE (by rw[AA.out]; exact hh));clear hh
         go_wp2_with (refine(zBF c _).mono ?_; rintro e w' ⟨rfl,rfl⟩; simp only[show zAW c=false from HH.out])
         go_ret;exact⟨jN AC.out.symm,HX.out⟩
       | part=>
        have AF:=AY.out;injection AF with AF _ hlm;injection AF with AF;subst AF hlm
        cases hh:(vS.part).holds c with
        | true=>
         have HH:=yG hh;clear hh
         go_wp2_with (refine(zBD c _).mono ?_; rintro e w' ⟨rfl,rfl⟩; simp only[show zBH c=true from HH.out])
         go_round
         case rel=>exact⟨k+1,by omega,by go_num,yG fun j hj=>by
          by_cases AD:j=k
          ·subst AD; rw[AA.out]; exact HH.out
          ·exact HR.out j (by omega)⟩
         case measure=>simp[intOf]; omega
        | false=>
         have HH:=yG hh;have AC:Hid (f.fits ls=false):=yG (JD k AE (by rw[AA.out]; exact hh));clear hh
         go_wp2_with (refine(zBD c _).mono ?_; rintro e w' ⟨rfl,rfl⟩; simp only[show zBH c=false from HH.out])
         go_ret;exact⟨jN AC.out.symm,HX.out⟩
     ·obtain rfl:k=ls.length:=by omega
      have d0:decide ((ls.length:Int)<(ls.length:Int))=false:=by simp
      go_wp2_with fail
      go_ret;exact⟨jN (AQ.out HR.out).symm,HX.out⟩
   ·have AU:¬ls.length<kn:=by omega
    have AT:¬kn<ls.length:=by omega
    have d2:decide ((kn:Int)<(ls.length:Int))=false:=yR (by omega)
    go_enter Tryz.func117,Tryz.ntmps117
    go_wp2_with fail
    have AN:=Blk.new w 195 #[.slice KA kn kc,.nilFunc,.bool f.named,.int .i64 f.most];have AI:=Ext.alloc w (.cells #[.slice KA kn kc,.nilFunc,.bool f.named,.int .i64 f.most] 195);generalize w.alloc (.cells #[.slice KA kn kc,.nilFunc,.bool f.named,.int .i64 f.most] 195)=wa at *;generalize w.heap.size=ga at *;have x0:=AN.cell 0;have x1:=AN.cell 1;have HX:=yG AI;have AR:Hid (zFg wa f.more (.nilFunc)):=yG (AP.out.kept (Kept.ZV AI));have AW:=yG (HL.out.ext AI);clear AN AI HL AP
    go_loop [29] (fun i=>∃k:Nat,k≤ls.length∧i=.int .i64 k∧Hid (∀j,j<k→vI (f.want j) (ls.getD j 0)=true)) (fun i=>ls.length-(intOf i).toNat)
    case atStart=>exact⟨0,zW _,rfl,yG fun j hj=>by omega⟩
    case round=>
     obtain⟨k,hk,rfl,HR⟩:=hrel
     by_cases AE:k<ls.length
     ·have d0:decide ((k:Int)<(ls.length:Int))=true:=yS (by omega);obtain⟨b,Ae,rfl,hb,Ad⟩:=zIs AW.out k AE;have HG:Hid (ls.getD k 0=ls[k]):=yG (by rw[yH,yJ AE]; rfl);generalize ls[k]=c at *
      by_cases AH:k<kn
      ·have d3:decide ((k:Int)<(kn:Int))=true:=yS (by omega);obtain⟨g,u,rfl,hu,AO⟩:=AS.out k (by rw[AG.out]; exact AH);have hu':wa.cell? ⟨g,k,none⟩=some u:=hu' hu HX.out;have AJ:=yG (AO.ext HX.out);have AA:Hid (vI (f.want k) (ls.getD k 0)=(f.kids[k]'(by rw[AG.out]; exact AH)).holds c):=yG (by rw[HW.out,if_pos AH,yJ (by rw[AG.out]; exact AH),HG.out]; rfl);clear hu AO;generalize (f.kids[k]'(by rw[AG.out]; exact AH))=p at *
       cases p with
       | ZL j=>
        obtain⟨gj,rfl,AM⟩:=AJ.out;have AK:=yG AM;clear AM
        cases hh:(vS.ZL j).holds c with
        | true=>
         have HH:=yG hh;clear hh
         go_wp2_with (refine(zAH c j gj _ AK.out).mono ?_; rintro e w' ⟨rfl,rfl⟩; simp only[show(c==j)=true from HH.out])
         go_round
         case rel=>exact⟨k+1,by omega,by go_num,yG fun j hj=>by
          by_cases AD:j=k
          ·subst AD; rw[AA.out]; exact HH.out
          ·exact HR.out j (by omega)⟩
         case measure=>simp[intOf]; omega
        | false=>
         have HH:=yG hh;have AC:Hid (f.fits ls=false):=yG (JD k AE (by rw[AA.out]; exact hh));clear hh
         go_wp2_with (refine(zAH c j gj _ AK.out).mono ?_; rintro e w' ⟨rfl,rfl⟩; simp only[show(c==j)=false from HH.out])
         go_ret;exact⟨jN AC.out.symm,HX.out⟩
       | expr=>
        have he:=AJ.out
        cases he
        cases hh:(vS.expr).holds c with
        | true=>
         have HH:=yG hh;clear hh
         go_wp2_with (refine(zBC c _).mono ?_; rintro e w' ⟨rfl,rfl⟩; simp only[show VS c=true from HH.out])
         go_round
         case rel=>exact⟨k+1,by omega,by go_num,yG fun j hj=>by
          by_cases AD:j=k
          ·subst AD; rw[AA.out]; exact HH.out
          ·exact HR.out j (by omega)⟩
         case measure=>simp[intOf]; omega
        | false=>
         have HH:=yG hh;have AC:Hid (f.fits ls=false):=yG (JD k AE (by rw[AA.out]; exact hh));clear hh
         go_wp2_with (refine(zBC c _).mono ?_; rintro e w' ⟨rfl,rfl⟩; simp only[show VS c=false from HH.out])
         go_ret;exact⟨jN AC.out.symm,HX.out⟩
       | stmt=>
        have he:=AJ.out
        cases he
        cases hh:(vS.stmt).holds c with
        | true=>
         have HH:=yG hh;clear hh
         go_wp2_with (refine(zBF c _).mono ?_; rintro e w' ⟨rfl,rfl⟩; simp only[show zAW c=true from HH.out])
         go_round
         case rel=>exact⟨k+1,by omega,by go_num,yG fun j hj=>by
          by_cases AD:j=k
          ·subst AD; rw[AA.out]; exact HH.out
          ·exact HR.out j (by omega)⟩
         case measure=>simp[intOf]; omega
        | false=>
         have HH:=yG hh;have AC:Hid (f.fits ls=false):=yG (JD k AE (by rw[AA.out]; exact hh));clear hh
         go_wp2_with (refine(zBF c _).mono ?_; rintro e w' ⟨rfl,rfl⟩; simp only[show zAW c=false from HH.out])
         go_ret;exact⟨jN AC.out.symm,HX.out⟩
       | part=>
        have he:=AJ.out
        cases he
        cases hh:(vS.part).holds c with
        | true=>
         have HH:=yG hh;clear hh
         go_wp2_with (refine(zBD c _).mono ?_; rintro e w' ⟨rfl,rfl⟩; simp only[show zBH c=true from HH.out])
         go_round
         case rel=>exact⟨k+1,by omega,by go_num,yG fun j hj=>by
          by_cases AD:j=k
          ·subst AD; rw[AA.out]; exact HH.out
          ·exact HR.out j (by omega)⟩
         case measure=>simp[intOf]; omega
        | false=>
         have HH:=yG hh;have AC:Hid (f.fits ls=false):=yG (JD k AE (by rw[AA.out]; exact hh));clear hh
         go_wp2_with (refine(zBD c _).mono ?_; rintro e w' ⟨rfl,rfl⟩; simp only[show zBH c=false from HH.out])
         go_ret;exact⟨jN AC.out.symm,HX.out⟩
      ·omega
     ·obtain rfl:k=ls.length:=by omega
      have d0:decide ((ls.length:Int)<(ls.length:Int))=false:=by simp
      go_wp2_with fail
      go_ret;exact⟨jN (AQ.out HR.out).symm,HX.out⟩
   ·have AU:¬ls.length<kn:=by omega
    have AT:¬kn<ls.length:=by omega
    have d2:decide ((kn:Int)<(ls.length:Int))=false:=yR (by omega)
    go_enter Tryz.func117,Tryz.ntmps117
    go_wp2_with fail
    have AN:=Blk.new w 195 #[.slice KA kn kc,.func (.func fm) #[] lm,.bool f.named,.int .i64 f.most];have AI:=Ext.alloc w (.cells #[.slice KA kn kc,.func (.func fm) #[] lm,.bool f.named,.int .i64 f.most] 195);generalize w.alloc (.cells #[.slice KA kn kc,.func (.func fm) #[] lm,.bool f.named,.int .i64 f.most] 195)=wa at *;generalize w.heap.size=ga at *;have x0:=AN.cell 0;have x1:=AN.cell 1;have HX:=yG AI;have AR:Hid (zFg wa f.more (.func (.func fm) #[] lm)):=yG (AP.out.kept (Kept.ZV AI));have AW:=yG (HL.out.ext AI);clear AN AI HL AP
    go_loop [29] (fun i=>∃k:Nat,k≤ls.length∧i=.int .i64 k∧Hid (∀j,j<k→vI (f.want j) (ls.getD j 0)=true)) (fun i=>ls.length-(intOf i).toNat)
    case atStart=>exact⟨0,zW _,rfl,yG fun j hj=>by omega⟩
    case round=>
     obtain⟨k,hk,rfl,HR⟩:=hrel
     by_cases AE:k<ls.length
     ·have d0:decide ((k:Int)<(ls.length:Int))=true:=yS (by omega);obtain⟨b,Ae,rfl,hb,Ad⟩:=zIs AW.out k AE;have HG:Hid (ls.getD k 0=ls[k]):=yG (by rw[yH,yJ AE]; rfl);generalize ls[k]=c at *
      by_cases AH:k<kn
      ·have d3:decide ((k:Int)<(kn:Int))=true:=yS (by omega);obtain⟨g,u,rfl,hu,AO⟩:=AS.out k (by rw[AG.out]; exact AH);have hu':wa.cell? ⟨g,k,none⟩=some u:=hu' hu HX.out;have AJ:=yG (AO.ext HX.out);have AA:Hid (vI (f.want k) (ls.getD k 0)=(f.kids[k]'(by rw[AG.out]; exact AH)).holds c):=yG (by rw[HW.out,if_pos AH,yJ (by rw[AG.out]; exact AH),HG.out]; rfl);clear hu AO;generalize (f.kids[k]'(by rw[AG.out]; exact AH))=p at *
       cases p with
       | ZL j=>
        obtain⟨gj,rfl,AM⟩:=AJ.out;have AK:=yG AM;clear AM
        cases hh:(vS.ZL j).holds c with
        | true=>
         have HH:=yG hh;clear hh
         go_wp2_with (refine(zAH c j gj _ AK.out).mono ?_; rintro e w' ⟨rfl,rfl⟩; simp only[show(c==j)=true from HH.out])
         go_round
         case rel=>exact⟨k+1,by omega,by go_num,yG fun j hj=>by
          by_cases AD:j=k
          ·subst AD; rw[AA.out]; exact HH.out
          ·exact HR.out j (by omega)⟩
         case measure=>simp[intOf]; omega
        | false=>
         have HH:=yG hh;have AC:Hid (f.fits ls=false):=yG (JD k AE (by rw[AA.out]; exact hh));clear hh
         go_wp2_with (refine(zAH c j gj _ AK.out).mono ?_; rintro e w' ⟨rfl,rfl⟩; simp only[show(c==j)=false from HH.out])
         go_ret;exact⟨jN AC.out.symm,HX.out⟩
       | expr=>
        have he:=AJ.out
        cases he
        cases hh:(vS.expr).holds c with
        | true=>
         have HH:=yG hh;clear hh
         go_wp2_with (refine(zBC c _).mono ?_; rintro e w' ⟨rfl,rfl⟩; simp only[show VS c=true from HH.out])
         go_round
         case rel=>exact⟨k+1,by omega,by go_num,yG fun j hj=>by
          by_cases AD:j=k
          ·subst AD; rw[AA.out]; exact HH.out
          ·exact HR.out j (by omega)⟩
         case measure=>simp[intOf]; omega
        | false=>
         have HH:=yG hh;have AC:Hid (f.fits ls=false):=yG (JD k AE (by rw[AA.out]; exact hh));clear hh
         go_wp2_with (refine(zBC c _).mono ?_; rintro e w' ⟨rfl,rfl⟩; simp only[show VS c=false from HH.out])
         go_ret;exact⟨jN AC.out.symm,HX.out⟩
       | stmt=>
        have he:=AJ.out
        cases he
        cases hh:(vS.stmt).holds c with
        | true=>
         have HH:=yG hh;clear hh
         go_wp2_with (refine(zBF c _).mono ?_; rintro e w' ⟨rfl,rfl⟩; simp only[show zAW c=true from HH.out])
         go_round
         case rel=>exact⟨k+1,by omega,by go_num,yG fun j hj=>by
          by_cases AD:j=k
          ·subst AD; rw[AA.out]; exact HH.out
          ·exact HR.out j (by omega)⟩
         case measure=>simp[intOf]; omega
        | false=>
         have HH:=yG hh;have AC:Hid (f.fits ls=false):=yG (JD k AE (by rw[AA.out]; exact hh));clear hh
         go_wp2_with (refine(zBF c _).mono ?_; rintro e w' ⟨rfl,rfl⟩; simp only[show zAW c=false from HH.out])
         go_ret;exact⟨jN AC.out.symm,HX.out⟩
       | part=>
        have he:=AJ.out
        cases he
        cases hh:(vS.part).holds c with
        | true=>
         have HH:=yG hh;clear hh
         go_wp2_with (refine(zBD c _).mono ?_; rintro e w' ⟨rfl,rfl⟩; simp only[show zBH c=true from HH.out])
         go_round
         case rel=>exact⟨k+1,by omega,by go_num,yG fun j hj=>by
          by_cases AD:j=k
          ·subst AD; rw[AA.out]; exact HH.out
          ·exact HR.out j (by omega)⟩
         case measure=>simp[intOf]; omega
        | false=>
         have HH:=yG hh;have AC:Hid (f.fits ls=false):=yG (JD k AE (by rw[AA.out]; exact hh));clear hh
         go_wp2_with (refine(zBD c _).mono ?_; rintro e w' ⟨rfl,rfl⟩; simp only[show zBH c=false from HH.out])
         go_ret;exact⟨jN AC.out.symm,HX.out⟩
      ·omega
     ·obtain rfl:k=ls.length:=by omega
      have d0:decide ((ls.length:Int)<(ls.length:Int))=false:=by simp
      go_wp2_with fail
      go_ret;exact⟨jN (AQ.out HR.out).symm,HX.out⟩
def zL1 (s:ByteArray)(c:Int):Int:=Lib.indexByte s.data.toList c.toNat.toUInt8
theorem zST (s:ByteArray)(c:Int)(w:World):(callFunc 155 #[.string s,.int .u8 c]).run Tryz.prog w=.ok (.value (.int .i64 (zL1 s c))) w:=by
 rw[run_callFunc_extern Tryz.func155 (by kernel_rfl) (by kernel_rfl) (by kernel_rfl) (e:=Extern.BytealgIndexByte.indexByte) (by kernel_rfl),Lib.run_indexByteString]
 rfl
theorem zIk (s:ByteArray)(c:Int)(w:World):Calls Tryz.prog 133 #[.string s,.int .u8 c] w fun e w'=>e=.returned (.int .i64 (zL1 s c))∧w'=w:=by
 have he:=zST
 go_enter Tryz.func133,Tryz.ntmps133
 go_wp2
 go_ret;exact⟨rfl,rfl⟩
theorem zIZ (s:ByteArray)(c:Int)(w:World):Calls Tryz.prog 97 #[.string s,.int .u8 c] w fun e w'=>e=.returned (.int .i64 (zL1 s c))∧w'=w:=by
 go_enter Tryz.func97,Tryz.ntmps97
 go_wp2_with (refine(zIk _ _ _).mono ?_; rintro e w' ⟨rfl,rfl⟩)
 go_ret;exact⟨rfl,rfl⟩
theorem zEh (s:ByteArray)(c v:Int)(h:Hid (zL1 s c=v))(w:World):Calls Tryz.prog 97 #[.string s,.int .u8 c] w fun e w'=>e=.returned (.int .i64 v)∧w'=w:=by
 rw[←h.out];exact zIZ s c w
def zDH (l:List UInt8):List Value:=l.map fun b=>Value.int .u8 (b.toNat:Int)
theorem zCa (l:List UInt8):(zDH l).length=l.length:=by simp[zDH]
theorem zGh (l:List UInt8)(k:Nat)(h:k<l.length):(zDH l)[k]?=some (.int .u8 (l[k].toNat:Int)):=by simp[zDH,h]
def scan (p:UInt8→Bool)(l:List UInt8):Nat:=(l.takeWhile p).length
theorem zRC {p:UInt8→Bool}{l:List UInt8}{k:Nat}(hk:k<l.length)(h:p l[k]=true):scan p (l.drop k)=scan p (l.drop (k+1))+1:=by
 unfold scan;rw[List.drop_eq_getElem_cons hk,List.takeWhile_cons,if_pos h]
 rfl
theorem zTk {p:UInt8→Bool}{l:List UInt8}{k:Nat}(hk:k<l.length)(h:p l[k]=false):scan p (l.drop k)=0:=by
 unfold scan;rw[List.drop_eq_getElem_cons hk,List.takeWhile_cons,if_neg (by rw[h]; exact Bool.false_ne_true)]
 rfl
theorem zNr (p:UInt8→Bool)(l:List UInt8):scan p (l.drop l.length)=0:=by simp[scan]
theorem zTx {w:World}{g b off n c at_:Nat}{A:Option Addr}{l:List UInt8}(hg:Blk w g 146 #[.slice A n c,.int .i64 at_])(k:Nat)(hk:k<l.length)(hs:Cells w (some ⟨b,off,none⟩) (zDH l)):b≠g:=by
 rintro rfl;obtain⟨b',AA,hA,_,hc⟩:=hs.at_ (by rw[zCa]; omega);injection hA with hA;injection hA with h1 h2;subst h1 h2;have h0:=(hc k (by rw[zCa]; exact hk)).trans (zGh l k hk);rw[hg.cell] at h0
 match h:off+k with
 | 0=>rw[h] at h0; simp at h0
 | 1=>rw[h] at h0; simp at h0
 | n+2=>rw[h] at h0; simp at h0
theorem YN {g:Nat}{a b c:World}(h:Touch g a b)(k:Touch g b c):Touch g a c:=
 ⟨k.os.trans h.os,k.tape.trans h.tape,k.output.trans h.output,k.size.trans h.size,fun i hi=>(k.other i hi).trans (h.other i hi)⟩
theorem zHI (g:Nat)(a:World):Touch g a a:=⟨rfl,rfl,rfl,rfl,fun _ _=>rfl⟩
theorem JV (g:Nat)(a:World)(n:Nat):Touch g a (a.drewN n):=by
 induction n with
 | zero=>exact zHI g a
 | succ n ih=>exact YN ih ⟨rfl,rfl,rfl,rfl,fun _ _=>rfl⟩
theorem zPG {g i:Nat}(a:World)(u:Value):Touch g a (a.setCell ⟨g,i,none⟩ u):=⟨rfl,rfl,rfl,by simp[World.setCell],fun k hk=>zS a _ u k hk⟩
theorem zCb {w:World}{g:Nat}{t:TypeId}{cs:Array Value}(h:Blk w g t cs)(n:Nat):Blk (w.drewN n) g t cs:=by
 induction n with
 | zero=>exact h
 | succ n ih=>exact ih
def zAn (set:ByteArray)(p:UInt8→Bool):Prop:=∀c:UInt8,((0≤zL1 set (c.toNat:Int))↔p c=true)
theorem zIc {w w':World}{g b off n c at_:Nat}{A:Option Addr}{l:List UInt8}(hg:Blk w g 146 #[.slice A n c,.int .i64 at_])(hs:Cells w (some ⟨b,off,none⟩) (zDH l))(ht:Touch g w w')(k:Nat)(hk:k<l.length) :
  w'.cell? ⟨b,off+k,none⟩=some (.int .u8 (l[k].toNat:Int)):=by
 have AB:b≠g:=zTx hg k hk hs;obtain⟨b',AA,hA,_,AC⟩:=(ht.cells hs (by rintro _ _ ⟨⟩; exact AB)).at_ (by rw[zCa]; omega);injection hA with hA;injection hA with h1 h2;subst h1 h2;exact(AC k (by rw[zCa]; exact hk)).trans (zGh l k hk)
theorem zMs {w w':World}{g b off n c at_:Nat}{A:Option Addr}{l:List UInt8}(hg:Blk w g 146 #[.slice A n c,.int .i64 at_])(hs:Cells w (some ⟨b,off,none⟩) (zDH l))(ht:Touch g w w')(i k cap:Nat)(hik:i≤k)(hk:k≤l.length) :
  (convert 22 9 (.slice (some ⟨b,off+i,none⟩) (k-i) cap)).run Tryz.prog w'=.ok (.string ⟨((l.drop i).take (k-i)).toArray⟩) w':=by
 have h:=run_convert_bytes_back (P:=Tryz.prog) w' 22 9 5 ⟨b,off+i,none⟩ cap ((l.drop i).take (k-i)) Tryz.underlying22 Tryz.underlying5 Tryz.underlying9 (fun j hj=>by
  have AA:j<k-i:=by simp at hj; omega
  have:=zIc hg hs ht (i+j) (by omega)
  unfold Addr.add
  by_cases h0:j=0
  ·subst h0; simpa using this
  ·simp only[h0,if_false]; rw[Nat.add_assoc,this]; simp)
 have hl:((l.drop i).take (k-i)).length=k-i:=by simp; omega
 rw[hl] at h;exact h
theorem zEY (set:ByteArray)(p:UInt8→Bool)(hp:zAn set p)(g b off n c at_:Nat)(l:List UInt8)(w:World)(hn:n=l.length)(hc:n≤c)(hlen:l.length≤4611686018427387904)(hat:at_≤l.length)
  (hg:Blk w g 146 #[.slice (some ⟨b,off,none⟩) n c,.int .i64 at_]) (hs:Cells w (some ⟨b,off,none⟩) (zDH l)) :
  Calls Tryz.prog 94 #[.pointer (some ⟨g,0,none⟩),.string set] w fun e w'=>e=.returned (.string ⟨((l.drop at_).take (scan p (l.drop at_))).toArray⟩)∧Touch g w w'∧Blk w' g 146 #[.slice (some ⟨b,off,none⟩) n c,.int .i64 ((at_+scan p (l.drop at_):Nat):Int)]:=by
 subst hn;have HP:=yG hp;have HS:=yG hs;have HG:=yG hg;have x0:=hg.cell 0;have x1:=hg.cell 1;clear hp hs hg
 go_enter Tryz.func94,Tryz.ntmps94
 go_wp2_with fail
 clear x0 x1
 go_loopg [] (l.length-at_) (fun m wr=>∃k:Nat,at_≤k∧k≤l.length∧m=l.length-k∧Hid (k+scan p (l.drop k)=at_+scan p (l.drop at_))∧Hid (Touch g w wr)∧Hid (Blk wr g 146 #[.slice (some ⟨b,off,none⟩) l.length c,.int .i64 k]))
 case atStart=>exact⟨at_,zX _,hat,rfl,yG rfl,yG (zHI _ _),HG⟩
 case round=>
  obtain⟨k,AI,hk,hm,HK,HT,HB⟩:=hrel;have HM:=yG hm;clear hm;have x0:=HB.out.cell 0;have x1:=HB.out.cell 1;have y0:=HB.out.frozen 1
  by_cases AF:k<l.length
  ·have d0:decide ((k:Int)<(l.length:Int))=true:=yS (by omega);have AE:wr.cell? ⟨b,off+k,none⟩=some (.int .u8 (l[k].toNat:Int)):=zIc HG.out HS.out HT.out k AF;obtain⟨v,HV⟩:∃v,Hid (zL1 set (l[k].toNat:Int)=v):=⟨_,yG rfl⟩
   have q0:(k:Int)<(l.length:Int):=by omega
   by_cases AD:p l[k]=true
   ·have AG:0≤v:=by rw[←HV.out]; exact(HP.out _).2 AD
    have d1:decide (0≤v)=true:=yS AG;have AJ:Hid (k+1+scan p (l.drop (k+1))=at_+scan p (l.drop at_)):=yG (by rw[←HK.out,zRC AF AD]; omega);have HQ:=yG AD;clear AD
    go_wp2_with fail
    go_quiet ((go_at_call 97; exact Calls.quiet_of_same (zEh set _ v HV _)))
    rename_i nq;have AB:Hid (Touch g w (wr.drewN nq)):=yG (YN HT.out (JV g wr nq));have AA:=yG (zCb HB.out nq);clear HT HB x0 x1 y0 AE;generalize wr.drewN nq=wd at *;have x0:=AA.out.cell 0;have x1:=AA.out.cell 1;have y0:=AA.out.frozen 1
    go_wp2_with fail
    go_roundg (l.length-(k+1))
    case measure=>have:=HM.out; omega
    case rel=>
     exact⟨k+1,by omega,by omega,rfl,AJ,yG (YN AB.out (zPG _ _)),yG (AA.out.put 1 _)⟩
   ·have AG:v<0:=by
     have:=(HP.out l[k])
     rw[HV.out] at this
     by_cases h:0≤v
     ·exact absurd (this.1 h) AD
     ·omega
    have d1:decide (0≤v)=false:=yR (by omega);have HE:Hid (k=at_+scan p (l.drop at_)):=yG (by rw[←HK.out]; rw[zTk AF (by simpa using AD)]; rfl);have HR:Hid (((l.drop at_).take (k-at_)).toArray=((l.drop at_).take (scan p (l.drop at_))).toArray):=yG (by rw[show k-at_=scan p (l.drop at_) from by have:=HE.out; omega])
    have hw:IntKind.i64.wrap ((k:Int)-(at_:Int))=(k:Int)-(at_:Int):=by rw[IntKind.wrap_i64]; omega
    clear AD AG
    go_wp2_with fail
    go_quiet ((go_at_call 97; exact Calls.quiet_of_same (zEh set _ v HV _)))
    rename_i nq;have AB:Hid (Touch g w (wr.drewN nq)):=yG (YN HT.out (JV g wr nq));have AA:=yG (zCb HB.out nq);clear HT HB x0 x1 y0;generalize wr.drewN nq=wd at *;have x0:=AA.out.cell 0;have x1:=AA.out.cell 1;have AC:∀q,(convert 22 9 (.slice (some ⟨b,off+at_,none⟩) (k-at_) (c-at_))).run Tryz.prog (wd.drewN q)=.ok (.string ⟨((l.drop at_).take (k-at_)).toArray⟩) (wd.drewN q):=fun q=>zMs HG.out HS.out (YN AB.out (JV g wd q)) at_ k (c-at_) AI hk
    go_wp2_with fail
    go_quiet (fail)
    go_wp2_with fail
    go_ret;have AH:=HE.out;refine⟨by rw[←HR.out]; rfl,YN AB.out (JV g wd _),?_⟩;rw[←AH];exact zCb AA.out _
  ·obtain rfl:k=l.length:=by omega
   have d0:decide ((l.length:Int)<(l.length:Int))=false:=by simp
   by_cases AK:at_<c
   ·have HE:Hid (l.length=at_+scan p (l.drop at_)):=yG (by rw[←HK.out,zNr]; rfl);have HR:Hid (((l.drop at_).take (l.length-at_)).toArray=((l.drop at_).take (scan p (l.drop at_))).toArray):=yG (by rw[show l.length-at_=scan p (l.drop at_) from by have:=HE.out; omega])
    have hw:IntKind.i64.wrap ((l.length:Int)-(at_:Int))=(l.length:Int)-(at_:Int):=by rw[IntKind.wrap_i64]; omega
    go_wp2_with fail
    go_quiet (fail)
    rename_i nq;have AB:Hid (Touch g w (wr.drewN nq)):=yG (YN HT.out (JV g wr nq));have AA:=yG (zCb HB.out nq);clear HT HB x0 x1 y0;generalize wr.drewN nq=wd at *;have x0:=AA.out.cell 0;have x1:=AA.out.cell 1;have AC:∀q,(convert 22 9 (.slice (some ⟨b,off+at_,none⟩) (l.length-at_) (c-at_))).run Tryz.prog (wd.drewN q)=.ok (.string ⟨((l.drop at_).take (l.length-at_)).toArray⟩) (wd.drewN q):=fun q=>zMs HG.out HS.out (YN AB.out (JV g wd q)) at_ l.length (c-at_) AI hk
    go_wp2_with fail
    go_quiet (fail)
    go_wp2_with fail
    go_ret;have AH:=HE.out;refine⟨by rw[←HR.out]; rfl,YN AB.out (JV g wd _),?_⟩;rw[←AH];exact zCb AA.out _
   ·obtain rfl:at_=l.length:=by omega
    obtain rfl:c=l.length:=by omega
    have HZ:Hid (scan p (l.drop l.length)=0):=yG (zNr p l)
    have hw:IntKind.i64.wrap ((l.length:Int)-(l.length:Int))=(l.length:Int)-(l.length:Int):=by rw[IntKind.wrap_i64]; omega
    have AC:∀W,(convert 22 9 (.slice (some ⟨b,off,none⟩) 0 0)).run Tryz.prog W=.ok (.string ⟨#[]⟩) W:=fun W=>run_convert_bytes_back (P:=Tryz.prog) W 22 9 5 ⟨b,off,none⟩ 0 [] Tryz.underlying22 Tryz.underlying5 Tryz.underlying9 (fun j hj=>by simp at hj)
    go_wp2_with fail
    go_quiet (fail)
    rename_i nq;have AB:Hid (Touch g w (wr.drewN nq)):=yG (YN HT.out (JV g wr nq));have AA:=yG (zCb HB.out nq);clear HT HB x0 x1 y0;generalize wr.drewN nq=wd at *;have x0:=AA.out.cell 0;have x1:=AA.out.cell 1
    go_wp2_with fail
    go_quiet (fail)
    go_wp2_with fail
    go_ret;refine⟨by rw[HZ.out]; rfl,YN AB.out (JV g wd _),?_⟩;rw[HZ.out];exact zCb AA.out _
def zR8:ByteArray:=⟨#[97,98,99,100,101,102,103,104,105,106,107,108,109,110,111,112,113,114,115,116,117,118,119,120,121,122]⟩
def zT5:ByteArray:=⟨#[97,98,99,100,101,102,103,104,105,106,107,108,109,110,111,112,113,114,115,116,117,118,119,120,121,122,48,49,50,51,52,53,54,55,56,57,95]⟩
theorem zNm (set:ByteArray)(p:UInt8→Bool)(h:((List.range 256).all fun n=>decide (0≤zL1 set (n:Int))==p (UInt8.ofNat n))=true):zAn set p:=by
 intro c;have h1:=List.all_eq_true.1 h c.toNat (List.mem_range.2 c.toNat_lt);rw[UInt8.ofNat_toNat] at h1;rw[zO] at h1;rw[←h1]
 simp
def zUN (c:UInt8):Bool:=JC (c.toNat:Int)
def zG4 (c:UInt8):Bool:=zD4 (c.toNat:Int)
theorem zKE:zAn zR8 zUN:=zNm _ _ (by decide +kernel)
theorem zOH:zAn zT5 zG4:=zNm _ _ (by decide +kernel)
theorem zSi (s:ByteArray)(w:World):∃c w',(convert 9 22 (.string s)).run Tryz.prog w=.ok (.slice (some ⟨w.heap.size,0,none⟩) s.size c) w'∧Ext w w'∧Cells w' (some ⟨w.heap.size,0,none⟩) (zDH s.data.toList)∧s.size≤c∧w'.heap.size=w.heap.size+1:=by
 refine⟨_,_,run_bytes_of_string w 9 22 5 s Tryz.underlying9 Tryz.underlying22 Tryz.underlying5,Ext.trans (Below.drew (Below.refl _ _)) (Ext.alloc _ _),?_,grownCap_ge w s.size 0 5,by simp⟩
 by_cases h0:s.data.toList=[]
 ·left; rw[h0]; rfl
 ·right
  refine⟨_,0,rfl,by simp,fun k hk=>?_⟩;rw[zCa] at hk
  have AA:k<s.data.size:=by simpa using hk
  rw[Nat.zero_add];refine(cell_of_row (w.drew.alloc (.cells (bytesRow s (grownCap w s.size 0 5)) 5 ((bytesRow s (grownCap w s.size 0 5)).size,(bytesRow s (grownCap w s.size 0 5)).size+1))) w.drew.heap.size k _ _ _ (zQ w.drew _)).trans ?_;rw[bytesRow_at s _ k AA,zGh _ k hk]
  simp
theorem zG7 (s:ByteArray)(c v:Int)(h:Hid (zL1 s c=v))(w:World):Calls Tryz.prog 97 #[.string s,.int .u8 c] w fun e w'=>e=.returned (.int .i64 v)∧w=w':=
 (zEh s c v h w).mono fun e w' h=>⟨h.1,h.2.symm⟩
theorem zR2 (p:UInt8→Bool)(l:List UInt8)(h:l.all p=true):scan p l=l.length:=by
 induction l with
 | nil=>rfl
 | cons a l ih=>
  unfold scan at *;rw[List.all_cons,zG] at h;rw[List.takeWhile_cons,if_pos h.1,zK,zK,ih h.2]
theorem zSs (p:UInt8→Bool)(l:List UInt8)(h:l.all p=false):scan p l<l.length:=by
 induction l with
 | nil=>cases h
 | cons a l ih=>
  unfold scan at *;rw[List.takeWhile_cons];rw[List.all_cons] at h
  cases hp:p a with
  | true=>rw[hp,Bool.true_and] at h; rw[if_pos rfl,zK,zK]; have:=ih h; omega
  | false=>rw[if_neg (by decide)]; simp
theorem zOq (s:ByteArray)(w:World)(hs:s.size≤9000):Calls Tryz.prog 118 #[.string s] w fun e w'=>e=.returned (.bool (VM s.data.toList))∧Ext w w':=by
 have AC:zR8=⟨#[97,98,99,100,101,102,103,104,105,106,107,108,109,110,111,112,113,114,115,116,117,118,119,120,121,122]⟩:=rfl
 by_cases h0:s.data.toList=[]
 ·have HR:Hid (VM s.data.toList=false):=yG (by rw[h0]; rfl)
  have e1:s.toList=[]:=by rw[ByteArray.toList_eq]; exact h0
  go_enter Tryz.func118,Tryz.ntmps118
  go_wp2_with fail
  go_ret;exact⟨jN HR.out.symm,Ext.refl _⟩
 ·have hp:0<s.size:=by
   rw[Lib.size_eq];exact List.length_pos_iff.2 h0
  have e1:¬s.toList=[]:=by rw[ByteArray.toList_eq]; exact h0
  have e2:s.toList.isEmpty=false:=by simpa using e1
  have H0:=yG h0;clear h0;clear AC
  have hz:s.data.toList=s[0]::s.data.toList.tail:=by
   have h1:s.data.toList.head?=some s[0]:=by
    rw[List.head?_eq_getElem?];simp[ByteArray.getElem_eq_getElem_data]
   cases hl:s.data.toList with
   | nil=>exact absurd hl H0.out
   | cons a r=>rw[hl] at h1; simp at h1; rw[h1]; rfl
  have AA:Hid (VM s.data.toList=(JC (s[0].toNat:Int)&&s.data.toList.tail.all zG4)):=yG (by rw[hz]; rfl);obtain⟨v,HV⟩:∃v,Hid (zL1 zR8 (s[0].toNat:Int)=v):=⟨_,yG rfl⟩
  cases hl:JC (s[0].toNat:Int) with
  | false=>
   have AJ:v<0:=by
    have:=zKE s[0]
    rw[HV.out] at this;unfold zUN at this;rw[hl] at this
    by_cases h:0≤v
    ·exact absurd (this.1 h) (by decide)
    ·omega
   have d1:decide (v<0)=true:=yS AJ;have HR:Hid (VM s.data.toList=false):=yG (by rw[AA.out,hl]; rfl);clear hl hz
   go_enter Tryz.func118,Tryz.ntmps118
   go_wp2_with (refine(zG7 zR8 _ v HV w).mono ?_; rintro e w' ⟨rfl,rfl⟩)
   go_ret;exact⟨jN HR.out.symm,Ext.refl _⟩
  | true=>
   have AJ:0≤v:=by rw[←HV.out]; exact(zKE s[0]).2 hl
   have d1:decide (v<0)=false:=yR (by omega);obtain⟨c,w1,AD,AH,AG,AP,AK⟩:=zSi s w;have AN:=yG AH;have AO:=yG AG;have AR:=yG AK;have HL:=yG hl;have HZ:=yG hz;have AE:=Blk.new w1 146 #[.slice (some ⟨w.heap.size,0,none⟩) s.size c,.int .i64 0];have AF:=Ext.alloc w1 (.cells #[.slice (some ⟨w.heap.size,0,none⟩) s.size c,.int .i64 0] 146);have AQ:=yG AE;have AI:=yG AF;clear AH AG AK hl AE AF hz
   go_enter Tryz.func118,Tryz.ntmps118
   go_wp2_with (refine(zG7 zR8 _ v HV w).mono ?_; rintro e w' ⟨rfl,rfl⟩)
   refine(zEY zT5 zG4 zOH w1.heap.size w.heap.size 0 s.size c 0 s.data.toList _ (by rw[Lib.size_eq]) AP (by rw[←Lib.size_eq]; omega) (zW _) AQ.out (AO.out.ext AI.out)).mono ?_;rintro e w2 ⟨rfl,ht,-⟩;have AL:Hid (Ext w w2):=yG (ht.ext (AN.out.trans AI.out) (by have:=AR.out; omega));clear ht;obtain⟨xs,AB⟩:∃xs:ByteArray,Hid ((⟨((s.data.toList.drop 0).take (scan zG4 (s.data.toList.drop 0))).toArray⟩:ByteArray)=xs):=⟨_,yG rfl⟩;rw[AB.out]
   cases hal:s.data.toList.tail.all zG4 with
   | true=>
    have HR:Hid (VM s.data.toList=true):=yG (by rw[AA.out,HL.out,hal]; rfl)
    have AM:xs=s:=by
     rw[←AB.out,List.drop_zero,zR2 zG4 _ (by rw[HZ.out,List.all_cons,hal,Bool.and_true]; unfold zG4 zD4; rw[HL.out]; rfl),List.take_length]
    subst AM
    go_wp2_with fail
    go_ret;exact⟨jN HR.out.symm,AL.out⟩
   | false=>
    have HR:Hid (VM s.data.toList=false):=yG (by rw[AA.out,HL.out,hal]; rfl)
    have AS:(xs.toList==s.toList)=false:=by
     rw[yI];intro h;have h2:=congrArg List.length h;rw[←AB.out,ByteArray.toList_eq,ByteArray.toList_eq] at h2;have h3:=zSs zG4 s.data.toList (by rw[HZ.out,List.all_cons,hal,Bool.and_false])
     simp at h2 h3
     omega
    go_wp2_with fail
    go_ret;exact⟨jN HR.out.symm,AL.out⟩
end Go.Proofs.YtbadjmmjbpeocaaGreat.TT
