/- Nodes of the document's forms are as the readings of names want them. (and what follows of it). The conditions stand at each lemma. -/
import Derived.Test.YtbadjmmjbpeocaaGreatJaa
import Derived.Test.YtbadjmmjbpeocaaGreatJac
import Derived.Test.YtbadjmmjbpeocaaGreatJbb
import Derived.Test.YtbadjmmjbpeocaaGreatJaf
import Derived.Test.YtbadjmmjbpeocaaGreatJaj
import Derived.Test.YtbadjmmjbpeocaaGreatJat
import Derived.Deep.Cut
import Derived.Test.YtbadjmmjbpeocaaGreatJah
set_option linter.unusedVariables false
set_option linter.unusedSimpArgs false
set_option maxRecDepth 100000
set_option maxHeartbeats 16000000
namespace Go.Proofs.YtbadjmmjbpeocaaGreat
theorem zMj {g:Nat→Int}{ks:List Nat}{u:Int}(h:isR (ks.map g) [u]=true):∃a,ks=[a]∧jJ u (g a)=true:=by
 unfold isR at h
 match ks with
 | []=>simp at h
 | [a]=>exact⟨a,rfl,by simpa using h⟩
 | a::b::l=>simp at h
theorem zLA {g:Nat→Int}{ks:List Nat}{u v:Int}(h:isR (ks.map g) [u,v]=true):∃a b,ks=[a,b]∧jJ u (g a)=true∧jJ v (g b)=true:=by
 unfold isR at h
 match ks with
 | []=>simp at h
 | [a]=>simp at h
 | [a,b]=>exact⟨a,b,rfl,by simpa [List.range_succ] using h⟩
 | a::b::c::l=>simp at h
theorem zRP {g:Nat→Int}{ks:List Nat}{u v x:Int}(h:isR (ks.map g) [u,v,x]=true):∃a b c,ks=[a,b,c]∧jJ u (g a)=true∧jJ v (g b)=true∧jJ x (g c)=true:=by
 unfold isR at h
 match ks with
 | []=>simp at h
 | [a]=>simp at h
 | [a,b]=>simp at h
 | [a,b,c]=>exact⟨a,b,c,rfl,by simpa [List.range_succ,and_assoc] using h⟩
 | a::b::c::d::l=>simp at h
theorem zVa {g:Nat→Int}{ks:List Nat}{u v x y:Int}(h:isR (ks.map g) [u,v,x,y]=true):∃a b c d,ks=[a,b,c,d]∧jJ u (g a)=true∧jJ v (g b)=true∧jJ x (g c)=true∧jJ y (g d)=true:=by
 unfold isR at h
 match ks with
 | []=>simp at h
 | [a]=>simp at h
 | [a,b]=>simp at h
 | [a,b,c]=>simp at h
 | [a,b,c,d]=>exact⟨a,b,c,d,rfl,by simpa [List.range_succ,and_assoc] using h⟩
 | a::b::c::d::e::l=>simp at h
theorem zAw {k:Nat}(h:jJ 0 (k:Int)=true):zLF k:=by
 unfold jJ VS at h;rw[if_pos rfl] at h;simp only[zG,zF] at h;exact⟨by omega,by omega⟩
theorem JZ {k:Nat}{w:Int}(hw:w≠0)(h:jJ w (k:Int)=true):(k:Int)=w:=by
 unfold jJ at h;rw[if_neg hw] at h
 simpa using h
theorem zSM {t:List Nd}{i:Nat}(h1:(yZ t i).kind≠1)(h4:(yZ t i).kind≠4)(h:ZB ((yZ t i).kind:Int) ((yZ t i).kids.map fun k=>((yZ t k).kind:Int))=true):zCs t i:=by
 unfold zCs;generalize (yZ t i).kids=ks at *;obtain⟨x,hx⟩:∃x,(yZ t i).kind=x:=⟨_,rfl⟩;rw[hx] at h h1 h4 ⊢
 have AB:x=2∨x=3∨x=6∨x=7∨x=8∨x=9∨x=10∨x=11∨x=12∨x=13∨x=14∨x=15∨x=16∨x=17∨x=18∨x=19∨x=20∨x=21∨x=22∨x=23∨x=24∨x=25∨x=26∨x=0∨x=5∨27≤x:=by omega
 unfold ZB at h
 rcases AB with rfl | rfl | rfl | rfl | rfl | rfl | rfl | rfl | rfl | rfl | rfl | rfl | rfl | rfl | rfl | rfl | rfl | rfl | rfl | rfl | rfl | rfl | rfl | rfl | rfl | AC
 ·trivial
 ·obtain⟨a,b,hk,_,hb⟩:=zLA (show isR _ [4,6]=true by simpa using h);exact⟨a,b,hk,by have:=JZ (by decide) hb; omega⟩
 ·have h':zDk (ks.map fun k=>((yZ t k).kind:Int)) 0 1=true:=by simpa using h
  unfold zDk at h';simp only[List.drop_zero,List.all_map,zH] at h';intro k hk
  have:=h' k hk
  simp[zJ4,zAW] at this;omega
 ·obtain⟨a,b,hk,ha,_⟩:=zLA (show isR _ [20,5]=true by simpa using h);exact⟨a,b,hk,by have:=JZ (by decide) ha; omega⟩
 ·obtain⟨a,b,c,hk,ha,_,hc⟩:=zRP (show isR _ [20,5,0]=true by simpa using h);exact⟨a,b,c,hk,by have:=JZ (by decide) ha; omega,zAw hc⟩
 ·have h':decide (1<(ks.map fun k=>((yZ t k).kind:Int)).length)&&((ks.map fun k=>((yZ t k).kind:Int)).getD 0 0==20&&zDk (ks.map fun k=>((yZ t k).kind:Int)) 1 0)=true:=by simpa using h
  match ks with
  | []=>simp at h'
  | a::l=>
   simp[zDk,zJ4] at h';refine⟨a,l,rfl,by omega,fun k hk=>?_⟩
   have:=h'.2.2 k hk
   simp[VS] at this;exact⟨by omega,by omega⟩
 ·obtain⟨a,hk,ha⟩:=zMj (show isR _ [20]=true by simpa using h);exact⟨a,hk,by have:=JZ (by decide) ha; omega⟩
 ·obtain⟨a,b,hk,_,_⟩:=zLA (show isR _ [5,5]=true by simpa using h);exact⟨a,b,hk⟩
 ·obtain⟨a,hk,ha⟩:=zMj (show isR _ [5]=true by simpa using h);exact⟨a,hk,.inl (by have:=JZ (by decide) ha; omega)⟩
 ·have h':(isR (ks.map fun k=>((yZ t k).kind:Int)) [5]||isR (ks.map fun k=>((yZ t k).kind:Int)) [20])=true:=by simpa using h
  rw[Bool.or_eq_true] at h'
  rcases h' with h' | h'
  ·obtain⟨a,hk,ha⟩:=zMj h';exact⟨a,hk,.inl (by have:=JZ (by decide) ha; omega)⟩
  ·obtain⟨a,hk,ha⟩:=zMj h';exact⟨a,hk,.inr (by have:=JZ (by decide) ha; omega)⟩
 ·have h':(isR (ks.map fun k=>((yZ t k).kind:Int)) [0,0,6]||isR (ks.map fun k=>((yZ t k).kind:Int)) [0,0,6,6])=true:=by simpa using h
  rw[Bool.or_eq_true] at h'
  rcases h' with h' | h'
  ·obtain⟨a,b,c,hk,ha,hb,hc⟩:=zRP h';refine⟨a,b,[c],hk,zAw ha,zAw hb,fun k hm=>?_⟩;rw[List.mem_singleton.1 hm]
   have:=JZ (by decide) hc
   omega
  ·obtain⟨a,b,c,d,hk,ha,hb,hc,hd⟩:=zVa h';refine⟨a,b,[c,d],hk,zAw ha,zAw hb,fun k hm=>?_⟩;have hc:=JZ (by decide) hc;have hd:=JZ (by decide) hd
   have AA:k=c∨k=d:=by simpa using hm
   rcases AA with rfl | rfl <;> omega
 ·obtain⟨a,b,c,hk,_,_,hc⟩:=zRP (show isR _ [21,21,6]=true by simpa using h);exact⟨a,b,c,hk,by have:=JZ (by decide) hc; omega⟩
 ·obtain⟨a,hk,ha⟩:=zMj (show isR _ [0]=true by simpa using h);exact⟨a,hk,zAw ha⟩
 ·obtain⟨a,hk,ha⟩:=zMj (show isR _ [0]=true by simpa using h);exact⟨a,hk,zAw ha⟩
 ·show ks=[]
  simpa using h
 ·show ks=[]
  simpa using h
 ·obtain⟨a,hk,ha⟩:=zMj (show isR _ [0]=true by simpa using h);exact⟨a,hk,zAw ha⟩
 ·intro k hk
  have:ks=[]:=by simpa using h
  rw[this] at hk
  cases hk
 ·intro k hk
  have:ks=[]:=by simpa using h
  rw[this] at hk
  cases hk
 ·obtain⟨a,b,hk,ha,hb⟩:=zLA (show isR _ [0,0]=true by simpa using h);intro k hm;rw[hk] at hm
  have AA:k=a∨k=b:=by simpa using hm
  rcases AA with rfl | rfl
  ·exact zAw ha
  ·exact zAw hb
 ·obtain⟨a,b,hk,ha,hb⟩:=zLA (show isR _ [0,0]=true by simpa using h);intro k hm;rw[hk] at hm
  have AA:k=a∨k=b:=by simpa using hm
  rcases AA with rfl | rfl
  ·exact zAw ha
  ·exact zAw hb
 ·obtain⟨a,b,hk,ha,hb⟩:=zLA (show isR _ [0,0]=true by simpa using h);intro k hm;rw[hk] at hm
  have AA:k=a∨k=b:=by simpa using hm
  rcases AA with rfl | rfl
  ·exact zAw ha
  ·exact zAw hb
 ·obtain⟨a,hk,ha⟩:=zMj (show isR _ [0]=true by simpa using h);intro k hm;rw[hk] at hm;rw[List.mem_singleton.1 hm];exact zAw ha
 ·intro k hk
  have:ks=[]:=by simpa using h
  rw[this] at hk
  cases hk
 ·intro k hk
  have:ks=[]:=by simpa using h
  rw[this] at hk
  cases hk
 ·have hl:ks=[]:=by
   rw[if_neg (by omega),if_neg (by omega),if_neg (by omega),if_neg (by omega),if_neg (by omega),if_neg (by omega),if_neg (by omega),if_neg (by omega),if_neg (by omega),if_neg (by omega),if_neg (by omega),if_neg (by omega),if_neg (by omega),if_neg (by omega),if_neg (by omega),if_neg (by omega)] at h
   simpa using h
  subst hl
  split <;> first | omega | (intro k hk; cases hk)
theorem zKV {t:List Nd}{i:Nat}(h:t.length≤i):(yZ t i).kids=[]:=by unfold yZ; rw[yH,zM h]; rfl
theorem zK5 {t:List Nd}(hr:∀i,i<t.length→∀k ∈ (yZ t i).kids,i<k∧k<t.length)(hf:∀i,i<t.length→ZB ((yZ t i).kind:Int) ((yZ t i).kids.map fun k=>((yZ t k).kind:Int))=true):zBU t:=
 ⟨fun i k hk=>(Nat.lt_or_ge i t.length).elim (fun h=>hr i h k hk) (fun h=>absurd hk (by rw[zKV h]; exact List.not_mem_nil)),fun i hi h1 h4=>zSM h1 h4 (hf i hi)⟩
theorem zPm {t:List Nd}(h1:(yZ t 0).kind=1)(hf:ZB ((yZ t 0).kind:Int) ((yZ t 0).kids.map fun k=>((yZ t k).kind:Int))=true):∀k ∈ (yZ t 0).kids,(yZ t k).kind=2∨(yZ t k).kind=3:=fun k hk=>by
 rw[h1] at hf;unfold ZB at hf;rw[if_pos (by decide)] at hf;have h2:=List.all_eq_true.1 hf ((yZ t k).kind:Int) (List.mem_map.2 ⟨k,hk,rfl⟩);simp[zBH] at h2;omega
end Go.Proofs.YtbadjmmjbpeocaaGreat
namespace Go.Proofs.YtbadjmmjbpeocaaGreat
open Go Go.RowKit
theorem zFV {L:List TT.xU}{i:Nat}(h:i<L.length):yZ (tN (txM L)) i=(zK8 L[i]).1:=by
 rw[zBw (by rw[JF]; exact h)];simp only[txM,zA]
structure zRR (L:List TT.xU):Prop where
 pos:0<L.length
 nodes:∀x ∈ L,zGU x
 right:zBU (tN (txM L))
 roots:∀k ∈ (yZ (tN (txM L)) 0).kids,(yZ (tN (txM L)) k).kind=2∨(yZ (tN (txM L)) k).kind=3
theorem zO4 {L:List TT.xU}(h:TT.XJ L=true)(hsm:∀x ∈ L,TT.zEF x):zRR L:=by
 rw[TT.zKj] at h;unfold TT.zLi at h;simp only[zG,zF,zO] at h;obtain⟨h0,h1,h2,h3,h4⟩:=h;rw[TT.zDX] at h2;have hk:∀i (hi:i<L.length),∀k ∈ L[i].kids,(i:Int)<k∧k<(L.length:Int):=fun i hi k hk=>h2 i hi k (by rw[TT.zDq L i hi]; exact hk)
 have AF:∀x ∈ L,1≤x.kind∧ZB x.kind (TT.jX L x.kids)=true:=fun x hx=>by
  have:=List.all_eq_true.1 h4 x hx
  unfold TT.zMy at this;simp only[zG,zF] at this;exact⟨this.1,this.2.2.2⟩
 have AB:∀x ∈ L,zGU x:=fun x hx=>by
  obtain⟨i,hi,rfl⟩:=List.getElem_of_mem hx;refine⟨by have:=(AF _ hx).1; omega,fun k AE=>by have:=hk i hi k AE; omega,?_⟩
  have:=(hsm _ hx).text
  unfold maxLen;omega
 have AC:∀i (hi:i<L.length),(yZ (tN (txM L)) i).kids=L[i].kids.map Int.toNat:=fun i hi=>by rw[zFV hi]; rfl
 have AA:∀i (hi:i<L.length),((yZ (tN (txM L)) i).kind:Int)=L[i].kind:=fun i hi=>by
  rw[zFV hi];exact Int.toNat_of_nonneg (AB _ (yO hi)).kind
 have AD:(tN (txM L)).length=L.length:=by rw[JO,JF]
 have hf:∀i,i<(tN (txM L)).length→ZB ((yZ (tN (txM L)) i).kind:Int) ((yZ (tN (txM L)) i).kids.map fun k=>((yZ (tN (txM L)) k).kind:Int))=true:=fun i hi=>by
  rw[AD] at hi
  have e:(yZ (tN (txM L)) i).kids.map (fun k=>((yZ (tN (txM L)) k).kind:Int))=TT.jX L L[i].kids:=by
   rw[AC i hi,List.map_map];unfold TT.jX;apply List.map_congr_left;intro k AE
   have:=hk i hi k AE
   obtain⟨a,rfl⟩:∃a:Nat,k=(a:Int):=⟨k.toNat,by omega⟩
   have ha:a<L.length:=by omega
   simp only[Function.comp,zI];rw[AA a ha,TT.zB9 ha]
  rw[e,AA i hi];exact(AF _ (yO hi)).2
 have hr:∀i,i<(tN (txM L)).length→∀k ∈ (yZ (tN (txM L)) i).kids,i<k∧k<(tN (txM L)).length:=fun i hi k AE=>by
  rw[AD] at hi ⊢;rw[AC i hi] at AE;obtain⟨z,hz,rfl⟩:=List.mem_map.1 AE
  have:=hk i hi z hz
  omega
 refine⟨h0,AB,zK5 hr hf,zPm ?_ (hf 0 (by rw[AD]; exact h0))⟩
 have e:((yZ (tN (txM L)) 0).kind:Int)=1:=by
  rw[AA 0 h0,←TT.zB9 h0];exact h1
 omega
theorem zMq (A:Option Addr)(l:Bs)(n c:Nat)(hn:n=l.length)(tA:Option Addr)(L:List TT.xU)(m tc:Nat)(hm:m=L.length)(w:World)(hbig:l.length≤140737488355328)(hcap:l.length≤c)(hC:Cells w A (vE l))(ht:TT.zA2 w tA L)(hz:tA=none→tc=0)(hlen:L.length≤9000)(hsm:∀x ∈ L,TT.zEF x)(hpos:∀x ∈ L,-9223372036854775808≤x.pos∧x.pos≤9223372036854775807) :
  Calls Tryz.prog 22 #[.slice A n c,.agg #[.slice tA m tc]] w fun e w'=>if TT.XJ L=true then zRR L∧zLH l L w (jM (tN (txM L))) e w' else e=.returned (.tuple #[.agg XG,.iface 75 (.int .i64 2)])∧Ext w w':=by
 cases hr:TT.XJ L with
 | true=>
  have hx:=zO4 hr hsm;refine(zOb A l n c hn tA L m tc hm w hbig hcap hC ht hz hlen hx.pos hsm hx.nodes hr hx.right hx.roots hpos fun i e=>zLP i e).mono fun e w' h=>?_;rw[if_pos rfl];exact⟨hx,h⟩
 | false=>
  refine(zOo A l n c hn tA L m tc hm w ht hlen hsm hr).mono fun e w' h=>?_;rw[if_neg (by decide)];exact h
theorem zNj {w:World}{B:Nat}{t:TypeId}{s n m c:Nat}{A:Option Addr}{xs:List Value}(h:w.ownsRow B t s (.slice A m c) n xs):A=none→c=0:=fun e=>by
 subst e
 rcases h.2 with ⟨hv,_⟩ | ⟨g,_,_,hv,_⟩
 ·injection hv
 ·injection hv with h1; cases h1
def toT (x:Nd × Hd2):TT.xU:=⟨x.1.kind,x.1.pos,xG x.1.text,x.1.num,x.2.1,x.2.2,x.1.kids.map fun (k:Nat)=>(k:Int)⟩
theorem zQp (x:Nd × Hd2):(toT x).cells=YM x:=by simp[toT,TT.xU.cells,YM]
theorem zTd (l:List Nat):ints l=TT.jP (l.map fun (k:Nat)=>(k:Int)):=by simp[ints,TT.jP]
theorem NS.toT {w:World}{B:Nat}{A:Option Addr}{c:Nat}{nh:List (Nd × Hd2)}(h:NS w B 38 3 A c nh)(hk:∀x ∈ nh,x.1.kind<256 ∧ -9223372036854775808≤x.1.num∧x.1.num≤9223372036854775807):TT.zA2 w A (nh.map Proofs.YtbadjmmjbpeocaaGreat.toT):=by
 refine⟨?_,fun x hx=>?_⟩
 ·have e:TT.YK (nh.map Proofs.YtbadjmmjbpeocaaGreat.toT)=ncs nh:=by
   unfold TT.YK ncs;rw[List.flatMap_map]
   congr 1
   funext x
   exact zQp x
  rw[e];exact Cells.own h.row
 ·obtain⟨y,hy,rfl⟩:=List.mem_map.1 hx;obtain⟨h1,h2,h3⟩:=hk y hy;refine⟨⟨Int.natCast_nonneg _,by show((y.1.kind:Nat):Int)<256; omega⟩,⟨h2,h3⟩,?_,zNj (h.kids y hy)⟩
  have:=Cells.own (h.kids y hy)
  rw[zTd] at this;exact this
theorem zSJ (x:Nd × Hd2):(zK8 (toT x)).1=x.1:=by
 obtain⟨⟨k,p,t,n,ks⟩,A,c⟩:=x;simp[zK8,toT,xG,List.map_map,Function.comp_def]
theorem zOB (nh:List (Nd × Hd2)):tN (txM (nh.map toT))=nh.map Prod.fst:=by
 unfold tN txM;rw[List.map_map,List.map_map];apply List.map_congr_left;intro x _;exact zSJ x
end Go.Proofs.YtbadjmmjbpeocaaGreat
namespace Go.Proofs.YtbadjmmjbpeocaaGreat
def zHD (t:List Nd)(ks:List (List Int)):Prop:=ks.length=t.length∧∀i,ks.getD i []=(yZ t i).kids.map fun (k:Nat)=>(k:Int)
theorem zGB {t:List Nd}{g:Nat→Option Nat}{len:Nat}(hg:∀a e,g a=some e→a<e∧∀j,Sub t a j↔a≤j∧j<e):∀(l:List Nat) (a0 e:Nat),TT.zCG g len (l.map fun (k:Nat)=>(k:Int)) (some a0)=some e →
  a0≤e∧(∀j,(∃k ∈ l,Sub t k j)↔a0≤j∧j<e)∧l.Pairwise (fun a b=>a<b∧∀j,Sub t a j→¬Sub t b j)
 | [],a0,e,h=>by
  injection h with h;subst h;exact⟨zX _,fun j=>⟨fun ⟨k,hk,_⟩=>(by cases hk),fun h=>(by omega)⟩,List.Pairwise.nil⟩
 | k::l,a0,e,h=>by
  rw[List.map_cons,TT.VT] at h
  split at h
  ·rename_i hc;obtain⟨AD,hk⟩:=hc
   have hk:k=a0:=by omega
   subst hk
   cases ha:g k with
   | none=>rw[ha,TT.zAv] at h; cases h
   | some a1=>
    rw[ha] at h;obtain⟨h1,h2⟩:=hg k a1 ha;obtain⟨r1,r2,r3⟩:=zGB hg l a1 e h;refine⟨by omega,fun j=>⟨fun ⟨x,hx,hs⟩=>?_,fun hj=>?_⟩,List.Pairwise.cons (fun b hb=>?_) r3⟩
    ·rcases List.mem_cons.1 hx with rfl | hx
     ·have:=(h2 j).1 hs; omega
     ·have:=(r2 j).1 ⟨x,hx,hs⟩; omega
    ·by_cases AA:j<a1
     ·exact⟨k,List.mem_cons_self ..,(h2 j).2 ⟨hj.1,AA⟩⟩
     ·obtain⟨x,hx,hs⟩:=(r2 j).2 ⟨by omega,hj.2⟩;exact⟨x,List.mem_cons_of_mem _ hx,hs⟩
    ·have AC:=(r2 b).1 ⟨b,hb,.self b⟩;refine⟨by omega,fun j hs AB=>?_⟩;have e1:=(h2 j).1 hs;have e2:=(r2 j).1 ⟨b,hb,AB⟩;omega
  ·cases h
theorem zFW {t:List Nd}{ks:List (List Int)}(hk:zHD t ks):∀(f i e:Nat),TT.zFv ks f i=some e→i<e∧∀j,Sub t i j↔i≤j∧j<e
 | 0,i,e,h=>by cases h
 | f+1,i,e,h=>by
  unfold TT.zFv at h
  split at h
  ·rw[hk.2 i] at h;obtain⟨r1,r2,_⟩:=zGB (fun a e ha=>zFW hk f a e ha) _ _ _ h;refine⟨by omega,fun j=>⟨fun hs=>?_,fun hj=>?_⟩⟩
   ·cases hs with
    | self=>omega
    | kid hm hs=>have:=(r2 j).1 ⟨_,hm,hs⟩; omega
   ·by_cases AA:j=i
    ·subst AA; exact .self j
    ·obtain⟨k,hm,hs⟩:=(r2 j).2 (by omega);exact .kid hm hs
  ·cases h
theorem zNP {t:List Nd}{ks:List (List Int)}(hk:zHD t ks){f i e:Nat}(h:TT.zFv ks f i=some e):(yZ t i).kids.Pairwise (fun a b=>a<b∧∀j,Sub t a j→¬Sub t b j):=by
 cases f with
 | zero=>cases h
 | succ f=>
  unfold TT.zFv at h
  split at h
  ·rw[hk.2 i] at h;exact(zGB (fun a e ha=>zFW hk f a e ha) _ _ _ h).2.2
  ·cases h
structure zU1 (t:List Nd):Prop where
 flat:∀i,i<t.length→(yZ t i).kind=5∨(yZ t i).kind=21→(yZ t i).kids=[]
 f7:∀i,i<t.length→(yZ t i).kind=7→∀a b,(yZ t i).kids=[a,b]→(yZ t b).kind=5
 f8:∀i,i<t.length→(yZ t i).kind=8→∀a b c,(yZ t i).kids=[a,b,c]→(yZ t b).kind=5
 f11:∀i,i<t.length→(yZ t i).kind=11→∀a b,(yZ t i).kids=[a,b]→(yZ t a).kind=5∧(yZ t b).kind=5
 f15:∀i,i<t.length→(yZ t i).kind=15→∀a b c,(yZ t i).kids=[a,b,c]→(yZ t a).kind=21∧(yZ t b).kind=21
structure zTX (t:List Nd):Prop where
 two:∀i,i<t.length→(yZ t i).kind=3→∃a b,(yZ t i).kids=[a,b]∧(yZ t a).kind=4∧(yZ t b).kind=6
 words:∀i,i<t.length→(yZ t i).kind=4→∀k ∈ (yZ t i).kids,(yZ t k).kind=5
structure zRg (t:List Nd)(s:Nr)(j:Nat):Prop where
 tab:(yZ t j).kind=2→∃n:Nat,s.of.getD j (-1)=(n:Int)∧(s.xH[n]?).map (·.name)=some (yZ t j).text
 proc:(yZ t j).kind=3→∃(n:Nat) (p:Np),s.of.getD j (-1)=(n:Int)∧s.procs[n]?=some p∧p.name=(yZ t j).text∧p.root=j
structure zKr (t:List Nd)(s s':Nr):Prop where
 len:s'.of.length=s.of.length
 blocks:s'.blocks=s.blocks
 xH:∃e,s'.xH=s.xH++e
 procs:∃e,s'.procs=s.procs++e
 val:∀j,zRg t s j→zRg t s' j
theorem zKr.refl (t:List Nd)(s:Nr):zKr t s s:=⟨rfl,rfl,⟨[],by simp⟩,⟨[],by simp⟩,fun _ h=>h⟩
theorem zKr.trans {t:List Nd}{a b c:Nr}(h:zKr t a b)(k:zKr t b c):zKr t a c:=by
 obtain⟨e,he⟩:=h.xH;obtain⟨d,hd⟩:=k.xH;obtain⟨e1,AA⟩:=h.procs;obtain⟨d1,AB⟩:=k.procs;exact⟨k.len.trans h.len,k.blocks.trans h.blocks,⟨e++d,by rw[hd,he,List.append_assoc]⟩,⟨e1++d1,by rw[AB,AA,List.append_assoc]⟩,fun j hj=>k.val j (h.val j hj)⟩
theorem zPp {α:Type}{l e:List α}{n:Nat}{x:α}(h:l[n]?=some x):(l++e)[n]?=some x:=by
 obtain⟨h1,_⟩:=List.getElem?_eq_some_iff.1 h;rw[List.getElem?_append_left h1];exact h
theorem zRg.up {t:List Nd}{s s':Nr}{j:Nat}(h:zRg t s j)(ho:s'.of.getD j (-1)=s.of.getD j (-1))(ht:∃e,s'.xH=s.xH++e)(hp:∃e,s'.procs=s.procs++e):zRg t s' j:=by
 obtain⟨e,he⟩:=ht;obtain⟨d,hd⟩:=hp;refine⟨fun hk=>?_,fun hk=>?_⟩
 ·obtain⟨n,h1,h2⟩:=h.tab hk;refine⟨n,ho.trans h1,?_⟩
  cases hs:s.xH[n]? with
  | none=>rw[hs] at h2; cases h2
  | some x=>rw[he,zPp hs,←hs]; exact h2
 ·obtain⟨n,p,h1,h2,h3⟩:=h.proc hk;exact⟨n,p,ho.trans h1,by rw[hd]; exact zPp h2,h3⟩
structure zU2 (t:List Nd):Prop where
 R:zBU t
 C:zU1 t
 P:zTX t
 pos:0<t.length
 top:(yZ t 0).kind=1
 kids:∀k ∈ (yZ t 0).kids,(yZ t k).kind=2∨(yZ t k).kind=3
 zBW:∀i,i<t.length→(yZ t i).kind=2→∀c ∈ (yZ t i).kids,(yZ t c).kind=5
 all:∀j,j<t.length→Sub t 0 j
 apart:(yZ t 0).kids.Pairwise (fun a b=>a<b∧∀j,Sub t a j→¬Sub t b j)
end Go.Proofs.YtbadjmmjbpeocaaGreat
namespace Go.Proofs.YtbadjmmjbpeocaaGreat
open Go Go.RowKit
structure zF9 (t:List Nd):Prop where
 pos:0<t.length
 top:(yZ t 0).kind=1
 up:∀i,i<t.length→∀k ∈ (yZ t i).kids,i<k∧k<t.length
 ok:∀i,i<t.length→ZB ((yZ t i).kind:Int) ((yZ t i).kids.map fun k=>((yZ t k).kind:Int))=true
 le:∀i,i<t.length→(yZ t i).kind≤26
 ends:∃ks,zHD t ks∧TT.zBJ ks 0=some t.length
theorem zRQ {L:List TT.xU}(h:TT.XJ L=true)(hsm:∀x ∈ L,TT.zEF x):zF9 (tN (txM L)):=by
 have hX:=zO4 h hsm;rw[TT.zKj] at h;unfold TT.zLi at h;simp only[zG,zF,zO] at h;obtain⟨h0,h1,h2,h3,h4⟩:=h;rw[TT.zDX] at h2;have hk:∀i (hi:i<L.length),∀k ∈ L[i].kids,(i:Int)<k∧k<(L.length:Int):=fun i hi k hk=>h2 i hi k (by rw[TT.zDq L i hi]; exact hk)
 have AE:∀x ∈ L,x.kind≤26∧ZB x.kind (TT.jX L x.kids)=true:=fun x hx=>by
  have:=List.all_eq_true.1 h4 x hx
  unfold TT.zMy at this;simp only[zG,zF] at this;exact⟨this.2.1,this.2.2.2⟩
 have AC:∀i (hi:i<L.length),(yZ (tN (txM L)) i).kids=L[i].kids.map Int.toNat:=fun i hi=>by rw[zFV hi]; rfl
 have AA:∀i (hi:i<L.length),((yZ (tN (txM L)) i).kind:Int)=L[i].kind:=fun i hi=>by
  rw[zFV hi];exact Int.toNat_of_nonneg (hX.nodes _ (yO hi)).kind
 have AB:(tN (txM L)).length=L.length:=by rw[JO,JF]
 have hf:∀i,i<(tN (txM L)).length→ZB ((yZ (tN (txM L)) i).kind:Int) ((yZ (tN (txM L)) i).kids.map fun k=>((yZ (tN (txM L)) k).kind:Int))=true:=fun i hi=>by
  rw[AB] at hi
  have e:(yZ (tN (txM L)) i).kids.map (fun k=>((yZ (tN (txM L)) k).kind:Int))=TT.jX L L[i].kids:=by
   rw[AC i hi,List.map_map];unfold TT.jX;apply List.map_congr_left;intro k AD
   have:=hk i hi k AD
   obtain⟨a,rfl⟩:∃a:Nat,k=(a:Int):=⟨k.toNat,by omega⟩
   have ha:a<L.length:=by omega
   simp only[Function.comp,zI];rw[AA a ha,TT.zB9 ha]
  rw[e,AA i hi];exact(AE _ (yO hi)).2
 refine⟨by rw[AB]; exact h0,?_,fun i hi k AD=>hX.right.up i k AD,hf,fun i hi=>(by rw[AB] at hi; have h1:=AA i hi; have h2:=(AE _ (yO hi)).1; omega),TT.zBL L,⟨by rw[TT.XN,AB],fun i=>?_⟩,by rw[AB]; exact h3⟩
 ·have e:((yZ (tN (txM L)) 0).kind:Int)=1:=by
   rw[AA 0 h0,←TT.zB9 h0];exact h1
  omega
 ·by_cases hi:i<L.length
  ·rw[TT.zDq L i hi,AC i hi,List.map_map]
   have:∀(l:List Int),(∀k ∈ l,0≤k)→l=l.map ((fun (k:Nat)=>(k:Int)) ∘ Int.toNat):=fun l hl=>by
    conv=>lhs; rw[←List.map_id l]
    apply List.map_congr_left;intro k AD
    have:=hl k AD
    simp only[id,Function.comp];omega
   exact this _ fun k AD=>by have:=hk i hi k AD; omega
  ·rw[zKV (by omega)];unfold TT.zBL;rw[yH,zM (by rw[yQ]; omega)]
   rfl
theorem zF9.right {t:List Nd} (F:zF9 t):zBU t:=zK5 F.up F.ok
theorem zF9.is {t:List Nd} (F:zF9 t) {i:Nat}{x:Nat}(hi:i<t.length)(hk:(yZ t i).kind=x):ZB (x:Int) ((yZ t i).kids.map fun k=>((yZ t k).kind:Int))=true:=by have:=F.ok i hi; rwa [hk] at this
theorem zF9.cov {t:List Nd} (F:zF9 t):zU1 t:=by
 refine⟨fun i hi h=>?_,fun i hi h a b e=>?_,fun i hi h a b c e=>?_,fun i hi h a b e=>?_,fun i hi h a b c e=>?_⟩
 ·have:(yZ t i).kids.length=0:=by
   rcases h with h | h <;> · have:=F.is hi h; simpa [ZB] using this
  exact List.length_eq_zero_iff.1 this
 ·obtain⟨a',b',AA,_,hb⟩:=zLA (show isR _ [20,5]=true by have:=F.is hi h; simpa [ZB] using this);rw[e] at AA;injection AA with e1 e2;injection e2 with e2;subst e1; subst e2
  have:=JZ (by decide) hb
  omega
 ·obtain⟨a',b',c',AA,_,hb,_⟩:=zRP (show isR _ [20,5,0]=true by have:=F.is hi h; simpa [ZB] using this);rw[e] at AA;injection AA with e1 e2;injection e2 with e2;subst e1; subst e2
  have:=JZ (by decide) hb
  omega
 ·obtain⟨a',b',AA,ha,hb⟩:=zLA (show isR _ [5,5]=true by have:=F.is hi h; simpa [ZB] using this);rw[e] at AA;injection AA with e1 e2;injection e2 with e2;subst e1; subst e2;have h1:=JZ (by decide) ha;have h2:=JZ (by decide) hb;exact⟨by omega,by omega⟩
 ·obtain⟨a',b',c',AA,ha,hb,_⟩:=zRP (show isR _ [21,21,6]=true by have:=F.is hi h; simpa [ZB] using this);rw[e] at AA;injection AA with e1 e2;injection e2 with e2;subst e1; subst e2;have h1:=JZ (by decide) ha;have h2:=JZ (by decide) hb;exact⟨by omega,by omega⟩
theorem zKW {t:List Nd}{i:Nat}(h:zDk ((yZ t i).kids.map fun k=>((yZ t k).kind:Int)) 0 5=true):∀k ∈ (yZ t i).kids,(yZ t k).kind=5:=fun k hk=>by
 unfold zDk at h;simp only[List.drop_zero,List.all_map,zH] at h
 have:=h k hk
 simp[zJ4] at this;omega
theorem zF9.proc {t:List Nd} (F:zF9 t):zTX t:=by
 refine⟨fun i hi h=>?_,fun i hi h=>zKW (by have:=F.is hi h; simpa [ZB] using this)⟩;obtain⟨a,b,AA,ha,hb⟩:=zLA (show isR _ [4,6]=true by have:=F.is hi h; simpa [ZB] using this);have h1:=JZ (by decide) ha;have h2:=JZ (by decide) hb;exact⟨a,b,AA,by omega,by omega⟩
theorem zF9.tree {t:List Nd} (F:zF9 t):zU2 t:=by
 obtain⟨ks,hk,he⟩:=F.ends;obtain⟨h1,h2⟩:=zFW hk _ 0 _ he;refine⟨F.right,F.cov,F.proc,F.pos,F.top,zPm F.top (F.ok 0 F.pos),fun i hi h=>zKW ?_,fun j hj=>(h2 j).2 ⟨zW _,hj⟩,zNP hk he⟩
 have:=F.is hi h
 have:(decide (0<((yZ t i).kids.map fun k=>((yZ t k).kind:Int)).length)&&zDk ((yZ t i).kids.map fun k=>((yZ t k).kind:Int)) 0 5)=true:=by simpa [ZB] using this
 rw[zG] at this;exact this.2
theorem zGY {T:Nat→List Tm}{g:Nat→Option Nat}{len:Nat}(hT:∀a e,g a=some e→a+(T a).length≤e):∀(l:List Nat) (a0 e:Nat),TT.zCG g len (l.map fun (k:Nat)=>(k:Int)) (some a0)=some e→a0+(l.flatMap T).length≤e
 | [],a0,e,h=>by injection h with h; subst h; exact zX _
 | k::l,a0,e,h=>by
  rw[List.map_cons,TT.VT] at h
  split at h
  ·rename_i hc
   have hk:k=a0:=by omega
   subst hk
   cases ha:g k with
   | none=>rw[ha,TT.zAv] at h; cases h
   | some a1=>
    rw[ha] at h;have h1:=hT k a1 ha;have h2:=zGY hT l a1 e h;rw[List.flatMap_cons,yP];omega
  ·cases h
theorem zIp {t:List Nd}{ks:List (List Int)}(hk:zHD t ks)(of:List Int):∀(f i e:Nat),TT.zFv ks f i=some e→∀q,i+1+((yZ t i).kids.flatMap (zLp t of q)).length≤e
 | 0,i,e,h,q=>by cases h
 | f+1,i,e,h,q=>by
  unfold TT.zFv at h
  split at h
  ·rw[hk.2 i] at h;refine zGY (fun a e ha=>?_) _ _ _ h
   cases q with
   | zero=>show a+0≤e; have:=(zFW hk f a e ha).1; omega
   | succ q=>
    have hr:=zIp hk of f a e ha q;unfold zLp
    dsimp only
    split
    ·show a+1≤e; omega
    split
    ·show a+1≤e; omega
    split
    ·rw[yP]; show a+(_+1)≤e; omega
    split
    ·rw[yP]; show a+(_+1)≤e; omega
    split
    ·rw[yP]; show a+(_+1)≤e; omega
    split
    ·rw[yP]; show a+(_+1)≤e; omega
    ·show a+0≤e; omega
  ·cases h
theorem zF9.few {t:List Nd}(F:zF9 t)(of:List Int)(i q:Nat)(hi:i<t.length):i+1+((yZ t i).kids.flatMap (zLp t of q)).length≤t.length:=by
 obtain⟨ks,hk,he⟩:=F.ends;have hs:=TT.zID ks ks.length 0 _ (by omega) he i (zW _) hi;obtain⟨e,h⟩:=Option.isSome_iff_exists.1 hs;have h1:=zIp hk of _ i e h q;have h2:=(TT.zBs h).2;rw[hk.1] at h2;omega
end Go.Proofs.YtbadjmmjbpeocaaGreat
namespace Go.Proofs.YtbadjmmjbpeocaaGreat
theorem ok1:okI 1:=zKR (by decide) (by decide)
theorem zTM {t:Bs}{k:Nat}(h:ZM t=some k):k<256:=by
 unfold ZM at h;obtain⟨m,h1,rfl⟩:=Option.map_eq_some_iff.1 h;exact(show ∀m ∈ zIe,m.2<256 by decide) m (List.mem_of_find?_eq_some h1)
section
variable {s:Ps}
theorem zS4 (h:KS s)(i:Nat):KP QT (zKS i s):=vB (zAT h i) fun _ s h _=>vB (YB h _) fun _ s h _=>vB (zPi h i) fun _ s h _=>XW (vB (YB h.adv _) fun _ s h _=>VE (h.num _ ok1) trivial) (VE h trivial)
theorem zUl (h:KS s)(i:Nat):KP QT (zQt i s):=vB (zPi h i) fun _ s h _=>vB (YB h _) fun _ s h _=>zDK h i
theorem zQH (h:KS s)(i:Nat):KP QT (zE3 i s):=vB (zOP h i) fun _ s h _=>vB (YB h _) fun _ s h _=>vB (zL5 (fun s h=>zDK h i) h) fun _ s h _=>YB h _
theorem zTs (h:KS s)(i:Nat):KP QT (zJ7 i s):=vB (zAT h i) fun _ s h _=>vB (YB h _) fun _ s h _=>vB (zE7 h i) fun _ s h _=>vB (YB h _) fun _ s h _=>zE7 h i
theorem zS0 (h:KS s)(i:Nat):KP QT (zKg i s):=vB (zE7 h i) fun _ s h _=>XW (VE (h.adv.num _ ok1) trivial) (YB h _)
theorem zN9 (h:KS s)(i:Nat):KP QT (zDt i s):=vB (zAT (h.xI i (by decide)) _) fun _ t h _=>XW (zSO (h.kind _ (by decide)) _) (VE h trivial)
theorem zSU (h:KS s)(i:Nat):KP QT (zFf i s):=XW (VE (h.adv.num _ ok1) trivial) (YB h _)
theorem zUq (h:KS s)(i:Nat):KP QT (zPK i s):=vB (zAT h i) fun _ s h _=>vB (YB h _) fun _ s h _=>zDK h i
theorem zMB {st:Nat→Pm Unit}(hst:∀i s,KS s→KP QT (st i s))(i:Nat):∀(f:Nat) (s:Ps),KS s→KP QT (XA st i f s)
 | 0,s,h=>zBM
 | f+1,s,h=>by unfold XA; exact XW (VE h trivial) (vB (hst i s h) fun _ t ht _=>zMB hst i f t ht)
theorem zDS {st:Nat→Pm Unit}(hst:∀i s,KS s→KP QT (st i s))(h:KS s)(i:Nat):KP QT (zAV st i s):=zEZ (fun t ht=>zMB hst _ _ t ht) (h.xI i (by decide)) _ _
theorem zTl {st:Nat→Pm Unit}(hst:∀i s,KS s→KP QT (st i s))(h:KS s)(i:Nat):KP QT (zGM st i s):=XW (zDS hst h.adv i) (VE h trivial)
theorem zPx {st:Nat→Pm Unit}(hst:∀i s,KS s→KP QT (st i s))(h:KS s)(i:Nat):KP QT (zDu st i s):=vB (zDK h i) fun _ s h _=>vB (zSU h i) fun _ s h _=>vB (zDK h i) fun _ s h _=>vB (zDS hst h i) fun _ s h _=>zTl hst h i
theorem zTp {st:Nat→Pm Unit}(hst:∀i s,KS s→KP QT (st i s))(h:KS s)(i:Nat):KP QT (zGs st i s):=vB (zAT h i) fun _ s h _=>vB (YB h _) fun _ s h _=>vB (zKe h i) fun _ s h _=>vB (YB h _) fun _ s h _=>vB (zKe h i) fun _ s h _=>zDS hst h i
theorem zRo {st:Nat→Pm Unit}(hst:∀i s,KS s→KP QT (st i s))(h:KS s)(k i:Nat):KP QT (VK st k i s):=by
 unfold VK
 split
 ·exact zS4 h i
 split
 ·exact zUl h i
 split
 ·exact zQH h i
 split
 ·exact zOP h i
 split
 ·exact zTs h i
 split
 ·exact zS0 h i
 split
 ·exact zN9 h i
 split
 ·exact zPx hst h i
 split
 ·exact zTp hst h i
 split
 ·exact zUq h i
 split
 ·exact zDK h i
 ·exact VE h trivial
theorem zO0:∀(f i:Nat) (s:Ps),KS s→KP QT (YP f i s)
 | 0,i,s,h=>zBM
 | f+1,i,s,h=>by
  unfold YP
  split
  ·exact zBM
  ·rename_i k hk
   have AA:k<256:=by
    split at hk
    ·exact zTM hk
    ·cases hk
   exact vB (zRo (fun i s h=>zO0 f i s h) (h.xI i AA).adv _ _) fun _ t ht _=>XW (VE ht trivial) (YB ht _)
theorem zSv (h:KS s)(i:Nat):KP QT (zEf i s):=zDS (fun i s h=>zO0 _ i s h) h i
theorem zSd (h:KS s)(i:Nat):KP QT (zCV i s):=vB (YB (h.xI i (by decide)) _) fun _ t h _=>vB (zAT h _) fun _ t h _=>vB (YB h _) fun _ t h _=>vB (zL5 (fun s h=>zE7 h _) h) fun _ t h _=>vB (YB h _) fun _ t h _=>YB h _
theorem zRl (h:KS s)(i:Nat):KP QT (zBR i s):=XW (VE (h.xI i (by decide)) trivial) (zL5 (fun s h=>zE7 h _) (h.xI i (by decide)))
theorem zQi (h:KS s)(i:Nat):KP QT (zAd i s):=XW (VE (h.adv.num _ ok1) trivial) (VE h trivial)
theorem zS6 (h:KS s)(i:Nat):KP QT (zEw i s):=vB (YB (h.xI i (by decide)) _) fun _ t h _=>vB (zAT h _) fun _ t h _=>vB (YB h _) fun _ t h _=>vB (zRl h _) fun _ t h _=>vB (YB h _) fun _ t h _=>vB (zQi h _) fun _ t h _=>zSv h _
theorem zHL:∀(f:Nat) (s:Ps),KS s→KP QT (YA f s)
 | 0,s,h=>zBM
 | f+1,s,h=>by unfold YA; exact XW (VE h trivial) (XW (vB (zSd h _) fun _ t ht _=>zHL f t ht) (XW (vB (zS6 h _) fun _ t ht _=>zHL f t ht) zBM))
theorem zNT (h:KS s):KP QT (zDs s):=zHL _ _ (h.node (by decide))
end
theorem zLd {ts:List Tok}{nd:List Nd}(ht:∀t ∈ ts,okT t)(h:zC3 ts=.ok nd):∀n ∈ nd,okN n:=by
 unfold zC3 at h
 split at h
 ·rename_i a s hs;injection h with h;subst h;exact(zNT ⟨fun n hn=>(by cases hn),ht⟩ _ _ hs).1.nd
 ·cases h
theorem zNA:∀(l:Bs) (n m:Int),n≤2147483647→zCA n l=some m→m≤2147483647
 | [],n,m,h,e=>by injection e with e; omega
 | c::r,n,m,h,e=>by
  unfold zCA at e
  split at e
  ·cases e
  ·exact zNA r _ m (by omega) e
theorem zR3 {s:Bs}{kd k:Nat}{n:Int}(h:step s=.tok kd k n):okI n:=by
 cases s with
 | nil=>cases h
 | cons c r=>
  have h:zAY c r=.tok kd k n:=h;unfold zAY at h
  split at h
  ·cases h
  split at h
  ·cases h
  split at h
  ·injection h with _ _ h; subst h; exact ok0
  split at h
  ·rename_i hd;unfold zO7 at h
   split at h
   ·cases h
   ·rename_i m hm;injection h with _ _ h;subst h;have h1:=zNA _ _ _ (by decide) hm
    have h2:=zM4 _ _ _ (Int.le_refl 0) (fun x hx=>by
     rcases List.mem_cons.1 hx with rfl | hx
     ·exact hd
     ·exact(List.all_eq_true.1 (List.all_takeWhile) x hx)) hm
    exact⟨by omega,by omega⟩
  split at h
  ·injection h with _ _ h; subst h; exact ok0
  split at h
  ·injection h with _ _ h; subst h; exact ok0
  ·cases h
theorem zH6:∀(f p:Nat) (s:Bs) (l:List Tok),s.length≤1500→zEc f p s=.ok l→∀t ∈ l,okI t.n∧t.text.length≤1500
 | 0,p,s,l,hl,h=>by cases h
 | f+1,p,s,l,hl,h=>by
  unfold zEc at h
  split at h
  ·injection h with h;subst h;intro t ht;rw[yN] at ht;subst ht;exact⟨ok0,zW _⟩
  ·exact zH6 f _ _ l (by rw[List.length_drop]; omega) h
  ·rename_i kd k n hs
   cases hr:zEc f (p+k) (s.drop k) with
   | err a e=>rw[hr] at h; cases h
   | ok m=>
    rw[hr] at h;injection h with h;subst h;intro t ht
    rcases List.mem_cons.1 ht with rfl | ht
    ·exact⟨zR3 hs,by show(List.take k s).length≤1500; rw[List.length_take]; omega⟩
    ·exact zH6 f _ _ m (by rw[List.length_drop]; omega) hr t ht
  ·cases h
theorem zEK:∀f,zA5 (YA f)
 | 0=>fun s _=>by unfold YA; trivial
 | f+1=>fun s h=>by
  unfold YA
  split
  ·exact ZI.refl h
  ·split
   ·exact(zIw 0 s h).bind fun _ t _ ht=>zEK f t ht
   ·split
    ·exact(zJ2 0 s h).bind fun _ t _ ht=>zEK f t ht
    ·trivial
theorem zGP {l:Bs}{y:List Nd}(h:zAR l=.ok y)(hl:l.length≤1500):y.length≤3003∧∀n ∈ y,n.kids.length≤3003∧okN n:=by
 unfold zAR at h
 have hs:zFA l=zAZ 0 l:=by unfold zFA; rw[if_neg (by omega)]
 rw[hs] at h
 cases h1:zAZ 0 l with
 | err a e=>rw[h1] at h; cases h
 | ok ts=>
  rw[h1] at h;have h2:zC3 ts=.ok y:=h;obtain⟨AA,AC,AB⟩:=zKL h1
  have hk:=zLd (fun t ht=>by
   have:=zH6 _ 0 l ts hl h1 t ht
   exact⟨this.1,this.2,by have:=AB t ht; omega⟩) h2
  have hg:Good ((⟨ts,[],0⟩:Ps).node 1):=⟨AA,zW _,fun n hn=>by
   have hn:n ∈ [(⟨1,(⟨ts,[],0⟩:Ps).hd.at_,[],0,[]⟩:Nd)]:=hn;rw[List.mem_singleton.1 hn]
   exact zW _⟩
  have hw:=zEK (ts.length+1) _ hg
  have e:zC3 ts=match YA (ts.length+1) ((⟨ts,[],0⟩:Ps).node 1) with
   | .ok _ s=>.ok s.nd
   | .err e p=>.err p e:=rfl
  rw[e] at h2
  cases hq:YA (ts.length+1) ((⟨ts,[],0⟩:Ps).node 1) with
  | err e p=>rw[hq] at h2; cases h2
  | ok a s=>
   rw[hq] at h2 hw;injection h2 with h2;subst h2;have hp:=hw.phi;unfold Ps.phi at hp;have h0:((⟨ts,[],0⟩:Ps).node 1).nd.length=1:=rfl;have h3:((⟨ts,[],0⟩:Ps).node 1).ts.length=ts.length:=rfl;rw[h0,h3] at hp;exact⟨by omega,fun n hn=>⟨by have:=hw.xV.few n hn; omega,hk n hn⟩⟩
end Go.Proofs.YtbadjmmjbpeocaaGreat
namespace Go.Proofs.YtbadjmmjbpeocaaGreat
open Go Go.RowKit
theorem zT6 {l:Bs}{nh:List (Nd × Hd2)}(hp:zAR l=.ok (nh.map Prod.fst))(hl:l.length≤1500):(nh.map toT).length≤9000∧(∀x ∈ nh.map toT,TT.zEF x)∧(∀x ∈ nh.map toT,-9223372036854775808≤x.pos∧x.pos≤9223372036854775807)∧∀x ∈ nh,x.1.kind<256 ∧ -9223372036854775808≤x.1.num∧x.1.num≤9223372036854775807:=by
 obtain⟨h1,h2⟩:=zGP hp hl;rw[yQ] at h1;refine⟨by rw[yQ]; omega,fun x hx=>?_,fun x hx=>?_,fun x hx=>?_⟩
 ·obtain⟨y,hy,rfl⟩:=List.mem_map.1 hx;obtain⟨h3,h4⟩:=h2 y.1 (List.mem_map.2 ⟨y,hy,rfl⟩);refine⟨?_,?_⟩
  ·show(xG y.1.text).size≤9000
   have:(xG y.1.text).size=y.1.text.length:=by simp[xG,ByteArray.size]
   have:=h4.2.2.1
   omega
  ·show(y.1.kids.map fun (k:Nat)=>(k:Int)).length≤9000
   rw[yQ];omega
 ·obtain⟨y,hy,rfl⟩:=List.mem_map.1 hx;obtain⟨h3,h4⟩:=h2 y.1 (List.mem_map.2 ⟨y,hy,rfl⟩)
  show -9223372036854775808≤(y.1.pos:Int)∧(y.1.pos:Int)≤9223372036854775807
  have:=h4.2.2.2
  omega
 ·obtain⟨h3,h4⟩:=h2 x.1 (List.mem_map.2 ⟨x,hx,rfl⟩);exact⟨h4.1,h4.2.1⟩
def zNg (n:Nd):TT.xU:=toT (n,(none,0))
theorem zQv (nh:List (Nd × Hd2)):TT.XJ (nh.map toT)=TT.XJ ((nh.map Prod.fst).map zNg):=by
 have AC:TT.zBL (nh.map toT)=TT.zBL ((nh.map Prod.fst).map zNg):=by simp[TT.zBL,zNg,toT,Function.comp_def]
 have AA:TT.zCf (nh.map toT)=TT.zCf ((nh.map Prod.fst).map zNg):=by
  funext k
  unfold TT.zCf;rw[zN,zN,zN]
  cases nh[k.toNat]? <;> rfl
 have AB:∀x:Nd × Hd2,TT.zBu (nh.map toT) (toT x)=TT.zBu ((nh.map Prod.fst).map zNg) (zNg x.1):=fun x=>by
  unfold TT.zBu TT.jX;rw[AA]
  rfl
 unfold TT.XJ;rw[AC,AA,List.all_map,List.all_map,List.all_map]
 congr 2
 congr 1
 funext x
 exact AB x
theorem zHK {P:Program}{ρ:Operand→Value}{o:Oper}{w:World}{F:Value→World→Prop}(ty:TypeId)(x y:Operand)(ho:o.op=.store ty x y)(g:Nat)(cells:Array Value)(hx:ρ x=.pointer (some ⟨g,0,none⟩))(hy:ρ y=.agg cells)
  (t:TypeId) (old:Array Value) (hg:Blk w g t old) (hi:(P.info? ty).map (·.size)=some cells.size) (hold:old.size=cells.size) (h1:cells.toList.all (·.oneCell')=true)
  (h:∀w',Touch g w w'→Blk w' g t cells→F undef w'):xA P ρ o w F:=by
 have AA:cells.all (·.oneCell')=true:=by rw[←Array.all_toList]; exact h1
 have hT:=zDE w g t old cells hg;unfold xA execOp;simp only[ho,hx,hy,Instr.storeAt,Instr.sureAddr,Sem.run_bind,Sem.run_pure,Result.andThen_ok,run_storeVar_row w g t ty old cells hg hi hold AA];exact h _ hT.1 hT.2
structure Laid (g:Nat)(t:TypeId)(old new:Array Value)(a b:World):Prop where
 jQ:Touch g a b
 here:Blk a g t old∨Blk a g t new→Blk b g t old∨Blk b g t new
 new:Blk a g t new→Blk b g t new
theorem Touch.refl (g:Nat)(w:World):Touch g w w:=⟨rfl,rfl,rfl,rfl,fun _ _=>rfl⟩
theorem Touch.trans {g:Nat}{a b c:World}(h:Touch g a b)(k:Touch g b c):Touch g a c:=⟨k.os.trans h.os,k.tape.trans h.tape,k.output.trans h.output,k.size.trans h.size,fun i hi=>(k.other i hi).trans (h.other i hi)⟩
theorem Laid.refl {g:Nat}{t:TypeId}{old new:Array Value}(w:World):Laid g t old new w w:=⟨Touch.refl g w,id,id⟩
theorem Laid.trans {g:Nat}{t:TypeId}{old new:Array Value}{a b c:World}(h:Laid g t old new a b)(k:Laid g t old new b c):Laid g t old new a c:=⟨h.jQ.trans k.jQ,fun q=>k.here (h.here q),fun q=>k.new (h.new q)⟩
theorem VG {P:Program}{fn:Func}{p q:Tmp}{ty:TypeId}(h:fn.results=#[.cell p ty,.tmp q])(tmps:Array Value)(w:World)(g:Nat)(t:TypeId)(cs:Array Value)(d:TypeDesc)
  (hp:tmps.getD p undef=.pointer (some ⟨g,0,none⟩)) (hg:Blk w g t cs) (hu:P.underlying ty=some d) (hd:(match d with | .struct _ | .array _ _=>true | _=>false)=true) (hi:(P.info? ty).map (·.size)=some cs.size) :
  (results fn tmps).run P w=.ok (.tuple #[.agg cs,tmps.getD q undef]) w:=by
 have AA:tmps[p]?.getD undef=.pointer (some ⟨g,0,none⟩):=by simpa using hp
 simp[results,h,AA,asAddr,run_loadVar_row w g t ty cs (0,0) d hg hu hd hi]
theorem zRj {l:List Pw}:∀u,(zBy l)[0]?=some u→¬okv u:=fun u h=>by
 cases l with
 | nil=>cases h
 | cons x l=>injection h with h; subst h; exact fun h=>h
theorem zTg {l:List Int}:∀u,(ofc l)[0]?=some u→¬okv u:=fun u h=>by
 cases l with
 | nil=>cases h
 | cons x l=>injection h with h; subst h; exact fun h=>h
theorem zLt.zUK {w:World}{M G:Nat→Prop}{A At Ap:Option Addr}{l:List Tx}{th:List Hd2}{ps:List Pw}{bo:Nat}{s:Nr}(h:zLt w M A At Ap l th ps bo s)(hG:∀b,G b→∃t cells,Blk w b t cells∧∀u ∈ cells.toList,okv u):zLt w G A At Ap l th ps bo s:=
 ⟨h.tree.other hG,h.zBN.other hG zKk,h.thl,fun k x y e1 e2=>(h.zHg k x y e1 e2).other hG zEj,h.procs.other hG zRj,h.psl,fun x hx=>(h.vars x hx).other hG zEj,h.of.other hG zTg,h.len⟩
def zSf (l:Bs):Prop:=(∃a er,zAR l=.err a er)∨∃nh:List (Nd × Hd2),zAR l=.ok (nh.map Prod.fst)∧(TT.XJ (nh.map toT)=false∨∃i er,jM (nh.map Prod.fst)=.err i er)
def zSK (l:Bs)(w:World)(e:Ending)(w':World):Prop:=Ext w w'∧((e=.returned (.tuple #[.agg XG,.bool false])∧zSf l) ∨
 ∃(nh:List (Nd × Hd2)) (s:Nr) (v:Value),zAR l=.ok (nh.map Prod.fst)∧TT.XJ (nh.map toT)=true∧jM (nh.map Prod.fst)=.ok s∧e=.returned (.tuple #[v,.bool true])∧zNi w' (nh.map toT) s v)
theorem zMg (A:Option Addr)(l:Bs)(n c:Nat)(w:World)(hn:n=l.length)(hl:l.length≤1500)(hcap:l.length≤c)(hnil:A=none→c=0)(hC:Cells w A (vE l)) :
  Calls Tryz.prog 8 #[.slice A n c] w (zSK l w):=by
 subst hn;have HC:=yG hC;clear hC;obtain⟨w1,AP⟩:∃w1,Hid (w.alloc (.cells XG 32)=w1):=⟨_,yG rfl⟩;have AW:Hid (Ext w w1):=yG (by rw[←AP.out]; exact Ext.alloc _ _);obtain⟨g0,AL⟩:∃g0,Hid (w.heap.size=g0):=⟨_,yG rfl⟩;have AN:Hid (Blk w1 g0 32 XG):=yG (by rw[←AP.out,←AL.out]; exact Blk.new _ _ _)
 cases hr:zAR l with
 | err a er=>
  have HR:=yG hr;clear hr
  go_enter Tryz.func8,Tryz.ntmps8
  go_wp2_with fail
  have AJ:Hid (w.alloc (.cells #[.slice none 0 0,.slice none 0 0,.slice none 0 0,.slice none 0 0] 32)=w1):=AP;rw[AJ.out,AL.out];refine(zK0 A l l.length c w1 rfl (by omega) hcap hnil (HC.out.ext AW.out)).mono ?_;rintro e w2 ⟨AI,hp⟩;rw[HR.out] at hp;obtain⟨g2,rfl,_,_⟩:=hp;have Af:=yG (AW.out.trans AI);have AU:=yG (AN.out.ext AI);clear AI AN
  go_upto_region 2 with fail
  have AR:=yG (Af.out.trans (Ext.alloc w2 (.cells #[.slice none 0 0] 27)));have AV:=yG (AU.out.ext (Ext.alloc w2 (.cells #[.slice none 0 0] 27)));generalize w2.alloc (.cells #[.slice none 0 0] 27)=w3 at *
  go_wp2_with (refine xQ rfl 32 (.tmp 2) (.tmp 15) rfl g0 XG rfl rfl 32 _ AV.out (by kernel_rfl) rfl (by rfl) ?_; intro w4 A5 A3)
  refine bodyPost_ret (VG rfl _ _ g0 32 XG _ rfl A3 Tryz.underlying32 rfl (by kernel_rfl)) rfl ?_;exact⟨A5.ext AR.out (by rw[AL.out]; exact zX _),.inl ⟨rfl,.inl ⟨a,er,HR.out⟩⟩⟩
 | ok nd=>
  have HR:=yG hr;clear hr
  go_enter Tryz.func8,Tryz.ntmps8
  go_wp2_with fail
  have AJ:Hid (w.alloc (.cells #[.slice none 0 0,.slice none 0 0,.slice none 0 0,.slice none 0 0] 32)=w1):=AP;rw[AJ.out,AL.out];refine(zK0 A l l.length c w1 rfl (by omega) hcap hnil (HC.out.ext AW.out)).mono ?_;rintro e w2 ⟨AI,hp⟩;rw[HR.out] at hp;obtain⟨A2,c2,nh,rfl,rfl,Ak⟩:=hp;have Af:=yG (AW.out.trans AI);have AU:=yG (AN.out.ext AI);have As:=yG Ak;clear AI AN Ak;obtain⟨Ax,Aq,An,Ar⟩:=zT6 HR.out hl;have Al:=yG (As.out.toT Ar)
  go_upto_region 2 with fail
  have AT:Ext w2 (w2.alloc (.cells #[.slice A2 nh.length c2] 27)):=Ext.alloc _ _;have AR:=yG (Af.out.trans AT);have AV:=yG (AU.out.ext AT);have Ai:=yG (Al.out.ext AT);have A9:=yG (Blk.new w2 27 #[.slice A2 nh.length c2]);have q3:(w2.alloc (.cells #[.slice A2 nh.length c2] 27)).cell? ⟨w2.heap.size,0,none⟩=some (.slice A2 nh.length c2):=A9.out.cell 0;have Ay:A2=none→c2=0:=zNj As.out.row;generalize w2.heap.size=g3 at *;generalize w2.alloc (.cells #[.slice A2 nh.length c2] 27)=w3 at *;have HS:=yG (show(∀x ∈ nh.map toT,TT.zEF x)∧∀x ∈ nh.map toT,-9223372036854775808≤x.pos∧x.pos≤9223372036854775807 from⟨Aq,An⟩);have A4:Hid (nh.length=(nh.map toT).length):=yG (by rw[yQ]);clear Aq An Ar AT
  go_wp2_with fail
  refine(zMq A l l.length c rfl A2 (nh.map toT) nh.length c2 A4.out w3 (by omega) hcap (HC.out.ext AR.out) Ai.out Ay Ax HS.out.1 HS.out.2).mono ?_;intro e w4 AC
  have BA:∃a0 n0 d0 a1 n1 d1 a2 n2 d2 a3 n3 d3 ev,e=.returned (.tuple #[.agg #[.slice a0 n0 d0,.slice a1 n1 d1,.slice a2 n2 d2,.slice a3 n3 d3],ev])∧Ext w3 w4 ∧
    ((ev=.nilIface∧TT.XJ (nh.map toT)=true∧∃s,jM (nh.map Prod.fst)=.ok s∧zNi w4 (nh.map toT) s (.agg #[.slice a0 n0 d0,.slice a1 n1 d1,.slice a2 n2 d2,.slice a3 n3 d3]))∨((∃t v,ev=.iface t v)∧#[.slice a0 n0 d0,.slice a1 n1 d1,.slice a2 n2 d2,.slice a3 n3 d3]=XG∧zSf l)):=by
   split at AC
   ·rename_i hr;obtain⟨hX,hx,AB⟩:=AC;rw[zOB] at AB
    cases hq:jM (nh.map Prod.fst) with
    | ok s=>
     rw[hq] at AB;obtain⟨v,rfl,hv⟩:=AB;obtain⟨M,A',At,Ap,l',th,ps,bo,ct,cT,cP,co,rfl,AM⟩:=hv.out;exact⟨_,_,_,_,_,_,_,_,_,_,_,_,_,rfl,hx,.inl ⟨rfl,hr,s,rfl,⟨M,A',At,Ap,l',th,ps,bo,ct,cT,cP,co,rfl,AM⟩⟩⟩
    | err i er=>
     rw[hq] at AB;obtain⟨g,rfl,_⟩:=AB;exact⟨_,_,_,_,_,_,_,_,_,_,_,_,_,rfl,hx,.inr ⟨⟨_,_,rfl⟩,rfl,.inr ⟨nh,HR.out,.inr ⟨i,er,hq⟩⟩⟩⟩
   ·rename_i hr;obtain⟨rfl,hx⟩:=AC;exact⟨_,_,_,_,_,_,_,_,_,_,_,_,_,rfl,hx,.inr ⟨⟨_,_,rfl⟩,rfl,.inr ⟨nh,HR.out,.inl (by simpa using hr)⟩⟩⟩
  obtain⟨a0,n0,d0,a1,n1,d1,a2,n2,d2,a3,n3,d3,ev,rfl,Ab,AH⟩:=BA;have Au:=yG (AR.out.trans Ab);have Ac:=yG (AV.out.ext Ab);have Aa:=yG AH;clear AC Ab AH AV AU Al Ai q3
  go_upto_region 5 with fail
  have AQ:Ext w4 (w4.alloc (.cells #[.slice a0 n0 d0,.slice a1 n1 d1,.slice a2 n2 d2,.slice a3 n3 d3] 32)):=Ext.alloc _ _;have Aj:=yG (Au.out.trans AQ);have Ah:=yG (Ac.out.ext AQ);have AS:=yG (Blk.new w4 32 #[.slice a0 n0 d0,.slice a1 n1 d1,.slice a2 n2 d2,.slice a3 n3 d3]);have A7:Hid (w4.heap.size≠g0):=yG (by have:=Ac.out.lt; omega);generalize w4.heap.size=g5 at *;generalize w4.alloc (.cells #[.slice a0 n0 d0,.slice a1 n1 d1,.slice a2 n2 d2,.slice a3 n3 d3] 32)=w5 at *;have s0:w5.cell? ⟨g5,0,none⟩=some (.slice a0 n0 d0):=AS.out.cell 0;have s1:w5.cell? ⟨g5,1,none⟩=some (.slice a1 n1 d1):=AS.out.cell 1;have s2:w5.cell? ⟨g5,2,none⟩=some (.slice a2 n2 d2):=AS.out.cell 2;have s3:w5.cell? ⟨g5,3,none⟩=some (.slice a3 n3 d3):=AS.out.cell 3;have cell:∀(a b:World) (i:Nat),Laid g0 32 XG #[.slice a0 n0 d0,.slice a1 n1 d1,.slice a2 n2 d2,.slice a3 n3 d3] a b→b.cell? ⟨g5,i,none⟩=a.cell? ⟨g5,i,none⟩:=fun a b i h=>World.cell?_of_block (w:=a) (h.jQ.other g5 A7.out);have AA:=yG cell;have AF:=yG AQ;clear cell AQ;have Ao:∀w9:World,Laid g0 32 XG #[.slice a0 n0 d0,.slice a1 n1 d1,.slice a2 n2 d2,.slice a3 n3 d3] w5 w9→xC w4 (fun b=>b=g0) w9 (fun b=>b=g0):=fun w9 h=>⟨h.jQ.os.trans AF.out.os,h.jQ.tape.trans AF.out.tape,h.jQ.output.trans AF.out.output,by rw[h.jQ.size]; exact AF.out.size,fun b hb hn=>(h.jQ.other b hn).trans (AF.out.block b hb),fun b hb=>.inl hb⟩;have A6:=yG Ao;clear Ao
  rcases Aa.out with ⟨rfl,hr,s,AB,Am⟩ | ⟨⟨t,v,rfl⟩,hz,Ag⟩
  ·have BB:=yG Am;have BC:=yG hr;have A1:=yG AB;clear hr AB Am Aa;refine ZZ (R:=Laid g0 32 XG #[.slice a0 n0 d0,.slice a1 n1 d1,.slice a2 n2 d2,.slice a3 n3 d3]) (w0:=w5) 5 [.det (.agg #[.slice a0 n0 d0,.slice a1 n1 d1,.slice a2 n2 d2,.slice a3 n3 d3]),.det .nilIface,.det (.bool true),.fact fun _ w=>Blk w g0 32 #[.slice a0 n0 d0,.slice a1 n1 d1,.slice a2 n2 d2,.slice a3 n3 d3],.det (.bool true)] (by kernel_rfl) (by kernel_rfl) (by kernel_rfl) (fun _ _ _=>Laid.trans) ⟨⟨rfl,rfl,rfl,rfl,fun _ _=>rfl⟩,id,id⟩ ?_;apply xB (.agg #[.slice a0 n0 d0,.slice a1 n1 d1,.slice a2 n2 d2,.slice a3 n3 d3]) rfl rfl rfl
   ·intro w' AD hH;clear hH;have z0:=(AA.out _ _ 0 AD).trans s0;have z1:=(AA.out _ _ 1 AD).trans s1;have z2:=(AA.out _ _ 2 AD).trans s2;have z3:=(AA.out _ _ 3 AD).trans s3;simp[xA,go_sem,z0,z1,z2,z3];exact Laid.refl _
   apply sG Laid.refl .nilIface;apply sG Laid.refl (.bool true);apply xZ (fun _ w=>Blk w g0 32 #[.slice a0 n0 d0,.slice a1 n1 d1,.slice a2 n2 d2,.slice a3 n3 d3]) (fun _ _ _ h k=>k.new h) rfl rfl rfl
   ·intro w' AD hH;clear hH;have AK:=AD.here (.inl Ah.out)
    have Ae:∃AG:Array Value,Blk w' g0 32 AG∧AG.size=4:=by
     rcases AK with h | h
     ·exact⟨_,h,rfl⟩
     ·exact⟨_,h,rfl⟩
    obtain⟨AG,hb,hs⟩:=Ae;refine zHK 32 (.tmp 2) (.tmp 22) rfl g0 #[.slice a0 n0 d0,.slice a1 n1 d1,.slice a2 n2 d2,.slice a3 n3 d3] rfl rfl 32 AG hb (by kernel_rfl) hs rfl ?_;intro w9 Ad AE;exact⟨AE,Ad,fun _=>.inr AE,fun _=>AE⟩
   intro v9;apply sG Laid.refl (.bool true);apply xR;intro w9 AO hH;have AE:Blk w9 g0 32 #[.slice a0 n0 d0,.slice a1 n1 d1,.slice a2 n2 d2,.slice a3 n3 d3]:=hH (none,fun w=>Blk w g0 32 #[.slice a0 n0 d0,.slice a1 n1 d1,.slice a2 n2 d2,.slice a3 n3 d3]) (by simp);have AZ:Hid (Ext w w9):=yG (AO.jQ.ext Aj.out (by rw[AL.out]; exact zX _));clear hH;refine(show wpList Tryz.prog _ _ [] _ _ from ?_)
   try simp only[Act.put,yD,yF,yE]
   go_wp2_with fail
   refine bodyPost_ret (VG rfl _ _ g0 32 #[.slice a0 n0 d0,.slice a1 n1 d1,.slice a2 n2 d2,.slice a3 n3 d3] _ rfl AE Tryz.underlying32 rfl (by kernel_rfl)) rfl ?_;obtain⟨M,A',At,Ap,l',th,ps,bo,ct,cT,cP,co,BD,AY,Av,A0⟩:=BB.out.out;have A8:=A6.out w9 AO
   have AX:∀b,b=g0→∃t cells,Blk w4 b t cells∧∀u ∈ cells.toList,okv u:=fun b hb=>by
    subst hb;refine⟨_,_,Ac.out,fun u hu=>?_⟩;unfold XG at hu;simp only[zU,List.not_mem_nil,or_false,or_self] at hu;subst hu
    trivial
   exact⟨AZ.out,.inr ⟨nh,s,_,HR.out,BC.out,A1.out,rfl,⟨(fun b=>b=g0),A',At,Ap,l',th,ps,bo,ct,cT,cP,co,BD,(AY.zUK AX).xE A8,Av,A0⟩⟩⟩
  ·have Az:=yG hz;have Aw:=yG Ag;clear hz Ag Aa;refine ZZ (R:=Laid g0 32 XG #[.slice a0 n0 d0,.slice a1 n1 d1,.slice a2 n2 d2,.slice a3 n3 d3]) (w0:=w5) 5 [.det (.agg #[.slice a0 n0 d0,.slice a1 n1 d1,.slice a2 n2 d2,.slice a3 n3 d3]),.det (.iface t v),.det (.bool false),.fact fun _ w=>Blk w g0 32 #[.slice a0 n0 d0,.slice a1 n1 d1,.slice a2 n2 d2,.slice a3 n3 d3],.det (.bool false)] (by kernel_rfl) (by kernel_rfl) (by kernel_rfl) (fun _ _ _=>Laid.trans) ⟨⟨rfl,rfl,rfl,rfl,fun _ _=>rfl⟩,id,id⟩ ?_;apply xB (.agg #[.slice a0 n0 d0,.slice a1 n1 d1,.slice a2 n2 d2,.slice a3 n3 d3]) rfl rfl rfl
   ·intro w' AD hH;clear hH;have z0:=(AA.out _ _ 0 AD).trans s0;have z1:=(AA.out _ _ 1 AD).trans s1;have z2:=(AA.out _ _ 2 AD).trans s2;have z3:=(AA.out _ _ 3 AD).trans s3;simp[xA,go_sem,z0,z1,z2,z3];exact Laid.refl _
   apply sG Laid.refl (.iface t v);apply sG Laid.refl (.bool false);apply xZ (fun _ w=>Blk w g0 32 #[.slice a0 n0 d0,.slice a1 n1 d1,.slice a2 n2 d2,.slice a3 n3 d3]) (fun _ _ _ h k=>k.new h) rfl rfl rfl
   ·intro w' AD hH;clear hH;have AK:=AD.here (.inl Ah.out)
    have Ae:∃AG:Array Value,Blk w' g0 32 AG∧AG.size=4:=by
     rcases AK with h | h
     ·exact⟨_,h,rfl⟩
     ·exact⟨_,h,rfl⟩
    obtain⟨AG,hb,hs⟩:=Ae;refine zHK 32 (.tmp 2) (.tmp 22) rfl g0 #[.slice a0 n0 d0,.slice a1 n1 d1,.slice a2 n2 d2,.slice a3 n3 d3] rfl rfl 32 AG hb (by kernel_rfl) hs rfl ?_;intro w9 Ad AE;exact⟨AE,Ad,fun _=>.inr AE,fun _=>AE⟩
   intro v9;apply sG Laid.refl (.bool false);apply xR;intro w9 AO hH;have AE:Blk w9 g0 32 #[.slice a0 n0 d0,.slice a1 n1 d1,.slice a2 n2 d2,.slice a3 n3 d3]:=hH (none,fun w=>Blk w g0 32 #[.slice a0 n0 d0,.slice a1 n1 d1,.slice a2 n2 d2,.slice a3 n3 d3]) (by simp);have AZ:Hid (Ext w w9):=yG (AO.jQ.ext Aj.out (by rw[AL.out]; exact zX _));clear hH;refine(show wpList Tryz.prog _ _ [] _ _ from ?_)
   try simp only[Act.put,yD,yF,yE]
   go_wp2_with fail
   refine bodyPost_ret (VG rfl _ _ g0 32 #[.slice a0 n0 d0,.slice a1 n1 d1,.slice a2 n2 d2,.slice a3 n3 d3] _ rfl AE Tryz.underlying32 rfl (by kernel_rfl)) rfl ?_;exact⟨AZ.out,.inl ⟨by rw[Az.out]; rfl,Aw.out⟩⟩
def zT3:Bs:=[116,97,98,108,101,32,116,40,99,41,59,32,112,114,111,99,32,112,40,41,32,123,32]
def zT7:Bs:=[32,125]
def zSn (t:List Nd):Bool:=t.all fun n=>n.kind != 14
def zGO (src:Bs)(way:Int):Option B3:=match zAR src with
 | .err _ _=>none
 | .ok nd=>if TT.XJ (nd.map zNg)=true then (match jM nd with
   | .err _ _=>none
   | .ok s=>match s.procs[0]? with
    | none=>none
    | some p=>match (yZ nd p.root).kids[1]? with
     | none=>none
     | some j=>if zSn nd=true∧p.root<nd.length∧j<nd.length then some (zD0 nd nd.length way j).1 else none) else none
theorem zRN {src:Bs}{way:Int}{v:B3}(h:zGO src way=some v):∃nd s p j,zAR src=.ok nd∧TT.XJ (nd.map zNg)=true∧jM nd=.ok s∧s.procs[0]?=some p∧(yZ nd p.root).kids[1]?=some j∧zSn nd=true∧p.root<nd.length∧j<nd.length∧(zD0 nd nd.length way j).1=v:=by
 unfold zGO at h
 cases hp:zAR src with
 | err a e=>rw[hp] at h; cases h
 | ok nd=>
  rw[hp] at h
  dsimp only at h
  split at h
  ·rename_i hr
   cases hq:jM nd with
   | err i e=>rw[hq] at h; cases h
   | ok s=>
    rw[hq] at h
    dsimp only at h
    cases hs:s.procs[0]? with
    | none=>rw[hs] at h; cases h
    | some p=>
     rw[hs] at h
     dsimp only at h
     cases hk:(yZ nd p.root).kids[1]? with
     | none=>rw[hk] at h; cases h
     | some j=>
      rw[hk] at h
      dsimp only at h
      split at h
      ·rename_i hc;injection h with h;exact⟨nd,s,p,j,rfl,hr,hq,hs,hk,hc.1,hc.2.1,hc.2.2,h⟩
      ·cases h
  ·cases h
theorem zET {t:List Nd}{q:Nd→Prop}(h:∀n ∈ t,q n)(h0:q (yZ [] 0))(i:Nat):q (yZ t i):=by
 unfold yZ;rw[yH]
 cases e:t[i]? with
 | none=>exact h0
 | some n=>exact h n (yB e)
theorem zTe {l w:List Int}(h:TT.isR l w=true):l.length=w.length:=by
 unfold TT.isR at h;simp only[zG,zO] at h;exact h.1
theorem zTA {src:Bs}{nh:List (Nd × Hd2)}{l:List Tx}(hp:zAR src=.ok (nh.map Prod.fst))(hl:src.length≤1500)(hr:TT.XJ (nh.map toT)=true)(hc:zSn (nh.map Prod.fst)=true)(ht:tN l=tN (txM (nh.map toT))):zTJ l:=by
 obtain⟨h1,h2,_,_⟩:=zT6 hp hl;have hF:=zRQ hr h2;have AB:=zGP hp hl;rw[zOB] at ht hF;rw[←ht] at hF AB hc
 have AC:∀i,∀k ∈ (yZ (tN l) i).kids,i<k∧k<l.length:=fun i k hk=>by
  rcases Nat.lt_or_ge i (tN l).length with hi | hi
  ·have:=hF.up i hi k hk
   rwa [JO] at this
  ·unfold yZ at hk;rw[yH,zM hi] at hk
   cases hk
 refine⟨AC,fun i=>zET (q:=fun n=>n.kind<256) (fun n hn=>(AB.2 n hn).2.1) (by decide) i,fun i=>zET (q:=fun n=>n.kind≠14) (fun n hn=>?_) (by decide) i,fun i AA=>?_,
  fun i=>zET (q:=fun n=>w64 n.num) (fun n hn=>(AB.2 n hn).2.2.1) ⟨by decide,by decide⟩ i,fun i=>zET (q:=fun n=>n.kids.length≤9000) (fun n hn=>Nat.le_trans (AB.2 n hn).1 (by decide)) (by decide) i⟩
 ·unfold zSn at hc
  have:=List.all_eq_true.1 hc n hn
  simpa using this
 ·rcases Nat.lt_or_ge i (tN l).length with hi | hi
  ·have:=hF.ok i hi
   rw[AA] at this;have h3:TT.isR ((yZ (tN l) i).kids.map fun k=>((yZ (tN l) k).kind:Int)) [21,21,6]=true:=this;have h4:=zTe h3;rw[yQ] at h4
   match e:(yZ (tN l) i).kids,h4 with
   | [x,y,z],_=>exact⟨x,y,z,rfl⟩
  ·exfalso
   unfold yZ at AA;rw[yH,zM hi] at AA;exact absurd AA (by decide)
theorem zNi.pvp {w:World}{L:List TT.xU}{s:Nr}{v:Value}(h:zNi w L s v):∃(A At Ap:Option Addr) (l:List Tx) (ps:List Pw) (bo ct nT cT cP co:Nat),v=.agg #[.slice A L.length ct,.slice At nT cT,.slice Ap ps.length cP,.slice (some ⟨bo,0,none⟩) L.length co]∧PV w A l (some ⟨bo,0,none⟩) s.of∧Cells w Ap (zBy ps)∧ps.map Prod.fst=s.procs∧tN l=tN (txM L)∧l.length=L.length:=by
 obtain⟨M,A,At,Ap,l,th,ps,bo,ct,cT,cP,co,rfl,hp,ht,_⟩:=h.out
 have hl:l.length=L.length:=by have:=congrArg List.length ht; rwa [JO,JO,JF] at this
 exact⟨A,At,Ap,l,ps,bo,ct,_,cT,cP,co,by rw[←hp.psl,yQ],⟨hp.tree.row.cells,fun x hx=>(hp.tree.kids x hx).cells,hp.of.cells,hp.len⟩,hp.procs.cells,hp.psl,ht,hl⟩
def zBZ (b:Bs):Bs:=zT3++b++zT7
def zUQ:Bs:=[]
def zUR:Bs:=[115,101,116,32,116,91,49,93,46,99,32,61,32,49,59]
def zU3:Bs:=[102,111,114,32,105,32,61,32,49,32,116,111,32,51,32,123,32,115,99,97,110,32,120,32,61,32,116,46,99,59,32,125]
def zTV:Bs:=[115,99,97,110,32,120,32,61,32,116,46,99,59,32,99,104,111,112,59,32,115,101,116,32,116,91,49,93,46,99,32,61,32,49,59]
theorem zU0:zGO (zBZ zUQ) 0=some ⟨0,0,2⟩:=by decide +kernel
theorem zU4:zGO (zBZ zUR) 0=some ⟨2,1,8⟩:=by decide +kernel
theorem zUW:zGO (zBZ zU3) 0=some ⟨3,0,15⟩:=by decide +kernel
theorem zUU:zGO (zBZ zTV) 0=some ⟨3,1,12⟩:=by decide +kernel
theorem zUP:zGO (zBZ zTV) 1=some ⟨2,1,12⟩:=by decide +kernel
end Go.Proofs.YtbadjmmjbpeocaaGreat
