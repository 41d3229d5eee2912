/- A program that is resolved, whole: each number is one that is there. (and what follows of it). The conditions stand at each lemma. -/
import Derived.Test.YtbadjmmjbpeocaaGreatDoorKaa
import Derived.Test.YtbadjmmjbpeocaaGreatDoorKbl
import Derived.Test.YtbadjmmjbpeocaaGreatDoorKbh
import Derived.Test.YtbadjmmjbpeocaaGreatDoorKbk
set_option linter.unusedVariables false
set_option linter.unusedSimpArgs false
set_option maxRecDepth 100000
set_option maxHeartbeats 16000000
namespace Go.Proofs.YtbadjmmjbpeocaaGreatDoor
structure zHl (t:List Nd)(s:Nr)(j:Nat):Prop where
 tab:(xC t j).kind=2→∃n:Nat,s.of.getD j (-1)=(n:Int)∧(s.xH[n]?).map (·.name)=some (xC t j).text
 proc:(xC t j).kind=3→∃(n:Nat) (p:Np),s.of.getD j (-1)=(n:Int)∧s.procs[n]?=some p∧p.name=(xC t j).text∧p.root=j
theorem zMK {t:List Nd}:∀(l:List Nat) (cs cs':List Bs) (s s':Nr),zAr t l cs s=.ok (cs',s')→s'.of.length=s.of.length∧s'.procs=s.procs∧s'.xH=s.xH∧s'.blocks=s.blocks∧s'.vars=s.vars∧∀j,j ∉ l→s'.of.getD j (-1)=s.of.getD j (-1)
 | [],cs,cs',s,s',h=>by
  unfold zAr at h;injection h with h;injection h with h1 h2;subst h2;exact⟨rfl,rfl,rfl,rfl,rfl,fun _ _=>rfl⟩
 | k::l,cs,cs',s,s',h=>by
  unfold zAr at h
  split at h
  ·cases h
  ·obtain⟨h1,h2,h3,h4,h5,h6⟩:=zMK l _ _ _ _ h;refine⟨h1.trans ?_,h2,h3,h4,h5,fun j hj=>(h6 j fun hm=>hj (List.mem_cons_of_mem _ hm)).trans (vGsn fun e=>hj (by rw[e]; exact List.mem_cons_self ..))⟩
   show(s.of.set k _).length=_
   rw[zB]
structure zEg (t:List Nd)(s s':Nr):Prop where
 len:s'.of.length=s.of.length
 blocks:s'.blocks=s.blocks
 xH:∃e,s'.xH=s.xH++e
 procs:∃e,s'.procs=s.procs++e
 val:∀j,zHl t s j→zHl t s' j
theorem zEg.refl (t:List Nd)(s:Nr):zEg t s s:=⟨rfl,rfl,⟨[],by simp⟩,⟨[],by simp⟩,fun _ h=>h⟩
theorem zEg.trans {t:List Nd}{a b c:Nr}(h:zEg t a b)(k:zEg t b c):zEg t a c:=by
 obtain⟨e,he⟩:=h.xH;obtain⟨d,hd⟩:=k.xH;obtain⟨e1,he1⟩:=h.procs;obtain⟨d1,hd1⟩:=k.procs;exact⟨k.len.trans h.len,k.blocks.trans h.blocks,⟨e++d,by rw[hd,he,List.append_assoc]⟩,⟨e1++d1,by rw[hd1,he1,List.append_assoc]⟩,fun j hj=>k.val j (h.val j hj)⟩
theorem zPu {α:Type}{l e:List α}{n:Nat}{x:α}(h:l[n]?=some x):(l++e)[n]?=some x:=by
 obtain⟨h1,_⟩:=List.getElem?_eq_some_iff.1 h;rw[List.getElem?_append_left h1];exact h
theorem zHl.up {t:List Nd}{s s':Nr}{j:Nat}(h:zHl t s j)(ho:s'.of.getD j (-1)=s.of.getD j (-1))(ht:∃e,s'.xH=s.xH++e)(hp:∃e,s'.procs=s.procs++e):zHl t s' j:=by
 obtain⟨e,he⟩:=ht;obtain⟨d,hd⟩:=hp;refine⟨fun hk=>?_,fun hk=>?_⟩
 ·obtain⟨n,h1,h2⟩:=h.tab hk;refine⟨n,ho.trans h1,?_⟩
  cases hs:s.xH[n]? with
  | none=>rw[hs] at h2; cases h2
  | some x=>rw[he,zPu hs,←hs]; exact h2
 ·obtain⟨n,p,h1,h2,h3⟩:=h.proc hk;exact⟨n,p,ho.trans h1,by rw[hd]; exact zPu h2,h3⟩
theorem zRE {t:List Nd}{s s':Nr}{i:Nat}(hi:i<s.of.length)(h2:(xC t i).kind=2)(hw:∀k ∈ (xC t i).kids,(xC t k).kind=5)(h:JQ t i s=.ok s'):zEg t s s'∧zHl t s' i∧s'.procs=s.procs:=by
 unfold JQ at h
 split at h
 ·cases h
 ·split at h
  ·cases hc:zAr t (xC t i).kids [] s with
   | err a b=>rw[hc] at h; cases h
   | ok x=>
    obtain⟨cs,y⟩:=x;rw[hc] at h;injection h with h;obtain⟨h3,h4,h5,h6,h7,h8⟩:=zMK _ _ _ _ _ hc
    have ho:∀j,j≠i→(xC t j).kind≠5→s'.of.getD j (-1)=s.of.getD j (-1):=fun j hj hk=>by
     rw[←h];refine(vGsn hj).trans (h8 j fun hm=>hk (hw j hm))
    have hoi:s'.of.getD i (-1)=(s.xH.length:Int):=by
     rw[←h];exact zAo (show i<y.of.length by have h3':y.of.length=s.of.length:=h3; omega)
    have ht:s'.xH=s.xH++[⟨(xC t i).text,cs⟩]:=by rw[←h]
    have hp:s'.procs=s.procs:=by rw[←h]; exact h4
    have hvi:zHl t s' i:=⟨fun _=>⟨s.xH.length,hoi,by rw[ht]; simp⟩,fun hk=>by omega⟩;refine⟨⟨?_,by rw[←h]; exact h6,⟨_,ht⟩,⟨[],by rw[hp]; simp⟩,fun j hj=>?_⟩,hvi,hp⟩
    ·rw[←h]
     show(y.of.set i _).length=_
     rw[zB];exact h3
    ·by_cases hji:j=i
     ·rw[hji]; exact hvi
     ·by_cases hk:(xC t j).kind=5
      ·exact⟨fun hk'=>by omega,fun hk'=>by omega⟩
      ·exact hj.up (ho j hji hk) ⟨_,ht⟩ ⟨[],by rw[hp]; simp⟩
  ·cases h
theorem zTD {t:List Nd}{s s':Nr}{i:Nat}(hi:i<s.of.length)(h3:(xC t i).kind=3)(h:zCi t i s=.ok s'):zEg t s s'∧zHl t s' i∧s'.procs.map (·.root)=s.procs.map (·.root)++[i]:=by
 unfold zCi at h
 split at h
 ·cases h
 ·split at h
  ·injection h with h
   have ho:∀j,j≠i→s'.of.getD j (-1)=s.of.getD j (-1):=fun j hj=>by rw[←h]; exact vGsn hj
   have hoi:s'.of.getD i (-1)=(s.procs.length:Int):=by rw[←h]; exact zAo hi
   have ht:s'.xH=s.xH:=by rw[←h]; rfl
   have hp:s'.procs=s.procs++[⟨(xC t i).text,0,[],(xC t i).num==1,i⟩]:=by rw[←h]
   have hvi:zHl t s' i:=⟨fun hk=>by omega,fun _=>⟨s.procs.length,_,hoi,by rw[hp]; simp; rfl,rfl,rfl⟩⟩;refine⟨⟨?_,by rw[←h]; rfl,⟨[],by rw[ht]; simp⟩,⟨_,hp⟩,fun j hj=>?_⟩,hvi,by rw[hp]; simp⟩
   ·rw[←h]
    show(s.of.set i _).length=_
    rw[zB]
   ·by_cases hji:j=i
    ·rw[hji]; exact hvi
    ·exact hj.up (ho j hji) ⟨[],by rw[ht]; simp⟩ ⟨_,hp⟩
  ·cases h
theorem zL0 {t:List Nd}:∀(l:List Nat) (s s':Nr),(∀k ∈ l,k<s.of.length∧((xC t k).kind=2∨(xC t k).kind=3))→(∀k ∈ l,(xC t k).kind=2→∀c ∈ (xC t k).kids,(xC t c).kind=5)→XF t l s=.ok s' →
  zEg t s s'∧(∀k ∈ l,zHl t s' k)∧s'.procs.map (·.root)=s.procs.map (·.root)++l.filter fun k=>(xC t k).kind==3
 | [],s,s',_,_,h=>by
  injection h with h;subst h;exact⟨zEg.refl t s,fun k hk=>(by cases hk),by simp⟩
 | k::l,s,s',hk,hw,h=>by
  obtain⟨x,e1,e2⟩:=ZA h;have hk0:=hk k (List.mem_cons_self ..)
  have one:zEg t s x∧zHl t x k∧x.procs.map (·.root)=s.procs.map (·.root)++[k].filter fun k=>(xC t k).kind==3:=by
   split at e1
   ·rename_i h2;obtain⟨a,b,c⟩:=zRE hk0.1 h2 (hw k (List.mem_cons_self ..) h2) e1;refine⟨a,b,?_⟩;rw[c];simp[h2]
   ·rename_i h2;have h3:=hk0.2.resolve_left h2;obtain⟨a,b,c⟩:=zTD hk0.1 h3 e1;refine⟨a,b,?_⟩;rw[c];simp[h3]
  obtain⟨a,b,c⟩:=one;obtain⟨r1,r2,r3⟩:=zL0 l x s' (fun y hy=>by have:=hk y (List.mem_cons_of_mem _ hy); exact⟨by rw[a.len]; exact this.1,this.2⟩) (fun y hy=>hw y (List.mem_cons_of_mem _ hy)) e2;refine⟨a.trans r1,fun y hy=>?_,?_⟩
  ·rcases List.mem_cons.1 hy with rfl | hy
   ·exact r1.val _ b
   ·exact r2 y hy
  ·rw[r3,c,List.append_assoc,←List.filter_append]
   rfl
structure zSJ (t:List Nd):Prop where
 R:VA t
 C:zSF t
 P:zO6 t
 pos:0<t.length
 top:(xC t 0).kind=1
 kids:∀k ∈ (xC t 0).kids,(xC t k).kind=2∨(xC t k).kind=3
 zA0:∀i,i<t.length→(xC t i).kind=2→∀c ∈ (xC t i).kids,(xC t c).kind=5
 all:∀j,j<t.length→Sub t 0 j
 apart:(xC t 0).kids.Pairwise (fun a b=>a<b∧∀j,Sub t a j→¬Sub t b j)
structure zEO (t:List Nd)(s:Nr):Prop where
 len:s.of.length=t.length
 zKB:∀k ∈ (xC t 0).kids,zHl t s k
 procs:∀p ∈ s.procs,zO4 t s p
 roots:s.procs.map (·.root)=(xC t 0).kids.filter fun k=>(xC t k).kind==3
theorem zEo {t:List Nd}{p j:Nat}(h:zFS t p j):Sub t p j:=let ⟨_,hk,hs⟩:=h; .kid hk hs
theorem zPq {t:List Nd}(R:VA t){p j:Nat}(h:zFS t p j):j≠p:=by
 have up:∀ {a b:Nat},Sub t a b→a≤b:=fun {a b} hs=>by
  induction hs with
  | self=>omega
  | kid hk _ ih=>have:=(R.up _ _ hk).1; omega
 obtain⟨k,hk,hs⟩:=h;have h1:=(R.up p k hk).1;have h2:=up hs;omega
theorem zMs {t:List Nd}(T:zSJ t){s:Nr}(h:jK t=.ok s):zEO t s:=by
 unfold jK at h;obtain⟨x,e1,e2⟩:=ZA h;have hkl:∀k ∈ (xC t 0).kids,k<t.length:=fun k hk=>(T.R.up 0 k hk).2;obtain⟨a,b,c⟩:=zL0 _ _ x (fun k hk=>⟨by show k<(List.replicate t.length (-1:Int)).length; rw[zD]; exact hkl k hk,T.kids k hk⟩) (fun k hk h2=>T.zA0 k (hkl k hk) h2) e1
 have hxl:x.of.length=t.length:=by rw[a.len]; show(List.replicate t.length (-1:Int)).length=_; rw[zD]
 have c':x.procs.map (·.root)=(xC t 0).kids.filter fun k=>(xC t k).kind==3:=by rw[c]; rfl
 have hin:∀p ∈ x.procs,p.root ∈ (xC t 0).kids∧(xC t p.root).kind=3:=fun p hp=>by
  have:p.root ∈ x.procs.map (·.root):=List.mem_map.2 ⟨p,hp,rfl⟩
  rw[c'] at this;have h1:=List.mem_filter.1 this;exact⟨h1.1,by simpa using h1.2⟩
 have hpw:(x.procs.map (·.root)).Pairwise (fun a b=>a<b∧∀j,Sub t a j→¬Sub t b j):=by rw[c']; exact T.apart.sublist List.filter_sublist
 have hA:zNW t x.procs:=by
  have key:∀(a b:Nat) (p q:Np),x.procs[a]?=some p→x.procs[b]?=some q→a<b→∀i,zFS t p.root i→¬zFS t q.root i:=fun a b p q ha hb hab i h1 h2=>by
   obtain⟨ha1,ha2⟩:=List.getElem?_eq_some_iff.1 ha;obtain⟨hb1,hb2⟩:=List.getElem?_eq_some_iff.1 hb
   have:=(List.pairwise_iff_getElem.1 hpw) a b (by rw[yQ]; exact ha1) (by rw[yQ]; exact hb1) hab
   rw[zA,zA,ha2,hb2] at this;exact this.2 i (zEo h1) (zEo h2)
  intro a b p q ha hb hab i h1 h2
  rcases Nat.lt_or_gt_of_ne hab with h | h
  ·exact key a b p q ha hb h i h1 h2
  ·exact key b a q p hb ha h i h2 h1
 obtain⟨r1,r2,r3,r4,r5⟩:=zJW T.R T.C T.P x.procs.length 0 x s (by omega) a.blocks hxl (fun p hp=>⟨hkl _ (hin p hp).1,(hin p hp).2⟩) hA (fun k p hk=>by omega) e2
 have hr:s.procs.map (·.root)=x.procs.map (·.root):=by
  have:=congrArg (List.map Prod.snd) r3
  simpa [List.map_map,Function.comp_def] using this
 refine⟨r1,fun k hk=>?_,r4,hr.trans c'⟩;have hv:=b k hk
 have ho:s.of.getD k (-1)=x.of.getD k (-1):=r5 k fun p hp hown=>by
  have hp':=hin p hp
  by_cases hpk:p.root=k
  ·exact zPq T.R hown hpk.symm
  ·obtain⟨u,hu1,hu2⟩:=List.getElem_of_mem hp'.1;obtain⟨v,hv1,hv2⟩:=List.getElem_of_mem hk;have hne:u≠v:=fun e=>hpk (by subst e; rw[←hu2,←hv2])
   rcases Nat.lt_or_gt_of_ne hne with hlt | hlt
   ·have:=(List.pairwise_iff_getElem.1 T.apart) u v hu1 hv1 hlt
    rw[hu2,hv2] at this;exact this.2 k (zEo hown) (.self k)
   ·have:=(List.pairwise_iff_getElem.1 T.apart) v u hv1 hu1 hlt
    rw[hu2,hv2] at this;exact this.2 k (.self k) (zEo hown)
 refine⟨fun h2=>?_,fun h3=>?_⟩
 ·rw[ho,r2];exact hv.tab h2
 ·obtain⟨n,p,h4,h5,h6,h7⟩:=hv.proc h3
  have e:(x.procs.map (fun p=>(p.name,p.root)))[n]?=some (p.name,p.root):=by rw[zN,h5]; rfl
  rw[←r3,zN] at e
  cases hs:s.procs[n]? with
  | none=>rw[hs] at e; cases e
  | some q=>
   rw[hs] at e
   simp at e
   exact⟨n,q,ho.trans h4,hs,e.1.trans h6,e.2.trans h7⟩
theorem zEO.zS8 {t:List Nd}(T:zSJ t){s:Nr}(h:zEO t s){j:Nat}(hj:j<t.length)(hk:(xC t j).kind≠1∧(xC t j).kind≠2∧(xC t j).kind≠3∧(xC t j).kind≠5):∃p ∈ s.procs,zFS t p.root j:=by
 rcases zAJ (T.all j hj) with rfl | ⟨k,hm,hs⟩
 ·exact absurd T.top hk.1
 ·rcases T.kids k hm with h2 | h3
  ·rcases zAJ hs with rfl | ⟨c,hc,hs⟩
   ·exact absurd h2 hk.2.1
   ·have h5:=T.zA0 k (T.R.up 0 k hm).2 h2 c hc
    have:=hs.none (T.C.flat c (T.R.up k c hc).2 (.inl h5))
    subst this;exact absurd h5 hk.2.2.2
  ·have:k ∈ s.procs.map (·.root):=by rw[h.roots]; exact List.mem_filter.2 ⟨hm,by simp[h3]⟩
   obtain⟨p,hp,rfl⟩:=List.mem_map.1 this;refine⟨p,hp,?_⟩
   rcases zAJ hs with rfl | hs
   ·exact absurd h3 hk.2.2.1
   ·exact hs
inductive Tm where
 | num (n:Int)
 | var (k:Int)
 | plus
 | minus
 | times
 | neg
 deriving DecidableEq
def zLg (t:List Nd)(of:List Int):Nat→Nat→List Tm
 | 0,_=>[]
 | f+1,i=>
  let out:=(xC t i).kids.flatMap (zLg t of f)
  if (xC t i).kind=21 then [.num (xC t i).num]
  else if (xC t i).kind=22 then [.var (of.getD i (-1))]
  else if (xC t i).kind=23 then out++[.plus]
  else if (xC t i).kind=24 then out++[.minus]
  else if (xC t i).kind=25 then out++[.times]
  else if (xC t i).kind=26 then out++[.neg]
  else []
end Go.Proofs.YtbadjmmjbpeocaaGreatDoor
namespace Go.Proofs.YtbadjmmjbpeocaaGreatDoor
open Go Go.RowKit
structure zBP (t:List Nd):Prop where
 pos:0<t.length
 top:(xC t 0).kind=1
 up:∀i,i<t.length→∀k ∈ (xC t i).kids,i<k∧k<t.length
 ok:∀i,i<t.length→jU ((xC t i).kind:Int) ((xC t i).kids.map fun k=>((xC t k).kind:Int))=true
 le:∀i,i<t.length→(xC t i).kind≤26
 ends:∃ks,zIA t ks∧TT.zBO ks 0=some t.length
theorem zRW {L:List TT.xR}(h:TT.JS L=true)(hsm:∀x ∈ L,TT.zC0 x):zBP (tN (txM L)):=by
 have hX:=zO3 h hsm;rw[TT.zKc] at h;unfold TT.zLa at h;simp only[zG,zF,zO] at h;obtain⟨h0,h1,h2,h3,h4⟩:=h;rw[TT.zDN] at h2;have hk:∀i (hi:i<L.length),∀k ∈ L[i].kids,(i:Int)<k∧k<(L.length:Int):=fun i hi k hk=>h2 i hi k (by rw[TT.zDf L i hi]; exact hk)
 have hnb:∀x ∈ L,x.kind≤26∧jU x.kind (TT.jY L x.kids)=true:=fun x hx=>by
  have:=List.all_eq_true.1 h4 x hx
  unfold TT.zMn at this;simp only[zG,zF] at this;exact⟨this.2.1,this.2.2.2⟩
 have hkids:∀i (hi:i<L.length),(xC (tN (txM L)) i).kids=L[i].kids.map Int.toNat:=fun i hi=>by rw[zFM hi]; rfl
 have hkind:∀i (hi:i<L.length),((xC (tN (txM L)) i).kind:Int)=L[i].kind:=fun i hi=>by
  rw[zFM hi];exact Int.toNat_of_nonneg (hX.nodes _ (yO hi)).kind
 have hlen:(tN (txM L)).length=L.length:=by rw[zAk,JR]
 have hf:∀i,i<(tN (txM L)).length→jU ((xC (tN (txM L)) i).kind:Int) ((xC (tN (txM L)) i).kids.map fun k=>((xC (tN (txM L)) k).kind:Int))=true:=fun i hi=>by
  rw[hlen] at hi
  have e:(xC (tN (txM L)) i).kids.map (fun k=>((xC (tN (txM L)) k).kind:Int))=TT.jY L L[i].kids:=by
   rw[hkids i hi,List.map_map];unfold TT.jY;apply List.map_congr_left;intro k hk'
   have:=hk i hi k hk'
   obtain⟨a,rfl⟩:∃a:Nat,k=(a:Int):=⟨k.toNat,by omega⟩
   have ha:a<L.length:=by omega
   simp only[Function.comp,zI];rw[hkind a ha,TT.zCq ha]
  rw[e,hkind i hi];exact(hnb _ (yO hi)).2
 refine⟨by rw[hlen]; exact h0,?_,fun i hi k hk'=>hX.right.up i k hk',hf,fun i hi=>(by rw[hlen] at hi; have h1:=hkind i hi; have h2:=(hnb _ (yO hi)).1; omega),TT.zBQ L,⟨by rw[TT.XM,hlen],fun i=>?_⟩,by rw[hlen]; exact h3⟩
 ·have e:((xC (tN (txM L)) 0).kind:Int)=1:=by
   rw[hkind 0 h0,←TT.zCq h0];exact h1
  omega
 ·by_cases hi:i<L.length
  ·rw[TT.zDf L i hi,hkids i hi,List.map_map]
   have:∀(l:List Int),(∀k ∈ l,0≤k)→l=l.map ((fun (k:Nat)=>(k:Int)) ∘ Int.toNat):=fun l hl=>by
    conv=>lhs; rw[←List.map_id l]
    apply List.map_congr_left;intro k hk'
    have:=hl k hk'
    simp only[id,Function.comp];omega
   exact this _ fun k hk'=>by have:=hk i hi k hk'; omega
  ·rw[zKP (by omega)];unfold TT.zBQ;rw[yH,zM (by rw[yQ]; omega)]
   rfl
theorem zBP.right {t:List Nd} (F:zBP t):VA t:=zKZ F.up F.ok
theorem zBP.is {t:List Nd} (F:zBP t) {i:Nat}{x:Nat}(hi:i<t.length)(hk:(xC t i).kind=x):jU (x:Int) ((xC t i).kids.map fun k=>((xC t k).kind:Int))=true:=by have:=F.ok i hi; rwa [hk] at this
theorem zBP.cov {t:List Nd} (F:zBP t):zSF t:=by
 refine⟨fun i hi h=>?_,fun i hi h a b e=>?_,fun i hi h a b c e=>?_,fun i hi h a b e=>?_,fun i hi h a b c e=>?_⟩
 ·have:(xC t i).kids.length=0:=by
   rcases h with h | h <;> · have:=F.is hi h; simpa [jU] using this
  exact List.length_eq_zero_iff.1 this
 ·obtain⟨a',b',hab,_,hb⟩:=zLq (show isR _ [20,5]=true by have:=F.is hi h; simpa [jU] using this);rw[e] at hab;injection hab with e1 e2;injection e2 with e2;subst e1; subst e2
  have:=JW (by decide) hb
  omega
 ·obtain⟨a',b',c',hab,_,hb,_⟩:=zRV (show isR _ [20,5,0]=true by have:=F.is hi h; simpa [jU] using this);rw[e] at hab;injection hab with e1 e2;injection e2 with e2;subst e1; subst e2
  have:=JW (by decide) hb
  omega
 ·obtain⟨a',b',hab,ha,hb⟩:=zLq (show isR _ [5,5]=true by have:=F.is hi h; simpa [jU] using this);rw[e] at hab;injection hab with e1 e2;injection e2 with e2;subst e1; subst e2;have h1:=JW (by decide) ha;have h2:=JW (by decide) hb;exact⟨by omega,by omega⟩
 ·obtain⟨a',b',c',hab,ha,hb,_⟩:=zRV (show isR _ [21,21,6]=true by have:=F.is hi h; simpa [jU] using this);rw[e] at hab;injection hab with e1 e2;injection e2 with e2;subst e1; subst e2;have h1:=JW (by decide) ha;have h2:=JW (by decide) hb;exact⟨by omega,by omega⟩
theorem zKQ {t:List Nd}{i:Nat}(h:zB1 ((xC t i).kids.map fun k=>((xC t k).kind:Int)) 0 5=true):∀k ∈ (xC t i).kids,(xC t k).kind=5:=fun k hk=>by
 unfold zB1 at h;simp only[List.drop_zero,List.all_map,zH] at h
 have:=h k hk
 simp[zGQ] at this;omega
theorem zBP.proc {t:List Nd} (F:zBP t):zO6 t:=by
 refine⟨fun i hi h=>?_,fun i hi h=>zKQ (by have:=F.is hi h; simpa [jU] using this)⟩;obtain⟨a,b,hab,ha,hb⟩:=zLq (show isR _ [4,6]=true by have:=F.is hi h; simpa [jU] using this);have h1:=JW (by decide) ha;have h2:=JW (by decide) hb;exact⟨a,b,hab,by omega,by omega⟩
theorem zBP.tree {t:List Nd} (F:zBP t):zSJ t:=by
 obtain⟨ks,hk,he⟩:=F.ends;obtain⟨h1,h2⟩:=zEk hk _ 0 _ he;refine⟨F.right,F.cov,F.proc,F.pos,F.top,zPr F.top (F.ok 0 F.pos),fun i hi h=>zKQ ?_,fun j hj=>(h2 j).2 ⟨zW _,hj⟩,zNH hk he⟩
 have:=F.is hi h
 have:(decide (0<((xC t i).kids.map fun k=>((xC t k).kind:Int)).length)&&zB1 ((xC t i).kids.map fun k=>((xC t k).kind:Int)) 0 5)=true:=by simpa [jU] using this
 rw[zG] at this;exact this.2
theorem zG1 {T:Nat→List Tm}{g:Nat→Option Nat}{len:Nat}(hT:∀a e,g a=some e→a+(T a).length≤e):∀(l:List Nat) (a0 e:Nat),TT.zCS g len (l.map fun (k:Nat)=>(k:Int)) (some a0)=some e→a0+(l.flatMap T).length≤e
 | [],a0,e,h=>by injection h with h; subst h; exact zX _
 | k::l,a0,e,h=>by
  rw[List.map_cons,TT.VV] at h
  split at h
  ·rename_i hc
   have hk:k=a0:=by omega
   subst hk
   cases ha:g k with
   | none=>rw[ha,TT.zAt] at h; cases h
   | some a1=>
    rw[ha] at h;have h1:=hT k a1 ha;have h2:=zG1 hT l a1 e h;rw[List.flatMap_cons,yP];omega
  ·cases h
theorem zJm {t:List Nd}{ks:List (List Int)}(hk:zIA t ks)(of:List Int):∀(f i e:Nat),TT.zFn ks f i=some e→∀q,i+1+((xC t i).kids.flatMap (zLg t of q)).length≤e
 | 0,i,e,h,q=>by cases h
 | f+1,i,e,h,q=>by
  unfold TT.zFn at h
  split at h
  ·rw[hk.2 i] at h;refine zG1 (fun a e ha=>?_) _ _ _ h
   cases q with
   | zero=>show a+0≤e; have:=(zEk hk f a e ha).1; omega
   | succ q=>
    have hr:=zJm hk of f a e ha q;unfold zLg
    dsimp only
    split
    ·show a+1≤e; omega
    split
    ·show a+1≤e; omega
    split
    ·rw[yP]; show a+(_+1)≤e; omega
    split
    ·rw[yP]; show a+(_+1)≤e; omega
    split
    ·rw[yP]; show a+(_+1)≤e; omega
    split
    ·rw[yP]; show a+(_+1)≤e; omega
    ·show a+0≤e; omega
  ·cases h
theorem zBP.few {t:List Nd}(F:zBP t)(of:List Int)(i q:Nat)(hi:i<t.length):i+1+((xC t i).kids.flatMap (zLg t of q)).length≤t.length:=by
 obtain⟨ks,hk,he⟩:=F.ends;have hs:=TT.zFx ks ks.length 0 _ (by omega) he i (zW _) hi;obtain⟨e,h⟩:=Option.isSome_iff_exists.1 hs;have h1:=zJm hk of _ i e h q;have h2:=(TT.zBx h).2;rw[hk.1] at h2;omega
def zCA (x:Int):Prop:=x≠1∧x≠2∧x≠3
theorem zPR {w x:Int}(h:jG w x=true)(hw:w=0∨zCA w):zCA x:=by
 unfold jG at h;unfold zCA at *
 split at h
 ·unfold VD at h;simp only[zG,zF] at h;omega
 ·have h:x=w:=by simpa using h
  omega
theorem XD {l want:List Int}(h:isR l want=true)(hw:∀w ∈ want,w=0∨zCA w):∀x ∈ l,zCA x:=fun x hx=>by
 unfold isR at h;rw[zG] at h;obtain⟨i,hi,rfl⟩:=List.getElem_of_mem hx
 have hl:l.length=want.length:=by simpa using h.1
 have h2:=List.all_eq_true.1 h.2 i (List.mem_range.2 hi)
 have e:l.getD i 0=l[i]:=by simp[yH,hi]
 have e2:want.getD i 0=want[i]'(by omega):=by simp[yH,show i<want.length by omega]
 rw[e,e2] at h2;exact zPR h2 (hw _ (yO _))
theorem zKV {w x:Int}(h:zGQ w x=true)(hw:w=0∨w=1∨zCA w):zCA x:=by
 unfold zGQ at h;unfold zCA at *
 split at h
 ·unfold VD at h;simp only[zG,zF] at h;omega
 ·split at h
  ·unfold zAL at h;simp only[zG,zF] at h;omega
  ·have h:x=w:=by simpa using h
   omega
theorem zJz {l:List Int}{w:Int}(h:zB1 l 0 w=true)(hw:w=0∨w=1∨zCA w):∀x ∈ l,zCA x:=fun x hx=>by
 unfold zB1 at h;rw[List.drop_zero] at h;exact zKV (List.all_eq_true.1 h x hx) hw
theorem zVb:zCA 5:=by unfold zCA; omega
theorem zSE {k:Nat}{l:List Int}(h:jU (k:Int) l=true)(h1:k≠1)(hle:k≤26):∀x ∈ l,zCA x:=by
 have hL:∀w:Int,zCA w→(w=0∨zCA w):=fun w hw=>.inr hw
 have hcs:k=0∨k=2∨k=3∨k=4∨k=5∨k=6∨k=7∨k=8∨k=9∨k=10∨k=11∨k=12∨k=13∨k=14∨k=15∨k=16∨k=17∨k=18∨k=19∨k=20∨k=21∨k=22∨k=23∨k=24∨k=25∨k=26:=by omega
 have hno:(l.length==0)=true→∀x ∈ l,zCA x:=fun hl x hx=>by
  have:l=[]:=List.length_eq_zero_iff.1 (by simpa using hl)
  subst this
  cases hx
 have hw:∀ws:List Int,(∀w ∈ ws,w=0∨zCA w)↔∀w ∈ ws,w=0∨(w≠1∧w≠2∧w≠3):=fun ws=>Iff.rfl;unfold jU at h
 rcases hcs with rfl | rfl | rfl | rfl | rfl | rfl | rfl | rfl | rfl | rfl | rfl | rfl | rfl | rfl | rfl | rfl | rfl | rfl | rfl | rfl | rfl | rfl | rfl | rfl | rfl | rfl
 ·exact hno (by simpa using h)
 ·have h':(decide (0<l.length)&&zB1 l 0 5)=true:=by simpa using h
  rw[zG] at h';exact zJz h'.2 (.inr (.inr zVb))
 ·exact XD (want:=[4,6]) (by simpa using h) (by rw[hw]; decide)
 ·exact zJz (w:=5) (by simpa using h) (.inr (.inr zVb))
 ·exact hno (by simpa using h)
 ·exact zJz (w:=1) (by simpa using h) (.inr (.inl rfl))
 ·exact XD (want:=[20,5]) (by simpa using h) (by rw[hw]; decide)
 ·exact XD (want:=[20,5,0]) (by simpa using h) (by rw[hw]; decide)
 ·have h':(decide (1<l.length)&&(l.getD 0 0==20&&zB1 l 1 0))=true:=by simpa using h
  simp only[zG] at h';obtain⟨_,h2,h3⟩:=h';intro x hx
  cases l with
  | nil=>cases hx
  | cons y r=>
   rcases List.mem_cons.1 hx with rfl | hx
   ·have:x=20:=by simpa using h2
    unfold zCA;omega
   ·unfold zB1 at h3;exact zKV (List.all_eq_true.1 h3 x hx) (.inl rfl)
 ·exact XD (want:=[20]) (by simpa using h) (by rw[hw]; decide)
 ·exact XD (want:=[5,5]) (by simpa using h) (by rw[hw]; decide)
 ·exact XD (want:=[5]) (by simpa using h) (by rw[hw]; decide)
 ·have h':(isR l [5]||isR l [20])=true:=by simpa using h
  rcases(Bool.or_eq_true _ _).mp h' with h' | h'
  ·exact XD h' (by rw[hw]; decide)
  ·exact XD h' (by rw[hw]; decide)
 ·have h':(isR l [0,0,6]||isR l [0,0,6,6])=true:=by simpa using h
  rcases(Bool.or_eq_true _ _).mp h' with h' | h'
  ·exact XD h' (by rw[hw]; decide)
  ·exact XD h' (by rw[hw]; decide)
 ·exact XD (want:=[21,21,6]) (by simpa using h) (by rw[hw]; decide)
 ·exact XD (want:=[0]) (by simpa using h) (by rw[hw]; decide)
 ·exact XD (want:=[0]) (by simpa using h) (by rw[hw]; decide)
 ·exact hno (by simpa using h)
 ·exact hno (by simpa using h)
 ·exact XD (want:=[0]) (by simpa using h) (by rw[hw]; decide)
 ·exact hno (by simpa using h)
 ·exact hno (by simpa using h)
 ·exact XD (want:=[0,0]) (by simpa using h) (by rw[hw]; decide)
 ·exact XD (want:=[0,0]) (by simpa using h) (by rw[hw]; decide)
 ·exact XD (want:=[0,0]) (by simpa using h) (by rw[hw]; decide)
 ·exact XD (want:=[0]) (by simpa using h) (by rw[hw]; decide)
theorem zBP.zTw {t:List Nd} (F:zBP t) {i k:Nat}(hi:i<t.length)(h1:(xC t i).kind≠1)(hk:k ∈ (xC t i).kids):zCA ((xC t k).kind:Int):=
 zSE (F.ok i hi) h1 (F.le i hi) _ (List.mem_map.2 ⟨k,hk,rfl⟩)
theorem zBP.below {t:List Nd} (F:zBP t) {i j:Nat}(h:Sub t i j)(hi:i<t.length)(h1:(xC t i).kind≠1):j=i∨zCA ((xC t j).kind:Int):=by
 induction h with
 | self i=>exact .inl rfl
 | @kid i k j hk hs ih=>
  have hl:=F.zTw hi h1 hk
  rcases ih (F.up i hi k hk).2 (by unfold zCA at hl; omega) with rfl | h
  ·exact .inr hl
  ·exact .inr h
theorem zBP.zUZ {t:List Nd} (F:zBP t) {j:Nat}(hj:j<t.length)(hk:(xC t j).kind=2∨(xC t j).kind=3):j ∈ (xC t 0).kids:=by
 rcases zAJ (F.tree.all j hj) with rfl | ⟨k,hm,hs⟩
 ·have:=F.top; omega
 ·rcases F.below hs (F.up 0 F.pos k hm).2 (by have:=F.tree.kids k hm; omega) with rfl | h
  ·exact hm
  ·unfold zCA at h; omega
def zE8 (t:List Nd):Nat→Option Nat
 | 0=>none
 | k+1=>if (xC t k).kind=3 then some k else zE8 t k
theorem zBP.last {t:List Nd} (F:zBP t) {r:Nat}(hr:r ∈ (xC t 0).kids)(h3:(xC t r).kind=3):∀m,r<m→m≤t.length→(∀j,r≤j→j<m→Sub t r j)→zE8 t m=some r
 | 0,h,_,_=>absurd h (by omega)
 | m+1,h,hm,hs=>by
  unfold zE8
  by_cases hmr:m=r
  ·subst hmr;rw[if_pos h3]
  ·have hne:(xC t m).kind≠3:=fun h=>by
    rcases F.below (hs m (by omega) (by omega)) (F.up 0 F.pos r hr).2 (by omega) with e | e
    ·exact hmr e
    ·unfold zCA at e; omega
   rw[if_neg hne];exact zBP.last F hr h3 m (by omega) (by omega) fun j h1 h2=>hs j h1 (by omega)
theorem zBP.zSC {t:List Nd} (F:zBP t) {r j:Nat}(hr:r ∈ (xC t 0).kids)(h3:(xC t r).kind=3)(hj:j<t.length)(ho:zFS t r j):zE8 t j=some r:=by
 have hrl:=(F.up 0 F.pos r hr).2;obtain⟨ks,hk,he⟩:=F.ends;have hs:=TT.zFx ks ks.length 0 _ (by omega) he r (zW _) hrl;obtain⟨e,h⟩:=Option.isSome_iff_exists.1 hs;obtain⟨h1,h2⟩:=zEk hk _ r e h;have hj2:=(h2 j).1 (zEo ho);have hne:=zPq F.right ho;exact F.last hr h3 j (by omega) (by omega) fun i h3 h4=>(h2 i).2 ⟨h3,by omega⟩
structure zUn (t:List Nd)(s:Nr)(i:Nat):Prop where
 proc:(xC t i).kind=3→∃(n:Nat) (p:Np),s.of.getD i (-1)=(n:Int)∧s.procs[n]?=some p∧p.name=(xC t i).text∧p.root=i
 tab:(xC t i).kind=2∨(xC t i).kind=20→∃n:Nat,s.of.getD i (-1)=(n:Int)∧(s.xH[n]?).map (·.name)=some (xC t i).text
 var:zDq (xC t i).kind→∃(r m n:Nat) (p:Np),zE8 t i=some r∧s.of.getD r (-1)=(m:Int)∧s.procs[m]?=some p∧s.of.getD i (-1)=(n:Int)∧p.vars[n]?=some (xC t i).text
theorem zSa {t:List Nd}(F:zBP t){s:Nr}(h:zEO t s){i:Nat}(hi:i<t.length):zUn t s i:=by
 have own:(xC t i).kind=20∨zDq (xC t i).kind→∃p ∈ s.procs,zFS t p.root i:=fun hk=>h.zS8 F.tree hi (by
  rcases hk with hk | hk
  ·omega
  ·unfold zDq at hk; omega)
 refine⟨fun h3=>(h.zKB i (F.zUZ hi (.inr h3))).proc h3,fun hk=>?_,fun hk=>?_⟩
 ·rcases hk with hk | hk
  ·exact(h.zKB i (F.zUZ hi (.inl hk))).tab hk
  ·obtain⟨p,hp,ho⟩:=own (.inl hk);exact((h.procs p hp).names i ho).2 hk
 ·obtain⟨p,hp,ho⟩:=own (.inr hk);obtain⟨n,h1,h2⟩:=((h.procs p hp).names i ho).1 hk;have hr:p.root ∈ s.procs.map (·.root):=List.mem_map.2 ⟨p,hp,rfl⟩;rw[h.roots] at hr;obtain⟨hr1,hr2⟩:=List.mem_filter.1 hr
  have hr3:(xC t p.root).kind=3:=by simpa using hr2
  obtain⟨m,q,e1,e2,e3,e4⟩:=(h.zKB p.root hr1).proc hr3;obtain⟨a,ha⟩:=List.mem_iff_getElem?.1 hp
  have hpq:q=p:=by
   have hnd:(s.procs.map (·.root)).Pairwise (· < ·):=by
    rw[h.roots];exact(F.tree.apart.imp fun h=>h.1).filter _
   have g1:(s.procs.map (·.root))[a]?=some p.root:=by rw[zN,ha]; rfl
   have g2:(s.procs.map (·.root))[m]?=some p.root:=by rw[zN,e2,Option.map_some,e4]
   obtain⟨l1,g1⟩:=List.getElem?_eq_some_iff.1 g1;obtain⟨l2,g2⟩:=List.getElem?_eq_some_iff.1 g2
   have ham:a=m:=by
    rcases Nat.lt_trichotomy a m with hlt | heq | hgt
    ·have:=List.pairwise_iff_getElem.1 hnd a m l1 l2 hlt; omega
    ·exact heq
    ·have:=List.pairwise_iff_getElem.1 hnd m a l2 l1 hgt; omega
   subst ham;rw[ha] at e2;injection e2 with e2;exact e2.symm
  subst hpq;exact⟨q.root,m,n,q,F.zSC hr1 hr3 hi ho,e1,e2,h1,h2⟩
end Go.Proofs.YtbadjmmjbpeocaaGreatDoor
