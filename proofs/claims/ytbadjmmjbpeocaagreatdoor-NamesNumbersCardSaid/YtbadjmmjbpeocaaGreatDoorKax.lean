/- A law on regions that draw their order, over any program, with one operation (a move) that may come late. (and what follows of it). The conditions stand at each lemma. -/
import Derived.Test.YtbadjmmjbpeocaaGreatDoorKaa
import Derived.Test.YtbadjmmjbpeocaaGreatDoorKaw
set_option linter.unusedVariables false
set_option linter.unusedSimpArgs false
set_option maxRecDepth 100000
set_option maxHeartbeats 16000000
namespace Go.Proofs.YtbadjmmjbpeocaaGreatDoor
open Go Go.RowKit
section
variable {P:Program} {ops:Array Oper} {R:World→World→Prop} {w0:World}
def zEu (ops:Array Oper)(m e:Nat)(x d:Tmp):Bool:=
 (decide (e<m)&&d != x&&(match ops[e]? with
  | none=>false
  | some o=>o.guard.isNone&&(match o.op with | .move (.tmp y)=>y==x | _=>false)&&o.dst==some d&&o.after.all fun f=>!Region.binds .any f)) &&
 (List.range ops.size).all fun i=>match ops[i]? with
  | none=>false
  | some o=>(i==e||(o.dst != some d&&o.dst != some x))&&(decide (i<m) ||
   (o.guard.isNone&&(match o.op with | .select _ _=>false | _=>true)&&o.after.all (fun f=>!Region.binds .any f||decide (f.on<i))&&((List.range i).all fun j=>j==e||zBY ops 8 i j)&&(!((o.looksAt ops).contains d)||zBY ops 8 i e)))
theorem zLB {m e:Nat}{x d:Tmp}(h:zEu ops m e x d=true):e<m∧d≠x∧∃o,ops[e]?=some o∧o.guard=none∧o.op=.move (.tmp x)∧o.dst=some d∧∀f ∈ o.after,Region.binds .any f=true→False:=by
 unfold zEu at h;simp only[zG,zF,zE] at h;obtain⟨⟨⟨h1,h2⟩,h3⟩,_⟩:=h;refine⟨h1,h2,?_⟩
 cases ho:ops[e]? with
 | none=>rw[ho] at h3; cases h3
 | some o=>
  simp only[ho,zG,zO,Option.isNone_iff_eq_none] at h3;obtain⟨⟨⟨a,b⟩,c⟩,f⟩:=h3;refine⟨o,rfl,a,?_,c,fun g hg hb=>?_⟩
  ·generalize o.op=q at *
   cases q with
   | move y=>
    cases y with
    | tmp y=>simp only[zO] at b; rw[b]
    | _=>cases b
   | _=>cases b
  ·have:=Array.all_eq_true_iff_forall_mem.1 f g hg
   rw[hb] at this
   cases this
theorem zPa {m e:Nat}{x d:Tmp}(h:zEu ops m e x d=true){i:Nat}{o:Oper}(ho:ops[i]?=some o):(i=e∨(o.dst≠some d∧o.dst≠some x))∧(i<m ∨
  (o.guard=none∧(match o.op with | .select _ _=>false | _=>true)=true∧(∀f ∈ o.after,Region.binds .any f=true→f.on<i)∧(∀j,j<i→j≠e→zBY ops 8 i j=true)∧(d ∈ o.looksAt ops→zBY ops 8 i e=true))):=by
 have hlt:i<ops.size:=(Array.getElem?_eq_some_iff.1 ho).1;unfold zEu at h;simp only[zG] at h;have h1:=List.all_eq_true.1 h.2 i (List.mem_range.2 hlt);simp only[ho,zG,Bool.or_eq_true,zF,zO,zE,Option.isNone_iff_eq_none,Bool.not_eq_true'] at h1;refine⟨h1.1,h1.2.imp id fun h2=>?_⟩;obtain⟨⟨⟨⟨a,b⟩,c⟩,g⟩,f⟩:=h2;refine⟨a,b,fun f hf hb=>?_,fun j hj hne=>?_,fun hd=>?_⟩
 ·have:=Array.all_eq_true_iff_forall_mem.1 c f hf
  simpa [hb] using this
 ·have:=List.all_eq_true.1 g j (List.mem_range.2 hj)
  simpa [hne] using this
 ·rcases f with f | f
  ·have:(o.looksAt ops).contains d=true:=by simpa using hd
   rw[this] at f
   cases f
  ·exact f
theorem zQP {m e:Nat}{x d:Tmp}(h:zEu ops m e x d=true){i:Nat}{o:Oper}(ho:ops[i]?=some o)(hne:i≠e):o.dst≠some d∧o.dst≠some x:=(zPa h ho).1.resolve_left hne
theorem zBq {m e:Nat}{x d:Tmp}(h:zEu ops m e x d=true){i:Nat}{o:Oper}(ho:ops[i]?=some o)(hm:m≤i):o.guard=none∧(∀cs b,o.op≠.select cs b)∧(∀f ∈ o.after,Region.binds .any f=true→f.on<i)∧(∀j,j<i→j≠e→zBY ops 8 i j=true)∧(d ∈ o.looksAt ops→zBY ops 8 i e=true):=by
 obtain⟨a,b,c,f,g⟩:=(zPa h ho).2.resolve_left (by omega);exact⟨a,fun cs q e=>(by rw[e] at b; cases b),c,f,g⟩
def zDd (P:Program)(Q:Act→World→Prop):List Oper→Act→World→Prop
 | [],a,w=>Q a w
 | o::l,a,w=>xB P a.eval o w fun v w'=>zDd P Q l (a.put o.dst v) w'
theorem zHg {m e:Nat}{x d:Tmp}(hT:zEu ops m e x d=true){Q':Exit→Act→World→Prop}:∀(n k:Nat) (listed:Array Bool) (a:Act) (w:World),m≤k→k+n=ops.size→listed.size=ops.size→(∀j,j<ops.size→listed.getD j true=decide (j<k)) →
  (∀i o,ops[i]?=some o→listed.getD i false=true→∀e ∈ o.after,Region.binds .any e=true→listed.getD e.on false=true) →
  zDd P (fun a w=>Q' .normal a w) (ops.toList.drop k) a w→wpAny P .any ops Q' n listed a w:=by
 intro n
 induction n with
 | zero=>
  intro k listed a w hmk hkn hls hl hcl h
  have hk:k=ops.size:=by omega
  subst hk;refine⟨?_,by rw[List.drop_of_length_le (by simp)] at h; exact h⟩
  cases hr:Region.ready .any ops listed with
  | nil=>rfl
  | cons x xs=>
   exfalso
   have hm:x ∈ Region.ready .any ops listed:=by rw[hr]; exact List.mem_cons_self
   obtain⟨h0,o,ho,_⟩:=mem_ready.1 hm;have hx:=(Array.getElem?_eq_some_iff.1 ho).1;rw[hl x hx] at h0
   simp at h0
   omega
 | succ n ih=>
  intro k listed a w hmk hkn hls hl hcl h
  have hk:k<ops.size:=by omega
  have hok:ops[k]?=some ops[k]:=Array.getElem?_eq_getElem hk
  have hfalse:∀j,j<ops.size→listed.getD j false=listed.getD j true:=fun j hj=>by
   have:j<listed.size:=by omega
   simp[this]
  have only:∀i ∈ Region.ready .any ops listed,i=k:=by
   intro i hi;obtain⟨h0,o,ho,hall⟩:=mem_ready.1 hi;have hi':=(Array.getElem?_eq_some_iff.1 ho).1;rw[hl i hi'] at h0
   have hge:k≤i:=by simpa using h0
   by_cases hik:i=k
   ·exact hik
   ·exfalso
    have hr:=(zBq hT ho (by omega)).2.2.2.1 k (by omega) (by have:=(zLB hT).1; omega)
    have:=JJ hcl 8 i k o ho hall hr
    rw[hfalse k hk,hl k hk] at this
    simp at this
  have hkr:k ∈ Region.ready .any ops listed:=by
   rw[mem_ready];refine⟨by rw[hl k hk]; simp,_,hok,fun e he hb=>?_⟩
   have:=(zBq hT hok hmk).2.2.1 e he hb
   rw[hfalse e.on (by omega),hl e.on (by omega)]
   simpa using this
  refine⟨fun hr=>(by rw[hr] at hkr; cases hkr),fun i hi=>?_⟩;have hik:=only i hi;subst hik
  have hd:ops.toList.drop i=ops[i]::ops.toList.drop (i+1):=by
   rw[List.drop_eq_getElem_cons (by simpa using hk)]
   simp
  rw[hd] at h
  have go:∀a' w',zDd P (fun a w=>Q' .normal a w) (ops.toList.drop (i+1)) a' w'→wpAny P .any ops Q' n (listed.setIfInBounds i true) a' w':=by
   intro a' w' h';refine ih (i+1) _ a' w' (by omega) (by omega) (by simpa using hls) (fun j hj=>?_) (fun j o ho hjl e he hb=>?_) h'
   ·by_cases hji:j=i
    ·subst hji
     have:j<listed.size:=by omega
     simp[this]
    ·rw[getD_set_ne true (Ne.symm hji),hl j hj]
     have:(j<i)↔(j<i+1):=by omega
     simp[this]
   ·by_cases hji:j=i
    ·subst hji;have hlt:=(zBq hT ho hmk).2.2.1 e he hb;apply getD_set_true;rw[hfalse e.on (by omega),hl e.on (by omega)]
     simpa using hlt
    ·rw[getD_set_ne false (Ne.symm hji)] at hjl;exact getD_set_true (hcl j o ho hjl e he hb)
  unfold wpOp;simp only[hok];simp only[zDd] at h
  have hw:Region.wanted ops[i] (yielded ops a.tmps)=true:=by simp[Region.wanted,(zBq hT hok hmk).1]
  rw[if_pos hw];exact .inl (YW h fun v w' h'=>go _ _ h')
theorem zQ3 (a:Act){d:Tmp}{d1:Option Tmp}(u v:Value)(h:d1≠some d):(a.put (some d) u).put d1 v=(a.put d1 v).put (some d) u:=by
 refine zF6 (fun t=>?_) (by rw[XP,XP,XP,XP])
 by_cases hd:d=t
 ·subst hd;rw[jD _ _ _ h,XK,XK,jD _ _ _ h]
 ·have hd2:(some d:Option Tmp)≠some t:=fun e=>hd (by injection e);rw[jD (a.put d1 v) _ _ hd2]
  by_cases h1:d1=some t
  ·subst h1;rw[XK,XK,jD _ _ _ hd2]
  ·rw[jD _ _ _ h1,jD _ _ _ hd2,jD _ _ _ h1]
theorem zNa (a:Act){x:Tmp}{d1:Option Tmp}(v:Value)(h:d1≠some x):(a.put d1 v).eval (.tmp x)=a.eval (.tmp x):=by
 have:=jD a d1 v h
 simp[Act.eval,this]
theorem zMa {m e:Nat}{x d:Tmp}(hT:zEu ops m e x d=true){Q':Exit→Act→World→Prop}:∀(n k:Nat) (listed:Array Bool) (a:Act) (w:World),m≤k→k≤ops.size→k+n=ops.size+1→listed.size=ops.size→listed.getD e true=false→(∀j,j<ops.size→j≠e→listed.getD j true=decide (j<k)) →
  (∀i o,ops[i]?=some o→listed.getD i false=true→∀e ∈ o.after,Region.binds .any e=true→listed.getD e.on false=true) →
  zDd P (fun a w=>Q' .normal a w) (ops.toList.drop k) (a.put (some d) (a.eval (.tmp x))) w→wpAny P .any ops Q' n listed a w:=by
 intro n;obtain⟨hem,hdx,oe,hoe,hge,hope,hde,hae⟩:=zLB hT;have hes:e<ops.size:=(Array.getElem?_eq_some_iff.1 hoe).1
 induction n with
 | zero=>intro k listed a w hmk hks hkn; omega
 | succ n ih=>
  intro k listed a w hmk hks hkn hls hle hl hcl h
  have hfalse:∀j,j<ops.size→listed.getD j false=listed.getD j true:=fun j hj=>by
   have:j<listed.size:=by omega
   simp[this]
  have her:e ∈ Region.ready .any ops listed:=mem_ready.2 ⟨hle,oe,hoe,fun f hf hb=>(hae f hf hb).elim⟩;refine⟨fun hr=>(by rw[hr] at her; cases her),fun i hi=>?_⟩;obtain⟨h0,o,ho,hall⟩:=mem_ready.1 hi;have hlt:i<ops.size:=(Array.getElem?_eq_some_iff.1 ho).1
  have hil:i<listed.size:=by omega
  have hcl2:∀j o',ops[j]?=some o'→(listed.setIfInBounds i true).getD j false=true→∀f ∈ o'.after,Region.binds .any f=true→(listed.setIfInBounds i true).getD f.on false=true:=fun j o' hj hjl f hf hb=>by
   by_cases hji:j=i
   ·subst hji;rw[ho] at hj;obtain rfl:=Option.some.inj hj;exact getD_set_true (hall f hf hb)
   ·rw[getD_set_ne false (Ne.symm hji)] at hjl;exact getD_set_true (hcl j o' hj hjl f hf hb)
  unfold wpOp;simp only[ho]
  by_cases hie:i=e
  ·subst hie;rw[hoe] at ho;obtain rfl:=Option.some.inj ho
   have hw:Region.wanted oe (yielded ops a.tmps)=true:=by simp[Region.wanted,hge]
   rw[if_pos hw];refine .inl (YW (F:=fun v w'=>v=a.eval (.tmp x)∧w'=w) (by unfold xB; simp[execOp,hope]) fun v w' hv=>?_);obtain⟨rfl,rfl⟩:=hv;rw[hde];refine zHg hT n k _ _ w' hmk (by omega) (by simpa using hls) (fun j hj=>?_) hcl2 h
   by_cases hji:j=i
   ·subst hji
    have:j<k:=by omega
    simp[hil,this]
   ·rw[getD_set_ne true (Ne.symm hji),hl j hj hji]
  ·have hge':k≤i:=by
    rw[hl i hlt hie] at h0
    simpa using h0
   obtain⟨hg,hsel,hbk,hre,hlo⟩:=zBq hT ho (by omega)
   have hik:i=k:=by
    rcases Nat.lt_or_ge k i with h1 | h1
    ·exfalso
     have hk:k<ops.size:=by omega
     have:=JJ hcl 8 i k o ho hall (hre k h1 (by omega))
     rw[hfalse k hk,hl k hk (by omega)] at this
     simp at this
    ·omega
   subst hik
   have hnd:d ∉ o.looksAt ops:=fun hd=>by
    have:=JJ hcl 8 i e o ho hall (hlo hd)
    rw[hfalse e hes,hle] at this
    cases this
   have hoi:ops[i]=o:=by
    have:=Array.getElem?_eq_getElem hlt
    rw[ho] at this;exact(Option.some.inj this).symm
   have hdr:ops.toList.drop i=o::ops.toList.drop (i+1):=by
    rw[List.drop_eq_getElem_cons (by simpa using hlt)];simp[hoi]
   have look:∀t ∈ o.looksAt ops,a.tmps[t]?=(a.put (some d) (a.eval (.tmp x))).tmps[t]?:=fun t ht=>(jD _ _ _ fun e'=>hnd (by injection e' with e'; rw[e']; exact ht)).symm;rw[hdr] at h;simp only[zDd] at h;rw[←YG o hsel a _ look] at h
   have hw:Region.wanted o (yielded ops a.tmps)=true:=by simp[Region.wanted,hg]
   rw[if_pos hw];obtain⟨hd1,hd2⟩:=zQP hT ho hie;refine .inl (YW h fun v w' h'=>ih (i+1) _ _ w' (by omega) (by omega) (by omega) (by simpa using hls) (by rw[getD_set_ne true hie]; exact hle) (fun j hj hje=>?_) hcl2 ?_)
   ·by_cases hji:j=i
    ·subst hji; simp[hil]
    ·rw[getD_set_ne true (Ne.symm hji),hl j hj hje]
     have:(j<i)↔(j<i+1):=by omega
     simp[this]
   ·rw[zNa _ _ hd2,←zQ3 _ _ _ hd1];exact h'
theorem zDU.full {m:Nat}{ks:List Take}{a0 a:Act}{listed:Array Bool}{w:World}{vs:Nat→Value}(hB:YF ops m=true)(hway:zDU P ops m R w0 ks a0 listed a w vs)(all:∀i,i<m→listed.getD i true=true):a=YC ops ks vs a0 m:=by
 refine zF6 (fun t=>?_) (by rw[hway.defers,zBC])
 by_cases hex:∃(i:Nat) (o:Oper),i<m∧ops[i]?=some o∧o.dst=some t
 ·obtain⟨i,o,him,hi,hd⟩:=hex;have hl:=all i him;rw[hway.done i o t him hi hd hl,zAb hB (j:=i) (by rw[hi]; exact hd) him (zX _),Take.zD2 (hway.facts i him hl)]
 ·rw[hway.other t fun i o him hi hd=>absurd ⟨i,o,him,hi,hd⟩ hex,YN];intro j hj e;obtain⟨o,ho,hd⟩:=Option.bind_eq_some_iff.1 e;exact hex ⟨j,o,hj,ho,hd⟩
theorem zDU.look {m:Nat}{ks:List Take}{a0 a:Act}{listed:Array Bool}{w:World}{vs:Nat→Value}(hB:YF ops m=true)(hls:listed.size=ops.size)(hway:zDU P ops m R w0 ks a0 listed a w vs){i:Nat}{o:Oper}(him:i<m)(hlt:i<ops.size)(ho:ops[i]?=some o)(h0:listed.getD i true=false)
  (hall:∀e ∈ o.after,Region.binds .any e=true→listed.getD e.on false=true):∀t ∈ o.looksAt ops,a.tmps[t]?=(YC ops ks vs a0 i).tmps[t]?:=by
 have hms:=JD hB
 have conv:∀(listed:Array Bool) (j:Nat),listed.size=ops.size→j<ops.size→listed.getD j false=listed.getD j true:=fun listed j hls hj=>by
  have:j<listed.size:=by omega
  simp[this]
 intro t ht
 by_cases hex:∃(j:Nat) (p:Oper),j<m∧ops[j]?=some p∧p.dst=some t
 ·obtain⟨j,p,hjm,hj,hd⟩:=hex
  rcases(vH hB him hjm ho hj hd).2 ht with ⟨hji,e,he,heq,hb⟩ | ⟨hij,e,he,heq,hb⟩
  ·have hlj:listed.getD j true=true:=by
    have h1:=hall e he hb;rw[heq,conv listed j hls (by omega)] at h1;exact h1
   rw[hway.done j p t hjm hj hd hlj,zAb hB (j:=j) (by rw[hj]; exact hd) hji (by omega),Take.zD2 (hway.facts j hjm hlj)]
  ·have hnl:listed.getD j true=false:=by
    cases hf:listed.getD j true with
    | false=>rfl
    | true=>
     have:=hway.closed j p hj (by rw[conv listed j hls (by omega)]; exact hf) e he hb
     rw[heq,conv listed i hls hlt,h0] at this
     cases this
   rw[hway.other t fun k ok hkm hk hdk=>by
     have:=(vH hB hkm hjm hk hj hd).1 hdk
     subst this
     exact hnl,YN]
   intro k hk e';obtain⟨ok,hok,hdk⟩:=Option.bind_eq_some_iff.1 e'
   have:=(vH hB (by omega) hjm hok hj hd).1 hdk
   omega
 ·rw[hway.other t fun i o him hi hd=>absurd ⟨i,o,him,hi,hd⟩ hex,YN];intro j hj e;obtain⟨o,ho,hd⟩:=Option.bind_eq_some_iff.1 e;exact hex ⟨j,o,by omega,ho,hd⟩
theorem zDU.step {m:Nat}{ks:List Take}{a0 a:Act}{listed:Array Bool}{w w':World}{v:Value}{vs:Nat→Value}(hR:∀a b c,R a b→R b c→R a c)(hB:YF ops m=true)(hls:listed.size=ops.size)
  (hst:∀i o,i<m→ops[i]?=some o→∀v w w',(ks.getD i (.det undef)).says v w→R w w'→(ks.getD i (.det undef)).says v w')
  (hway:zDU P ops m R w0 ks a0 listed a w vs) {i:Nat} {o:Oper} (him:i<m) (ho:ops[i]?=some o) (h0:listed.getD i true=false) (hall:∀e ∈ o.after,Region.binds .any e=true→listed.getD e.on false=true)
  (hv:(ks.getD i (.det undef)).says v w') (hww:R w w'∨w'=w):zDU P ops m R w0 ks a0 (listed.setIfInBounds i true) (a.put o.dst v) w' (fun j=>if j=i then v else vs j):=by
 have hms:=JD hB;have hlt:i<ops.size:=(Array.getElem?_eq_some_iff.1 ho).1
 have hil:i<listed.size:=by omega
 have hself:(listed.setIfInBounds i true).getD i true=true:=by simp[hil]
 have hoth:∀j,j≠i→(listed.setIfInBounds i true).getD j true=listed.getD j true:=fun j hj=>getD_set_ne true (Ne.symm hj)
 have hst':∀j oj,j<m→ops[j]?=some oj→∀v,(ks.getD j (.det undef)).says v w→(ks.getD j (.det undef)).says v w':=fun j oj hjm hj v hs=>by
  rcases hww with hww | rfl
  ·exact hst j oj hjm hj v w w' hs hww
  ·exact hs
 refine⟨?_,by rw[XP]; exact hway.defers,fun j hj hl=>?_,fun j p t hjm hj hd hl=>?_,fun t ht=>?_,fun j p hj hl e he hb=>?_,fun j hj hjs=>?_⟩
 ·rcases hww with hww | rfl
  ·exact hR _ _ _ hway.world hww
  ·exact hway.world
 ·by_cases hji:j=i
  ·subst hji; simpa using hv
  ·rw[hoth j hji] at hl;simp only[if_neg hji];exact hst' j _ hj (Array.getElem?_eq_getElem (by omega)) _ (hway.facts j hj hl)
 ·by_cases hji:j=i
  ·subst hji;rw[ho] at hj;obtain rfl:=Option.some.inj hj
   rw[hd,XK,hway.other t fun k ok hkm hk hdk=>by
    have:=(vH hB hkm him hk ho hd).1 hdk
    subst this
    exact h0]
   simp
  ·rw[hoth j hji] at hl;rw[jD _ _ _ (fun e=>hji ((vH hB him hjm ho hj hd).1 e).symm),hway.done j p t hjm hj hd hl];simp[hji]
 ·rw[jD _ _ _ (fun e=>by
   have:=ht i o him ho e
   rw[hself] at this
   cases this)]
  refine hway.other t fun k ok hkm hk hdk=>?_
  have:=ht k ok hkm hk hdk
  by_cases hki:k=i
  ·subst hki; exact h0
  ·rwa [hoth k hki] at this
 ·by_cases hji:j=i
  ·subst hji;rw[ho] at hj;obtain rfl:=Option.some.inj hj;exact getD_set_true (hall e he hb)
  ·rw[getD_set_ne false (Ne.symm hji)] at hl;exact getD_set_true (hway.closed j p hj hl e he hb)
 ·rw[hoth j (by omega)];exact hway.fresh j hj hjs
theorem zDU.zU1 {m:Nat}{ks:List Take}{a0 a:Act}{listed:Array Bool}{w:World}{vs:Nat→Value}(hB:YF ops m=true)(hls:listed.size=ops.size)
  (how:∀vs i o,i<m→ops[i]?=some o→zMV P ops R w0 o (YC ops ks vs a0 i) (JZ ops ks vs i) (ks.getD i (.det undef)).says)
  (hway:zDU P ops m R w0 ks a0 listed a w vs) {i:Nat} {o:Oper} (him:i<m) (ho:ops[i]?=some o) (h0:listed.getD i true=false) (hall:∀e ∈ o.after,Region.binds .any e=true→listed.getD e.on false=true) :
  if Region.wanted o (yielded ops a.tmps)=true then xB P a.eval o w (fun v w'=>(ks.getD i (.det undef)).says v w'∧R w w') else (ks.getD i (.det undef)).says undef w:=by
 have hms:=JD hB;have hlt:i<ops.size:=(Array.getElem?_eq_some_iff.1 ho).1
 have conv:∀(listed:Array Bool) (j:Nat),listed.size=ops.size→j<ops.size→listed.getD j false=listed.getD j true:=fun listed j hls hj=>by
  have:j<listed.size:=by omega
  simp[this]
 have look:=hway.look hB hls him hlt ho h0 hall
 have ow:=how vs i o him ho w hway.world (fun p hp ⟨t,hpt,ht⟩=>by
  obtain⟨j,hj,hpd,hs⟩:=VX hp;rw[hpt] at hpd;obtain⟨p',hp',hd'⟩:=Option.bind_eq_some_iff.1 hpd.symm
  rcases(vH hB him (by omega) ho hp' hd').2 ht with ⟨_,e,he,heq,hb⟩ | ⟨hij,_⟩
  ·have h1:=hall e he hb;rw[heq,conv listed j hls (by omega)] at h1;exact hs w (hway.facts j (by omega) h1)
  ·omega)
 rw[←zAF o a _ look,←YG o (XV hB him ho).1 a _ look] at ow;exact ow
theorem zLl {m e:Nat}{x d:Tmp}(hR:∀a b c,R a b→R b c→R a c)(hB:YF ops m=true)(hT:zEu ops m e x d=true){ks:List Take}{a0:Act}{Q':Exit→Act→World→Prop}
  (hst:∀i o,i<m→ops[i]?=some o→∀v w w',(ks.getD i (.det undef)).says v w→R w w'→(ks.getD i (.det undef)).says v w')
  (how:∀vs i o,i<m→ops[i]?=some o→zMV P ops R w0 o (YC ops ks vs a0 i) (JZ ops ks vs i) (ks.getD i (.det undef)).says)
  (hQ:∀vs w,R w0 w→(∀p ∈ JZ ops ks vs m,p.2 w)→zDd P (fun a w=>Q' .normal a w) (ops.toList.drop m) (YC ops ks vs a0 m) w) :
  ∀(n:Nat) (listed:Array Bool) (U:List Nat) (a:Act) (w:World) (vs:Nat→Value),listed.size=ops.size→U.length=n→U.Nodup→(∀i,i ∈ U↔i<m∧listed.getD i true=false) →
   zDU P ops m R w0 ks a0 listed a w vs→wpAny P .any ops Q' (n+(ops.size-m)) listed a w:=by
 have hms:=JD hB
 have conv:∀(listed:Array Bool) (j:Nat),listed.size=ops.size→j<ops.size→listed.getD j false=listed.getD j true:=fun listed j hls hj=>by
  have:j<listed.size:=by omega
  simp[this]
 intro n
 induction n with
 | zero=>
  intro listed U a w vs hls hlen hnd hU hway;obtain rfl:=List.length_eq_zero_iff.1 hlen
  have all:∀i,i<m→listed.getD i true=true:=fun i hi=>by
   cases hf:listed.getD i true with
   | true=>rfl
   | false=>have:=(hU i).2 ⟨hi,hf⟩; cases this
  have ea:=hway.full hB all;rw[Nat.zero_add];refine zHg hT _ m listed a w (zX _) (by omega) hls (fun j hj=>?_) hway.closed ?_
  ·by_cases hjm:j<m
   ·rw[all j hjm]; simp[hjm]
   ·rw[hway.fresh j (by omega) hj]; simp[hjm]
  ·rw[ea];refine hQ vs w hway.world fun p hp=>?_;obtain⟨j,hj,_,hs⟩:=VX hp;exact hs w (hway.facts j hj (all j hj))
 | succ n ih=>
  intro listed U a w vs hls hlen hnd hU hway;rw[show n+1+(ops.size-m)=n+(ops.size-m)+1 from by omega];obtain⟨hem,hdx,oe,hoe,hge,hope,hde,hae⟩:=zLB hT
  by_cases hUe:U=[e]
  ·have hn:n=0:=by rw[hUe] at hlen; simp at hlen; omega
   subst hn;have hle:listed.getD e true=false:=((hU e).1 (by rw[hUe]; exact List.mem_cons_self)).2
   have hes:e<ops.size:=by omega
   have oth:∀j,j<m→j≠e→listed.getD j true=true:=fun j hj hje=>by
    cases hf:listed.getD j true with
    | true=>rfl
    | false=>
     have:=(hU j).2 ⟨hj,hf⟩
     rw[hUe,yN] at this;exact(hje this).elim
   have how1:=hway.zU1 hB hls how hem hoe hle fun f hf hb=>(hae f hf hb).elim;rw[if_pos (by simp[Region.wanted,hge])] at how1;unfold xB at how1;simp only[execOp,hope,Sem.run_pure] at how1;have hw2:=hway.step hR hB hls hst hem hoe hle (fun f hf hb=>(hae f hf hb).elim) how1.1 (.inr rfl)
   have all2:∀i,i<m→(listed.setIfInBounds e true).getD i true=true:=fun i hi=>by
    by_cases hie:i=e
    ·subst hie
     have:i<listed.size:=by omega
     simp[this]
    ·rw[getD_set_ne true (Ne.symm hie)];exact oth i hi hie
   have ea:=hw2.full hB all2;rw[hde] at ea;rw[show 0+(ops.size-m)+1=ops.size-m+1 by omega];refine zMa hT _ m listed a w (zX _) hms (by omega) hls hle (fun j hj hje=>?_) hway.closed ?_
   ·by_cases hjm:j<m
    ·rw[oth j hjm hje]; simp[hjm]
    ·rw[hway.fresh j (by omega) hj]; simp[hjm]
   ·rw[ea];refine hQ _ w hway.world fun p hp=>?_;obtain⟨j,hj,_,hs⟩:=VX hp;exact hs w (hw2.facts j hj (all2 j hj))
  have some1:Region.ready .any ops listed≠[]:=fun hr=>by
   have all:∀n i,i<n→i<m→listed.getD i true=true:=by
    intro n
    induction n with
    | zero=>intro i hi; omega
    | succ n ih'=>
     intro i hi hlt
     cases hf:listed.getD i true with
     | true=>rfl
     | false=>
      exfalso
      have hoi:ops[i]?=some ops[i]:=Array.getElem?_eq_getElem (by omega)
      have hm:i ∈ Region.ready .any ops listed:=by
       rw[mem_ready];refine⟨hf,_,hoi,fun e he hb=>?_⟩;have hlt':=(XV hB hlt hoi).2 e he hb;rw[conv listed e.on hls (by omega)];exact ih' e.on (by omega) (by omega)
      rw[hr] at hm
      cases hm
   cases U with
   | nil=>simp at hlen
   | cons x xs=>
    have:=(hU x).1 List.mem_cons_self
    rw[all (x+1) x (by omega) this.1] at this
    cases this.2
  refine⟨fun hr=>absurd hr some1,fun i hi=>?_⟩;obtain⟨h0,o,ho,hall⟩:=mem_ready.1 hi;have hlt:i<ops.size:=(Array.getElem?_eq_some_iff.1 ho).1
  have him:i<m:=by
   rcases Nat.lt_or_ge i m with h | h
   ·exact h
   ·exfalso
    obtain⟨y,hy,hye⟩:∃y ∈ U,y≠e:=by
     cases U with
     | nil=>simp at hlen
     | cons y ys=>
      by_cases hy:y=e
      ·subst hy
       cases ys with
       | nil=>exact(hUe rfl).elim
       | cons z zs=>
        refine⟨z,by simp,fun e2=>?_⟩;subst e2
        simp at hnd
      ·exact⟨y,by simp,hy⟩
    have hx:=(hU y).1 hy
    have:=JJ hway.closed 8 i y o ho hall ((zBq hT ho h).2.2.2.1 y (by omega) hye)
    rw[conv listed y hls (by omega),hx.2] at this
    cases this
  have hil:i<listed.size:=by omega
  have hself:(listed.setIfInBounds i true).getD i true=true:=by simp[hil]
  have hoth:∀j,j≠i→(listed.setIfInBounds i true).getD j true=listed.getD j true:=fun j hj=>getD_set_ne true (Ne.symm hj)
  have go:∀v w',(ks.getD i (.det undef)).says v w'→R w w'∨w'=w→wpAny P .any ops Q' (n+(ops.size-m)) (listed.setIfInBounds i true) (a.put o.dst v) w':=by
   intro v w' hv hww
   have hst':∀j oj,j<m→ops[j]?=some oj→∀v,(ks.getD j (.det undef)).says v w→(ks.getD j (.det undef)).says v w':=fun j oj hjm hj v hs=>by
    rcases hww with hww | rfl
    ·exact hst j oj hjm hj v w w' hs hww
    ·exact hs
   refine ih (listed.setIfInBounds i true) (U.erase i) _ w' (fun j=>if j=i then v else vs j) (by simpa using hls) ?_ (hnd.erase i) (fun j=>?_) ?_
   ·rw[List.length_erase_of_mem ((hU i).2 ⟨him,h0⟩),hlen]; rfl
   ·rw[hnd.mem_erase_iff,hU j]
    by_cases hji:j=i
    ·subst hji; simp[hil]
    ·rw[hoth j hji]; simp[hji]
   ·exact hway.step hR hB hls hst him ho h0 hall hv hww
  have ow:=hway.zU1 hB hls how him ho h0 hall;unfold wpOp;simp only[ho]
  split
  ·rename_i hw;simp only[hw,if_true] at ow;exact .inl (YW ow fun v w' hv=>go v w' hv.1 (.inl hv.2))
  ·rename_i hw;simp only[hw] at ow;exact go undef w ow (.inr rfl)
theorem zGq {e:Nat}{x d:Tmp}{id:Nat}{Q':Exit→Act→World→Prop}{a:Act}{w:World}{l:List Oper}(m:Nat)(ks:List Take)(hm:P.follows .mixedOrders=true)(hB:YF l.toArray m=true)(hT:zEu l.toArray m e x d=true)
  (hR:∀a b c,R a b→R b c→R a c) (h0:R w0 w.drew)
  (h:XL P l.toArray R w0 (fun a' w'=>zDd P (fun a w=>Q' .normal a w) (l.drop m) a' w') (l.take m) ks a []):(Code.region id l.toArray true).wp P Q' a w:=by
 have hms:=JD hB;simp only[List.size_toArray] at hms;refine wp_region_any hm ?_
 have sp:=fun vs=>zDs (P:=P) (ops:=l.toArray) (R:=R) (w0:=w0) (Q:=fun a' w'=>zDd P (fun a w=>Q' .normal a w) (l.drop m) a' w') (ks:=ks) (a0:=a) vs (l.take m) 0 (fun j hj=>by
  have hj':j<m:=by simp at hj; omega
  simp[List.getElem?_take,hj']) (by simpa [YC,JZ] using h)
 have hlen:(l.take m).length=m:=by simp; omega
 rw[show l.toArray.size=m+(l.toArray.size-m) from by simp; omega];refine zLl (P:=P) (ops:=l.toArray) (R:=R) (w0:=w0) (ks:=ks) (a0:=a) (m:=m) hR hB hT ?_ ?_ ?_ m _ (List.range m) a _ (fun _=>undef) (by simp; omega) (by simp) List.nodup_range ?_ ?_
 ·exact fun i o him hi=>((sp fun _=>undef).1 i o (zW _) (by omega) hi).1
 ·exact fun vs i o him hi=>((sp vs).1 i o (zW _) (by omega) hi).2
 ·intro vs w' hw' hp
  have:=(sp vs).2 w' hw' (by rw[hlen]; simpa using hp)
  rw[hlen] at this
  simpa using this
 ·intro i;simp only[List.mem_range]
  constructor
  ·intro h
   have:i<m+(l.length-m):=by omega
   exact⟨h,by simp[this]⟩
  ·exact fun h=>h.1
 ·refine⟨h0,rfl,fun i hi hl=>?_,fun i o t him hi hd hl=>?_,fun t _=>rfl,fun i o hi hl=>?_,fun i hi his=>?_⟩
  ·have:i<m+(l.length-m):=by omega
   simp[this] at hl
  ·have:i<m+(l.length-m):=by omega
   simp[this] at hl
  ·have hil:i<l.length:=by simpa using (Array.getElem?_eq_some_iff.1 hi).1
   have:i<m+(l.length-m):=by omega
   simp[this] at hl
  ·have hil:i<l.length:=by simpa using his
   have:i<m+(l.length-m):=by omega
   simp[this]
end
theorem jI.left {w w':World}{o1 o2:Option Nat}{F1:List (Value→World→Prop)}{N:Nat}{e t1:TypeId}{H n:Nat}{v0:Value}{xs news:List Value}(k:vG o1 F1 w w')(ho:∀b,o1=some b→∃cur,Blk w b t1 cur)(hne:e≠t1):jI o1 o2 (F1++FsH N e v0 H n xs news) w w':=
 ⟨⟨k.1.os,k.1.tape,k.1.output,k.1.size,fun b hb h1 _=>k.1.block b hb h1⟩,fun F hF v h=>by
  rcases List.mem_append.1 hF with h1 | h1
  ·exact k.2 F h1 v h
  ·exact zPF k.1 ho hne F h1 v h⟩
theorem jI.right {w w':World}{o1 o2:Option Nat}{F2:List (Value→World→Prop)}{N:Nat}{e t1:TypeId}{H n:Nat}{v0:Value}{xs news:List Value}(k:vG o2 F2 w w')(ho:∀b,o2=some b→∃cur,Blk w b t1 cur)(hne:e≠t1):jI o1 o2 (Fs2 N e v0 H n xs news++F2) w w':=
 ⟨⟨k.1.os,k.1.tape,k.1.output,k.1.size,fun b hb _ h1=>k.1.block b hb h1⟩,fun F hF v h=>by
  rcases List.mem_append.1 hF with h1 | h1
  ·exact zQ1 k.1 ho hne F h1 v h
  ·exact k.2 F h1 v h⟩
theorem zRn {N e n H N' e' n' H':Nat}{v0 v0':Value}{xs news xs' news':List Value}:∀F ∈ Fs2 N e v0 H n xs news++FsH N' e' v0' H' n' xs' news',∀v w w',F v w→Ext w w'→F v w':=fun F hF v w w' h hx=>by
 rcases List.mem_append.1 hF with h1 | h1
 ·exact zO5 _ _ _ _ _ _ _ F h1 v w w' h hx
 ·exact zFW _ _ _ _ _ _ _ F h1 v w w' h hx
theorem zMj {P:Program}{id:Nat}{Q':Exit→Act→World→Prop}{a:Act}{w:World}{l:List Oper}{ks:List Take}(o1 o2:Option Nat)(Fs:List (Value→World→Prop))(m e:Nat)(x d:Tmp)(hm:P.follows .mixedOrders=true)(hB:YF l.toArray m=true)(hT:zEu l.toArray m e x d=true)
  (hE:∀F ∈ Fs,∀v w w',F v w→Ext w w'→F v w')
  (h:XL P l.toArray (jI o1 o2 Fs) w (fun a' w'=>zDd P (fun a w=>Q' .normal a w) (l.drop m) a' w') (l.take m) ks a []):(Code.region id l.toArray true).wp P Q' a w:=
 zGq (R:=jI o1 o2 Fs) m ks hm hB hT jI.trans (jI.ext hE (Below.drew (Below.refl _ _))) h
theorem zEU {P:Program}{Q:Act→World→Prop}{o:Oper}{l:List Oper}{a:Act}{w:World}{d:Option Tmp}(v0:Value)(w0:World)(hd:o.dst=d)(h:xB P a.eval o w fun v w'=>v=v0∧w'=w0)(hk:zDd P Q l (a.put d v0) w0):zDd P Q (o::l) a w:=by
 subst hd
 exact xB.mono h fun v w' hv=>by rw[hv.1,hv.2]; exact hk
end Go.Proofs.YtbadjmmjbpeocaaGreatDoor
