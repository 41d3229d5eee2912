/- A law on regions that draw their order, over any program, with one operation (a move) that may come late. (and what follows of it). The conditions stand at each lemma. -/
import Derived.Test.YtbadjmmjbpeocaaGreatJaa
import Derived.Test.YtbadjmmjbpeocaaGreatJal
set_option linter.unusedVariables false
set_option linter.unusedSimpArgs false
set_option maxRecDepth 100000
set_option maxHeartbeats 16000000
namespace Go.Proofs.YtbadjmmjbpeocaaGreat
open Go Go.RowKit
section
variable {P:Program} {ops:Array Oper} {R:World→World→Prop} {w0:World}
def zEC (ops:Array Oper)(m e:Nat)(x d:Tmp):Bool:=
 (decide (e<m)&&d != x&&(match ops[e]? with
  | none=>false
  | some o=>o.guard.isNone&&(match o.op with | .move (.tmp y)=>y==x | _=>false)&&o.dst==some d&&o.after.all fun f=>!Region.binds .any f)) &&
 (List.range ops.size).all fun i=>match ops[i]? with
  | none=>false
  | some o=>(i==e||(o.dst != some d&&o.dst != some x))&&(decide (i<m) ||
   (o.guard.isNone&&(match o.op with | .select _ _=>false | _=>true)&&o.after.all (fun f=>!Region.binds .any f||decide (f.on<i))&&((List.range i).all fun j=>j==e||zBO ops 8 i j)&&(!((o.looksAt ops).contains d)||zBO ops 8 i e)))
theorem zLM {m e:Nat}{x d:Tmp}(h:zEC ops m e x d=true):e<m∧d≠x∧∃o,ops[e]?=some o∧o.guard=none∧o.op=.move (.tmp x)∧o.dst=some d∧∀f ∈ o.after,Region.binds .any f=true→False:=by
 unfold zEC at h;simp only[zG,zF,zE] at h;obtain⟨⟨⟨h1,h2⟩,h3⟩,_⟩:=h;refine⟨h1,h2,?_⟩
 cases ho:ops[e]? with
 | none=>rw[ho] at h3; cases h3
 | some o=>
  simp only[ho,zG,zO,Option.isNone_iff_eq_none] at h3;obtain⟨⟨⟨a,b⟩,c⟩,f⟩:=h3;refine⟨o,rfl,a,?_,c,fun g hg hb=>?_⟩
  ·generalize o.op=q at *
   cases q with
   | move y=>
    cases y with
    | tmp y=>simp only[zO] at b; rw[b]
    | _=>cases b
   | _=>cases b
  ·have:=Array.all_eq_true_iff_forall_mem.1 f g hg
   rw[hb] at this
   cases this
theorem zO8 {m e:Nat}{x d:Tmp}(h:zEC ops m e x d=true){i:Nat}{o:Oper}(ho:ops[i]?=some o):(i=e∨(o.dst≠some d∧o.dst≠some x))∧(i<m ∨
  (o.guard=none∧(match o.op with | .select _ _=>false | _=>true)=true∧(∀f ∈ o.after,Region.binds .any f=true→f.on<i)∧(∀j,j<i→j≠e→zBO ops 8 i j=true)∧(d ∈ o.looksAt ops→zBO ops 8 i e=true))):=by
 have AB:i<ops.size:=(Array.getElem?_eq_some_iff.1 ho).1;unfold zEC at h;simp only[zG] at h;have h1:=List.all_eq_true.1 h.2 i (List.mem_range.2 AB);simp only[ho,zG,Bool.or_eq_true,zF,zO,zE,Option.isNone_iff_eq_none,Bool.not_eq_true'] at h1;refine⟨h1.1,h1.2.imp id fun h2=>?_⟩;obtain⟨⟨⟨⟨a,b⟩,c⟩,g⟩,f⟩:=h2;refine⟨a,b,fun f hf hb=>?_,fun j hj AA=>?_,fun hd=>?_⟩
 ·have:=Array.all_eq_true_iff_forall_mem.1 c f hf
  simpa [hb] using this
 ·have:=List.all_eq_true.1 g j (List.mem_range.2 hj)
  simpa [AA] using this
 ·rcases f with f | f
  ·have:(o.looksAt ops).contains d=true:=by simpa using hd
   rw[this] at f
   cases f
  ·exact f
theorem zQK {m e:Nat}{x d:Tmp}(h:zEC ops m e x d=true){i:Nat}{o:Oper}(ho:ops[i]?=some o)(hne:i≠e):o.dst≠some d∧o.dst≠some x:=(zO8 h ho).1.resolve_left hne
theorem zBl {m e:Nat}{x d:Tmp}(h:zEC ops m e x d=true){i:Nat}{o:Oper}(ho:ops[i]?=some o)(hm:m≤i):o.guard=none∧(∀cs b,o.op≠.select cs b)∧(∀f ∈ o.after,Region.binds .any f=true→f.on<i)∧(∀j,j<i→j≠e→zBO ops 8 i j=true)∧(d ∈ o.looksAt ops→zBO ops 8 i e=true):=by
 obtain⟨a,b,c,f,g⟩:=(zO8 h ho).2.resolve_left (by omega);exact⟨a,fun cs q e=>(by rw[e] at b; cases b),c,f,g⟩
def zDo (P:Program)(Q:Act→World→Prop):List Oper→Act→World→Prop
 | [],a,w=>Q a w
 | o::l,a,w=>xA P a.eval o w fun v w'=>zDo P Q l (a.put o.dst v) w'
theorem zHd {m e:Nat}{x d:Tmp}(hT:zEC ops m e x d=true){Q':Exit→Act→World→Prop}:∀(n k:Nat) (listed:Array Bool) (a:Act) (w:World),m≤k→k+n=ops.size→listed.size=ops.size→(∀j,j<ops.size→listed.getD j true=decide (j<k)) →
  (∀i o,ops[i]?=some o→listed.getD i false=true→∀e ∈ o.after,Region.binds .any e=true→listed.getD e.on false=true) →
  zDo P (fun a w=>Q' .normal a w) (ops.toList.drop k) a w→wpAny P .any ops Q' n listed a w:=by
 intro n
 induction n with
 | zero=>
  intro k listed a w AC AL AI hl AF h
  have hk:k=ops.size:=by omega
  subst hk;refine⟨?_,by rw[List.drop_of_length_le (by simp)] at h; exact h⟩
  cases hr:Region.ready .any ops listed with
  | nil=>rfl
  | cons x xs=>
   exfalso
   have hm:x ∈ Region.ready .any ops listed:=by rw[hr]; exact List.mem_cons_self
   obtain⟨h0,o,ho,_⟩:=mem_ready.1 hm;have hx:=(Array.getElem?_eq_some_iff.1 ho).1;rw[hl x hx] at h0
   simp at h0
   omega
 | succ n ih=>
  intro k listed a w AC AL AI hl AF h
  have hk:k<ops.size:=by omega
  have AD:ops[k]?=some ops[k]:=Array.getElem?_eq_getElem hk
  have AA:∀j,j<ops.size→listed.getD j false=listed.getD j true:=fun j hj=>by
   have:j<listed.size:=by omega
   simp[this]
  have only:∀i ∈ Region.ready .any ops listed,i=k:=by
   intro i hi;obtain⟨h0,o,ho,AG⟩:=mem_ready.1 hi;have AM:=(Array.getElem?_eq_some_iff.1 ho).1;rw[hl i AM] at h0
   have AN:k≤i:=by simpa using h0
   by_cases AE:i=k
   ·exact AE
   ·exfalso
    have hr:=(zBl hT ho (by omega)).2.2.2.1 k (by omega) (by have:=(zLM hT).1; omega)
    have:=JP AF 8 i k o ho AG hr
    rw[AA k hk,hl k hk] at this
    simp at this
  have AJ:k ∈ Region.ready .any ops listed:=by
   rw[mem_ready];refine⟨by rw[hl k hk]; simp,_,AD,fun e he hb=>?_⟩
   have:=(zBl hT AD AC).2.2.1 e he hb
   rw[AA e.on (by omega),hl e.on (by omega)]
   simpa using this
  refine⟨fun hr=>(by rw[hr] at AJ; cases AJ),fun i hi=>?_⟩;have AE:=only i hi;subst AE
  have hd:ops.toList.drop i=ops[i]::ops.toList.drop (i+1):=by
   rw[List.drop_eq_getElem_cons (by simpa using hk)]
   simp
  rw[hd] at h
  have go:∀a' w',zDo P (fun a w=>Q' .normal a w) (ops.toList.drop (i+1)) a' w'→wpAny P .any ops Q' n (listed.setIfInBounds i true) a' w':=by
   intro a' w' h';refine ih (i+1) _ a' w' (by omega) (by omega) (by simpa using AI) (fun j hj=>?_) (fun j o ho AH e he hb=>?_) h'
   ·by_cases AB:j=i
    ·subst AB
     have:j<listed.size:=by omega
     simp[this]
    ·rw[getD_set_ne true (Ne.symm AB),hl j hj]
     have:(j<i)↔(j<i+1):=by omega
     simp[this]
   ·by_cases AB:j=i
    ·subst AB;have AK:=(zBl hT ho AC).2.2.1 e he hb;apply getD_set_true;rw[AA e.on (by omega),hl e.on (by omega)]
     simpa using AK
    ·rw[getD_set_ne false (Ne.symm AB)] at AH;exact getD_set_true (AF j o ho AH e he hb)
  unfold wpOp;simp only[AD];simp only[zDo] at h
  have hw:Region.wanted ops[i] (yielded ops a.tmps)=true:=by simp[Region.wanted,(zBl hT AD AC).1]
  rw[if_pos hw];exact .inl (YX h fun v w' h'=>go _ _ h')
theorem zQZ (a:Act){d:Tmp}{d1:Option Tmp}(u v:Value)(h:d1≠some d):(a.put (some d) u).put d1 v=(a.put d1 v).put (some d) u:=by
 refine zGb (fun t=>?_) (by rw[XQ,XQ,XQ,XQ])
 by_cases hd:d=t
 ·subst hd;rw[jC _ _ _ h,XM,XM,jC _ _ _ h]
 ·have AA:(some d:Option Tmp)≠some t:=fun e=>hd (by injection e);rw[jC (a.put d1 v) _ _ AA]
  by_cases h1:d1=some t
  ·subst h1;rw[XM,XM,jC _ _ _ AA]
  ·rw[jC _ _ _ h1,jC _ _ _ AA,jC _ _ _ h1]
theorem zNk (a:Act){x:Tmp}{d1:Option Tmp}(v:Value)(h:d1≠some x):(a.put d1 v).eval (.tmp x)=a.eval (.tmp x):=by
 have:=jC a d1 v h
 simp[Act.eval,this]
theorem zMm {m e:Nat}{x d:Tmp}(hT:zEC ops m e x d=true){Q':Exit→Act→World→Prop}:∀(n k:Nat) (listed:Array Bool) (a:Act) (w:World),m≤k→k≤ops.size→k+n=ops.size+1→listed.size=ops.size→listed.getD e true=false→(∀j,j<ops.size→j≠e→listed.getD j true=decide (j<k)) →
  (∀i o,ops[i]?=some o→listed.getD i false=true→∀e ∈ o.after,Region.binds .any e=true→listed.getD e.on false=true) →
  zDo P (fun a w=>Q' .normal a w) (ops.toList.drop k) (a.put (some d) (a.eval (.tmp x))) w→wpAny P .any ops Q' n listed a w:=by
 intro n;obtain⟨Ag,Ah,oe,AK,AW,AF,AX,Ae⟩:=zLM hT;have AQ:e<ops.size:=(Array.getElem?_eq_some_iff.1 AK).1
 induction n with
 | zero=>intro k listed a w AM Ab AT; omega
 | succ n ih=>
  intro k listed a w AM Ab AT AO AI hl AH h
  have AA:∀j,j<ops.size→listed.getD j false=listed.getD j true:=fun j hj=>by
   have:j<listed.size:=by omega
   simp[this]
  have AL:e ∈ Region.ready .any ops listed:=mem_ready.2 ⟨AI,oe,AK,fun f hf hb=>(Ae f hf hb).elim⟩;refine⟨fun hr=>(by rw[hr] at AL; cases AL),fun i hi=>?_⟩;obtain⟨h0,o,ho,AC⟩:=mem_ready.1 hi;have AG:i<ops.size:=(Array.getElem?_eq_some_iff.1 ho).1
  have AP:i<listed.size:=by omega
  have AD:∀j o',ops[j]?=some o'→(listed.setIfInBounds i true).getD j false=true→∀f ∈ o'.after,Region.binds .any f=true→(listed.setIfInBounds i true).getD f.on false=true:=fun j o' hj AN f hf hb=>by
   by_cases AB:j=i
   ·subst AB;rw[ho] at hj;obtain rfl:=Option.some.inj hj;exact getD_set_true (AC f hf hb)
   ·rw[getD_set_ne false (Ne.symm AB)] at AN;exact getD_set_true (AH j o' hj AN f hf hb)
  unfold wpOp;simp only[ho]
  by_cases AE:i=e
  ·subst AE;rw[AK] at ho;obtain rfl:=Option.some.inj ho
   have hw:Region.wanted oe (yielded ops a.tmps)=true:=by simp[Region.wanted,AW]
   rw[if_pos hw];refine .inl (YX (F:=fun v w'=>v=a.eval (.tmp x)∧w'=w) (by unfold xA; simp[execOp,AF]) fun v w' hv=>?_);obtain⟨rfl,rfl⟩:=hv;rw[AX];refine zHd hT n k _ _ w' AM (by omega) (by simpa using AO) (fun j hj=>?_) AD h
   by_cases AB:j=i
   ·subst AB
    have:j<k:=by omega
    simp[AP,this]
   ·rw[getD_set_ne true (Ne.symm AB),hl j hj AB]
  ·have Af:k≤i:=by
    rw[hl i AG AE] at h0
    simpa using h0
   obtain⟨hg,AJ,Ai,Aa,AZ⟩:=zBl hT ho (by omega)
   have AR:i=k:=by
    rcases Nat.lt_or_ge k i with h1 | h1
    ·exfalso
     have hk:k<ops.size:=by omega
     have:=JP AH 8 i k o ho AC (Aa k h1 (by omega))
     rw[AA k hk,hl k hk (by omega)] at this
     simp at this
    ·omega
   subst AR
   have AU:d ∉ o.looksAt ops:=fun hd=>by
    have:=JP AH 8 i e o ho AC (AZ hd)
    rw[AA e AQ,AI] at this
    cases this
   have Ad:ops[i]=o:=by
    have:=Array.getElem?_eq_getElem AG
    rw[ho] at this;exact(Option.some.inj this).symm
   have Ac:ops.toList.drop i=o::ops.toList.drop (i+1):=by
    rw[List.drop_eq_getElem_cons (by simpa using AG)];simp[Ad]
   have look:∀t ∈ o.looksAt ops,a.tmps[t]?=(a.put (some d) (a.eval (.tmp x))).tmps[t]?:=fun t ht=>(jC _ _ _ fun e'=>AU (by injection e' with e'; rw[e']; exact ht)).symm;rw[Ac] at h;simp only[zDo] at h;rw[←YH o AJ a _ look] at h
   have hw:Region.wanted o (yielded ops a.tmps)=true:=by simp[Region.wanted,hg]
   rw[if_pos hw];obtain⟨AV,AY⟩:=zQK hT ho AE;refine .inl (YX h fun v w' h'=>ih (i+1) _ _ w' (by omega) (by omega) (by omega) (by simpa using AO) (by rw[getD_set_ne true AE]; exact AI) (fun j hj AS=>?_) AD ?_)
   ·by_cases AB:j=i
    ·subst AB; simp[AP]
    ·rw[getD_set_ne true (Ne.symm AB),hl j hj AS]
     have:(j<i)↔(j<i+1):=by omega
     simp[this]
   ·rw[zNk _ _ AY,←zQZ _ _ _ AV];exact h'
theorem zD5.full {m:Nat}{ks:List Take}{a0 a:Act}{listed:Array Bool}{w:World}{vs:Nat→Value}(hB:YG ops m=true)(hway:zD5 P ops m R w0 ks a0 listed a w vs)(all:∀i,i<m→listed.getD i true=true):a=YD ops ks vs a0 m:=by
 refine zGb (fun t=>?_) (by rw[hway.defers,zBx])
 by_cases AB:∃(i:Nat) (o:Oper),i<m∧ops[i]?=some o∧o.dst=some t
 ·obtain⟨i,o,AA,hi,hd⟩:=AB;have hl:=all i AA;rw[hway.done i o t AA hi hd hl,zAa hB (j:=i) (by rw[hi]; exact hd) AA (zX _),Take.zEe (hway.facts i AA hl)]
 ·rw[hway.other t fun i o AA hi hd=>absurd ⟨i,o,AA,hi,hd⟩ AB,YO];intro j hj e;obtain⟨o,ho,hd⟩:=Option.bind_eq_some_iff.1 e;exact AB ⟨j,o,hj,ho,hd⟩
theorem zD5.look {m:Nat}{ks:List Take}{a0 a:Act}{AA:Array Bool}{w:World}{vs:Nat→Value}(hB:YG ops m=true)(AD:AA.size=ops.size)(hway:zD5 P ops m R w0 ks a0 AA a w vs){i:Nat}{o:Oper}(AG:i<m)(hlt:i<ops.size)(ho:ops[i]?=some o)(h0:AA.getD i true=false)
  (hall:∀e ∈ o.after,Region.binds .any e=true→AA.getD e.on false=true):∀t ∈ o.looksAt ops,a.tmps[t]?=(YD ops ks vs a0 i).tmps[t]?:=by
 have AL:=JK hB
 have AB:∀(AA:Array Bool) (j:Nat),AA.size=ops.size→j<ops.size→AA.getD j false=AA.getD j true:=fun AA j AD hj=>by
  have:j<AA.size:=by omega
  simp[this]
 intro t ht
 by_cases AE:∃(j:Nat) (p:Oper),j<m∧ops[j]?=some p∧p.dst=some t
 ·obtain⟨j,p,AC,hj,hd⟩:=AE
  rcases(vG hB AG AC ho hj hd).2 ht with ⟨hji,e,he,heq,hb⟩ | ⟨hij,e,he,heq,hb⟩
  ·have AH:AA.getD j true=true:=by
    have h1:=hall e he hb;rw[heq,AB AA j AD (by omega)] at h1;exact h1
   rw[hway.done j p t AC hj hd AH,zAa hB (j:=j) (by rw[hj]; exact hd) hji (by omega),Take.zEe (hway.facts j AC AH)]
  ·have AJ:AA.getD j true=false:=by
    cases hf:AA.getD j true with
    | false=>rfl
    | true=>
     have:=hway.closed j p hj (by rw[AB AA j AD (by omega)]; exact hf) e he hb
     rw[heq,AB AA i AD hlt,h0] at this
     cases this
   rw[hway.other t fun k ok AI hk AF=>by
     have:=(vG hB AI AC hk hj hd).1 AF
     subst this
     exact AJ,YO]
   intro k hk e';obtain⟨ok,AK,AF⟩:=Option.bind_eq_some_iff.1 e'
   have:=(vG hB (by omega) AC AK hj hd).1 AF
   omega
 ·rw[hway.other t fun i o AG hi hd=>absurd ⟨i,o,AG,hi,hd⟩ AE,YO];intro j hj e;obtain⟨o,ho,hd⟩:=Option.bind_eq_some_iff.1 e;exact AE ⟨j,o,by omega,ho,hd⟩
theorem zD5.step {m:Nat}{ks:List Take}{a0 a:Act}{listed:Array Bool}{w w':World}{v:Value}{vs:Nat→Value}(hR:∀a b c,R a b→R b c→R a c)(hB:YG ops m=true)(hls:listed.size=ops.size)
  (hst:∀i o,i<m→ops[i]?=some o→∀v w w',(ks.getD i (.det undef)).says v w→R w w'→(ks.getD i (.det undef)).says v w')
  (hway:zD5 P ops m R w0 ks a0 listed a w vs) {i:Nat} {o:Oper} (him:i<m) (ho:ops[i]?=some o) (h0:listed.getD i true=false) (hall:∀e ∈ o.after,Region.binds .any e=true→listed.getD e.on false=true)
  (hv:(ks.getD i (.det undef)).says v w') (AC:R w w'∨w'=w):zD5 P ops m R w0 ks a0 (listed.setIfInBounds i true) (a.put o.dst v) w' (fun j=>if j=i then v else vs j):=by
 have AM:=JK hB;have AL:i<ops.size:=(Array.getElem?_eq_some_iff.1 ho).1
 have AK:i<listed.size:=by omega
 have AD:(listed.setIfInBounds i true).getD i true=true:=by simp[AK]
 have AB:∀j,j≠i→(listed.setIfInBounds i true).getD j true=listed.getD j true:=fun j hj=>getD_set_ne true (Ne.symm hj)
 have AF:∀j oj,j<m→ops[j]?=some oj→∀v,(ks.getD j (.det undef)).says v w→(ks.getD j (.det undef)).says v w':=fun j oj AE hj v hs=>by
  rcases AC with AC | rfl
  ·exact hst j oj AE hj v w w' hs AC
  ·exact hs
 refine⟨?_,by rw[XQ]; exact hway.defers,fun j hj hl=>?_,fun j p t AE hj hd hl=>?_,fun t ht=>?_,fun j p hj hl e he hb=>?_,fun j hj AJ=>?_⟩
 ·rcases AC with AC | rfl
  ·exact hR _ _ _ hway.world AC
  ·exact hway.world
 ·by_cases AA:j=i
  ·subst AA; simpa using hv
  ·rw[AB j AA] at hl;simp only[if_neg AA];exact AF j _ hj (Array.getElem?_eq_getElem (by omega)) _ (hway.facts j hj hl)
 ·by_cases AA:j=i
  ·subst AA;rw[ho] at hj;obtain rfl:=Option.some.inj hj
   rw[hd,XM,hway.other t fun k ok AG hk AH=>by
    have:=(vG hB AG him hk ho hd).1 AH
    subst this
    exact h0]
   simp
  ·rw[AB j AA] at hl;rw[jC _ _ _ (fun e=>AA ((vG hB him AE ho hj hd).1 e).symm),hway.done j p t AE hj hd hl];simp[AA]
 ·rw[jC _ _ _ (fun e=>by
   have:=ht i o him ho e
   rw[AD] at this
   cases this)]
  refine hway.other t fun k ok AG hk AH=>?_
  have:=ht k ok AG hk AH
  by_cases AI:k=i
  ·subst AI; exact h0
  ·rwa [AB k AI] at this
 ·by_cases AA:j=i
  ·subst AA;rw[ho] at hj;obtain rfl:=Option.some.inj hj;exact getD_set_true (hall e he hb)
  ·rw[getD_set_ne false (Ne.symm AA)] at hl;exact getD_set_true (hway.closed j p hj hl e he hb)
 ·rw[AB j (by omega)];exact hway.fresh j hj AJ
theorem zD5.zUM {m:Nat}{ks:List Take}{a0 a:Act}{AA:Array Bool}{w:World}{vs:Nat→Value}(hB:YG ops m=true)(AC:AA.size=ops.size)
  (how:∀vs i o,i<m→ops[i]?=some o→zM2 P ops R w0 o (YD ops ks vs a0 i) (VC ops ks vs i) (ks.getD i (.det undef)).says)
  (hway:zD5 P ops m R w0 ks a0 AA a w vs) {i:Nat} {o:Oper} (him:i<m) (ho:ops[i]?=some o) (h0:AA.getD i true=false) (hall:∀e ∈ o.after,Region.binds .any e=true→AA.getD e.on false=true) :
  if Region.wanted o (yielded ops a.tmps)=true then xA P a.eval o w (fun v w'=>(ks.getD i (.det undef)).says v w'∧R w w') else (ks.getD i (.det undef)).says undef w:=by
 have AH:=JK hB;have AF:i<ops.size:=(Array.getElem?_eq_some_iff.1 ho).1
 have AB:∀(AA:Array Bool) (j:Nat),AA.size=ops.size→j<ops.size→AA.getD j false=AA.getD j true:=fun AA j AC hj=>by
  have:j<AA.size:=by omega
  simp[this]
 have look:=hway.look hB AC him AF ho h0 hall
 have ow:=how vs i o him ho w hway.world (fun p hp ⟨t,hpt,ht⟩=>by
  obtain⟨j,hj,AD,hs⟩:=VW hp;rw[hpt] at AD;obtain⟨p',AE,AG⟩:=Option.bind_eq_some_iff.1 AD.symm
  rcases(vG hB him (by omega) ho AE AG).2 ht with ⟨_,e,he,heq,hb⟩ | ⟨hij,_⟩
  ·have h1:=hall e he hb;rw[heq,AB AA j AC (by omega)] at h1;exact hs w (hway.facts j (by omega) h1)
  ·omega)
 rw[←zAF o a _ look,←YH o (XX hB him ho).1 a _ look] at ow;exact ow
theorem zLv {m e:Nat}{x d:Tmp}(hR:∀a b c,R a b→R b c→R a c)(hB:YG ops m=true)(hT:zEC ops m e x d=true){ks:List Take}{a0:Act}{Q':Exit→Act→World→Prop}
  (hst:∀i o,i<m→ops[i]?=some o→∀v w w',(ks.getD i (.det undef)).says v w→R w w'→(ks.getD i (.det undef)).says v w')
  (how:∀vs i o,i<m→ops[i]?=some o→zM2 P ops R w0 o (YD ops ks vs a0 i) (VC ops ks vs i) (ks.getD i (.det undef)).says)
  (hQ:∀vs w,R w0 w→(∀p ∈ VC ops ks vs m,p.2 w)→zDo P (fun a w=>Q' .normal a w) (ops.toList.drop m) (YD ops ks vs a0 m) w) :
  ∀(n:Nat) (listed:Array Bool) (U:List Nat) (a:Act) (w:World) (vs:Nat→Value),listed.size=ops.size→U.length=n→U.Nodup→(∀i,i ∈ U↔i<m∧listed.getD i true=false) →
   zD5 P ops m R w0 ks a0 listed a w vs→wpAny P .any ops Q' (n+(ops.size-m)) listed a w:=by
 have Ai:=JK hB
 have AI:∀(listed:Array Bool) (j:Nat),listed.size=ops.size→j<ops.size→listed.getD j false=listed.getD j true:=fun listed j AC hj=>by
  have:j<listed.size:=by omega
  simp[this]
 intro n
 induction n with
 | zero=>
  intro listed U a w vs AC AB AM hU AA;obtain rfl:=List.length_eq_zero_iff.1 AB
  have AG:∀i,i<m→listed.getD i true=true:=fun i hi=>by
   cases hf:listed.getD i true with
   | true=>rfl
   | false=>have:=(hU i).2 ⟨hi,hf⟩; cases this
  have ea:=AA.full hB AG;rw[Nat.zero_add];refine zHd hT _ m listed a w (zX _) (by omega) AC (fun j hj=>?_) AA.closed ?_
  ·by_cases AD:j<m
   ·rw[AG j AD]; simp[AD]
   ·rw[AA.fresh j (by omega) hj]; simp[AD]
  ·rw[ea];refine hQ vs w AA.world fun p hp=>?_;obtain⟨j,hj,_,hs⟩:=VW hp;exact hs w (AA.facts j hj (AG j hj))
 | succ n ih=>
  intro listed U a w vs AC AB AM hU AA;rw[show n+1+(ops.size-m)=n+(ops.size-m)+1 from by omega];obtain⟨AV,Aj,oe,AY,Ad,AR,Ag,AZ⟩:=zLM hT
  by_cases AL:U=[e]
  ·have hn:n=0:=by rw[AL] at AB; simp at AB; omega
   subst hn;have AO:listed.getD e true=false:=((hU e).1 (by rw[AL]; exact List.mem_cons_self)).2
   have Ak:e<ops.size:=by omega
   have AW:∀j,j<m→j≠e→listed.getD j true=true:=fun j hj AS=>by
    cases hf:listed.getD j true with
    | true=>rfl
    | false=>
     have:=(hU j).2 ⟨hj,hf⟩
     rw[AL,yN] at this;exact(AS this).elim
   have AE:=AA.zUM hB AC how AV AY AO fun f hf hb=>(AZ f hf hb).elim;rw[if_pos (by simp[Region.wanted,Ad])] at AE;unfold xA at AE;simp only[execOp,AR,Sem.run_pure] at AE;have Aa:=AA.step hR hB AC hst AV AY AO (fun f hf hb=>(AZ f hf hb).elim) AE.1 (.inr rfl)
   have AH:∀i,i<m→(listed.setIfInBounds e true).getD i true=true:=fun i hi=>by
    by_cases AN:i=e
    ·subst AN
     have:i<listed.size:=by omega
     simp[this]
    ·rw[getD_set_ne true (Ne.symm AN)];exact AW i hi AN
   have ea:=Aa.full hB AH;rw[Ag] at ea;rw[show 0+(ops.size-m)+1=ops.size-m+1 by omega];refine zMm hT _ m listed a w (zX _) Ai (by omega) AC AO (fun j hj AS=>?_) AA.closed ?_
   ·by_cases AD:j<m
    ·rw[AW j AD AS]; simp[AD]
    ·rw[AA.fresh j (by omega) hj]; simp[AD]
   ·rw[ea];refine hQ _ w AA.world fun p hp=>?_;obtain⟨j,hj,_,hs⟩:=VW hp;exact hs w (Aa.facts j hj (AH j hj))
  have AJ:Region.ready .any ops listed≠[]:=fun hr=>by
   have AG:∀n i,i<n→i<m→listed.getD i true=true:=by
    intro n
    induction n with
    | zero=>intro i hi; omega
    | succ n ih'=>
     intro i hi AU
     cases hf:listed.getD i true with
     | true=>rfl
     | false=>
      exfalso
      have Ab:ops[i]?=some ops[i]:=Array.getElem?_eq_getElem (by omega)
      have hm:i ∈ Region.ready .any ops listed:=by
       rw[mem_ready];refine⟨hf,_,Ab,fun e he hb=>?_⟩;have Ah:=(XX hB AU Ab).2 e he hb;rw[AI listed e.on AC (by omega)];exact ih' e.on (by omega) (by omega)
      rw[hr] at hm
      cases hm
   cases U with
   | nil=>simp at AB
   | cons x xs=>
    have:=(hU x).1 List.mem_cons_self
    rw[AG (x+1) x (by omega) this.1] at this
    cases this.2
  refine⟨fun hr=>absurd hr AJ,fun i hi=>?_⟩;obtain⟨h0,o,ho,AF⟩:=mem_ready.1 hi;have AU:i<ops.size:=(Array.getElem?_eq_some_iff.1 ho).1
  have AQ:i<m:=by
   rcases Nat.lt_or_ge i m with h | h
   ·exact h
   ·exfalso
    obtain⟨y,hy,Af⟩:∃y ∈ U,y≠e:=by
     cases U with
     | nil=>simp at AB
     | cons y ys=>
      by_cases hy:y=e
      ·subst hy
       cases ys with
       | nil=>exact(AL rfl).elim
       | cons z zs=>
        refine⟨z,by simp,fun e2=>?_⟩;subst e2
        simp at AM
      ·exact⟨y,by simp,hy⟩
    have hx:=(hU y).1 hy
    have:=JP AA.closed 8 i y o ho AF ((zBl hT ho h).2.2.2.1 y (by omega) Af)
    rw[AI listed y AC (by omega),hx.2] at this
    cases this
  have Ac:i<listed.size:=by omega
  have AX:(listed.setIfInBounds i true).getD i true=true:=by simp[Ac]
  have AT:∀j,j≠i→(listed.setIfInBounds i true).getD j true=listed.getD j true:=fun j hj=>getD_set_ne true (Ne.symm hj)
  have go:∀v w',(ks.getD i (.det undef)).says v w'→R w w'∨w'=w→wpAny P .any ops Q' (n+(ops.size-m)) (listed.setIfInBounds i true) (a.put o.dst v) w':=by
   intro v w' hv AK
   have Ae:∀j oj,j<m→ops[j]?=some oj→∀v,(ks.getD j (.det undef)).says v w→(ks.getD j (.det undef)).says v w':=fun j oj AD hj v hs=>by
    rcases AK with AK | rfl
    ·exact hst j oj AD hj v w w' hs AK
    ·exact hs
   refine ih (listed.setIfInBounds i true) (U.erase i) _ w' (fun j=>if j=i then v else vs j) (by simpa using AC) ?_ (AM.erase i) (fun j=>?_) ?_
   ·rw[List.length_erase_of_mem ((hU i).2 ⟨AQ,h0⟩),AB]; rfl
   ·rw[AM.mem_erase_iff,hU j]
    by_cases AP:j=i
    ·subst AP; simp[Ac]
    ·rw[AT j AP]; simp[AP]
   ·exact AA.step hR hB AC hst AQ ho h0 AF hv AK
  have ow:=AA.zUM hB AC how AQ ho h0 AF;unfold wpOp;simp only[ho]
  split
  ·rename_i hw;simp only[hw,if_true] at ow;exact .inl (YX ow fun v w' hv=>go v w' hv.1 (.inl hv.2))
  ·rename_i hw;simp only[hw] at ow;exact go undef w ow (.inr rfl)
theorem zGn {e:Nat}{x d:Tmp}{id:Nat}{Q':Exit→Act→World→Prop}{a:Act}{w:World}{l:List Oper}(m:Nat)(ks:List Take)(hm:P.follows .mixedOrders=true)(hB:YG l.toArray m=true)(hT:zEC l.toArray m e x d=true)
  (hR:∀a b c,R a b→R b c→R a c) (h0:R w0 w.drew)
  (h:ZF P l.toArray R w0 (fun a' w'=>zDo P (fun a w=>Q' .normal a w) (l.drop m) a' w') (l.take m) ks a []):(Code.region id l.toArray true).wp P Q' a w:=by
 have AF:=JK hB;simp only[List.size_toArray] at AF;refine wp_region_any hm ?_
 have sp:=fun vs=>zDF (P:=P) (ops:=l.toArray) (R:=R) (w0:=w0) (Q:=fun a' w'=>zDo P (fun a w=>Q' .normal a w) (l.drop m) a' w') (ks:=ks) (a0:=a) vs (l.take m) 0 (fun j hj=>by
  have AG:j<m:=by simp at hj; omega
  simp[List.getElem?_take,AG]) (by simpa [YD,VC] using h)
 have AA:(l.take m).length=m:=by simp; omega
 rw[show l.toArray.size=m+(l.toArray.size-m) from by simp; omega];refine zLv (P:=P) (ops:=l.toArray) (R:=R) (w0:=w0) (ks:=ks) (a0:=a) (m:=m) hR hB hT ?_ ?_ ?_ m _ (List.range m) a _ (fun _=>undef) (by simp; omega) (by simp) List.nodup_range ?_ ?_
 ·exact fun i o AB hi=>((sp fun _=>undef).1 i o (zW _) (by omega) hi).1
 ·exact fun vs i o AB hi=>((sp vs).1 i o (zW _) (by omega) hi).2
 ·intro vs w' AC hp
  have:=(sp vs).2 w' AC (by rw[AA]; simpa using hp)
  rw[AA] at this
  simpa using this
 ·intro i;simp only[List.mem_range]
  constructor
  ·intro h
   have:i<m+(l.length-m):=by omega
   exact⟨h,by simp[this]⟩
  ·exact fun h=>h.1
 ·refine⟨h0,rfl,fun i hi hl=>?_,fun i o t AB hi hd hl=>?_,fun t _=>rfl,fun i o hi hl=>?_,fun i hi AD=>?_⟩
  ·have:i<m+(l.length-m):=by omega
   simp[this] at hl
  ·have:i<m+(l.length-m):=by omega
   simp[this] at hl
  ·have AE:i<l.length:=by simpa using (Array.getElem?_eq_some_iff.1 hi).1
   have:i<m+(l.length-m):=by omega
   simp[this] at hl
  ·have AE:i<l.length:=by simpa using AD
   have:i<m+(l.length-m):=by omega
   simp[this]
end
theorem jH.left {w w':World}{o1 o2:Option Nat}{F1:List (Value→World→Prop)}{N:Nat}{e t1:TypeId}{H n:Nat}{v0:Value}{xs news:List Value}(k:vF o1 F1 w w')(ho:∀b,o1=some b→∃cur,Blk w b t1 cur)(hne:e≠t1):jH o1 o2 (F1++FsH N e v0 H n xs news) w w':=
 ⟨⟨k.1.os,k.1.tape,k.1.output,k.1.size,fun b hb h1 _=>k.1.block b hb h1⟩,fun F hF v h=>by
  rcases List.mem_append.1 hF with h1 | h1
  ·exact k.2 F h1 v h
  ·exact zPA k.1 ho hne F h1 v h⟩
theorem jH.right {w w':World}{o1 o2:Option Nat}{F2:List (Value→World→Prop)}{N:Nat}{e t1:TypeId}{H n:Nat}{v0:Value}{xs news:List Value}(k:vF o2 F2 w w')(ho:∀b,o2=some b→∃cur,Blk w b t1 cur)(hne:e≠t1):jH o1 o2 (Fs2 N e v0 H n xs news++F2) w w':=
 ⟨⟨k.1.os,k.1.tape,k.1.output,k.1.size,fun b hb _ h1=>k.1.block b hb h1⟩,fun F hF v h=>by
  rcases List.mem_append.1 hF with h1 | h1
  ·exact zQX k.1 ho hne F h1 v h
  ·exact k.2 F h1 v h⟩
theorem zRk {N e n H N' e' n' H':Nat}{v0 v0':Value}{xs news xs' news':List Value}:∀F ∈ Fs2 N e v0 H n xs news++FsH N' e' v0' H' n' xs' news',∀v w w',F v w→Ext w w'→F v w':=fun F hF v w w' h hx=>by
 rcases List.mem_append.1 hF with h1 | h1
 ·exact zO5 _ _ _ _ _ _ _ F h1 v w w' h hx
 ·exact zF1 _ _ _ _ _ _ _ F h1 v w w' h hx
theorem zMv {P:Program}{id:Nat}{Q':Exit→Act→World→Prop}{a:Act}{w:World}{l:List Oper}{ks:List Take}(o1 o2:Option Nat)(Fs:List (Value→World→Prop))(m e:Nat)(x d:Tmp)(hm:P.follows .mixedOrders=true)(hB:YG l.toArray m=true)(hT:zEC l.toArray m e x d=true)
  (hE:∀F ∈ Fs,∀v w w',F v w→Ext w w'→F v w')
  (h:ZF P l.toArray (jH o1 o2 Fs) w (fun a' w'=>zDo P (fun a w=>Q' .normal a w) (l.drop m) a' w') (l.take m) ks a []):(Code.region id l.toArray true).wp P Q' a w:=
 zGn (R:=jH o1 o2 Fs) m ks hm hB hT jH.trans (jH.ext hE (Below.drew (Below.refl _ _))) h
theorem zE4 {P:Program}{Q:Act→World→Prop}{o:Oper}{l:List Oper}{a:Act}{w:World}{d:Option Tmp}(v0:Value)(w0:World)(hd:o.dst=d)(h:xA P a.eval o w fun v w'=>v=v0∧w'=w0)(hk:zDo P Q l (a.put d v0) w0):zDo P Q (o::l) a w:=by
 subst hd
 exact xA.mono h fun v w' hv=>by rw[hv.1,hv.2]; exact hk
end Go.Proofs.YtbadjmmjbpeocaaGreat
