/- The law on regions that draw their order, where a call may panic: what it leaves then is told by X. (and what follows of it). The conditions stand at each lemma. -/
import Derived.Test.YtbadjmmjbpeocaaGreatJaa
import Derived.Test.YtbadjmmjbpeocaaGreatJaf
import Derived.Deep.Cut
import Derived.Test.YtbadjmmjbpeocaaGreatJac
import Derived.Test.YtbadjmmjbpeocaaGreatJab
set_option linter.unusedVariables false
set_option linter.unusedSimpArgs false
set_option maxRecDepth 100000
set_option maxHeartbeats 16000000
namespace Go.Proofs.YtbadjmmjbpeocaaGreat
open Go Go.RowKit
def vQ (X:List PanicEntry→World→Prop)(P:Program)(ρ:Operand→Value)(o:Oper)(w:World)(F:Value→World→Prop):Prop:=
 match (execOp ρ o).run P w with
 | .ok (.value u) w'=>F u w'
 | .ok .skip w'=>F undef w'
 | .ok (.enter f args) w'=>Calls P f args w' fun e AA=>(∃u,e=.returned u∧F u AA)∨∃c,e=.panicked c∧X c AA
 | _=>False
theorem vQ.mono {X:List PanicEntry→World→Prop}{P:Program}{ρ:Operand→Value}{o:Oper}{w:World}{F G:Value→World→Prop}(h:vQ X P ρ o w F)(hFG:∀v w',F v w'→G v w'):vQ X P ρ o w G:=by
 unfold vQ at *;generalize (execOp ρ o).run P w=r at *
 cases r with
 | ok n w'=>
  cases n with
  | value u=>exact hFG _ _ h
  | skip=>exact hFG _ _ h
  | enter f args=>exact Calls.mono h fun e AA hh=>hh.imp (fun ⟨u,he,hf⟩=>⟨u,he,hFG _ _ hf⟩) id
  | _=>exact h
 | halt x w'=>exact h
theorem zJA {X:List PanicEntry→World→Prop}{P:Program}{o:Oper}{a:Act}{w:World}{F:Value→World→Prop}{K:Act→World→Prop}{Q:Exit→Act→World→Prop}
  (h:vQ X P a.eval o w F) (hk:∀v w',F v w'→K (a.put o.dst v) w') (hX:∀c w',X c w'→Q (.panic c) a w'):o.wp P a w K Q:=by
 unfold vQ at h;unfold Oper.wp;generalize (execOp a.eval o).run P w=r at *
 cases r with
 | ok n w'=>
  cases n with
  | value u=>exact hk _ _ h
  | skip=>exact hk _ _ h
  | enter f args=>exact Calls.mono h fun e AA hh=>by rcases hh with ⟨u,he,hf⟩ | ⟨c,he,hx⟩ <;> subst he <;> first | exact hk _ _ hf | exact hX _ _ hx
  | _=>exact h.elim
 | halt x w'=>exact h.elim
section
variable (X:List PanicEntry→World→Prop) (P:Program) (ops:Array Oper) (R:World→World→Prop) (w0:World) (Q:Act→World→Prop)
def zK3 (o:Oper)(a:Act)(H:List (Option Tmp × (World→Prop)))(F:Value→World→Prop):Prop:=
 ∀w,R w0 w→(∀p ∈ H,(∃t,p.1=some t∧t ∈ o.looksAt ops)→p.2 w) →
  if Region.wanted o (yielded ops a.tmps)=true then vQ X P a.eval o w (fun v w'=>F v w'∧R w w') else F undef w
def zA1:List Oper→List Take→Act→List (Option Tmp × (World→Prop))→Prop
 | [],_,a,H=>∀w,R w0 w→(∀p ∈ H,p.2 w)→Q a w
 | o::l,.det v0::ks,a,H=>zK3 X P ops R w0 o a H (fun v _=>v=v0)∧zA1 l ks (a.put o.dst v0) H
 | o::l,.fact F::ks,a,H=>(∀v w w',F v w→R w w'→F v w')∧zK3 X P ops R w0 o a H F∧∀v,zA1 l ks (a.put o.dst v) ((o.dst,F v)::H)
 | _::_,[],_,_=>False
end
section
variable {X:List PanicEntry→World→Prop} {P:Program} {ops:Array Oper} {R:World→World→Prop} {w0:World} {Q:Act→World→Prop}
theorem zGl {a:Act}{H:List (Option Tmp × (World→Prop))}(h:∀w,R w0 w→(∀p ∈ H,p.2 w)→Q a w):zA1 X P ops R w0 Q [] [] a H:=h
theorem zQD {o:Oper}{l:List Oper}{ks:List Take}{a:Act}{H:List (Option Tmp × (World→Prop))}(v0:Value)
  (h:zK3 X P ops R w0 o a H (fun v _=>v=v0)) (hk:zA1 X P ops R w0 Q l ks (a.put o.dst v0) H):zA1 X P ops R w0 Q (o::l) (.det v0::ks) a H:=⟨h,hk⟩
theorem zOf {o:Oper}{l:List Oper}{ks:List Take}{a:Act}{H:List (Option Tmp × (World→Prop))}(F:Value→World→Prop)
  (hs:∀v w w',F v w→R w w'→F v w') (h:zK3 X P ops R w0 o a H F) (hk:∀v,zA1 X P ops R w0 Q l ks (a.put o.dst v) ((o.dst,F v)::H)):zA1 X P ops R w0 Q (o::l) (.fact F::ks) a H:=⟨hs,h,hk⟩
theorem zFo {ks:List Take}{a0:Act}(vs:Nat→Value):∀(l:List Oper) (k:Nat),(∀j,j<l.length→l[j]?=ops[k+j]?)→zA1 X P ops R w0 Q l (ks.drop k) (YD ops ks vs a0 k) (VC ops ks vs k) →
  (∀i o,k≤i→i<k+l.length→ops[i]?=some o→(∀v w w',(ks.getD i (.det undef)).says v w→R w w'→(ks.getD i (.det undef)).says v w')∧zK3 X P ops R w0 o (YD ops ks vs a0 i) (VC ops ks vs i) (ks.getD i (.det undef)).says) ∧
  ∀w,R w0 w→(∀p ∈ VC ops ks vs (k+l.length),p.2 w)→Q (YD ops ks vs a0 (k+l.length)) w
 | [],k,hl,h=>by
  refine⟨fun i o hi AB ho=>?_,by simpa [zA1] using h⟩
  simp at AB
  omega
 | o::l,k,hl,h=>by
  have h0:ops[k]?=some o:=by simpa using (hl 0 (by simp)).symm
  have AD:∀j,j<l.length→l[j]?=ops[k+1+j]?:=fun j hj=>by
   have:=hl (j+1) (by simpa using hj)
   simpa [Nat.add_assoc,Nat.add_comm 1 j] using this
  cases hd:ks.drop k with
  | nil=>rw[hd] at h; simp[zA1] at h
  | cons x ks'=>
   rw[hd] at h
   have hx:ks[k]?=some x:=by
    have:=congrArg (fun l=>l[0]?) hd
    simpa using this
   have hg:ks.getD k (.det undef)=x:=by simp[List.getD,hx]
   have AE:ks.drop (k+1)=ks':=by
    rw[←List.drop_drop,hd]; rfl
   have AA:k+(o::l).length=k+1+l.length:=by simp; omega
   cases x with
   | det v0=>
    simp only[zA1] at h
    have hA:YD ops ks vs a0 (k+1)=(YD ops ks vs a0 k).put o.dst v0:=by
     show(YD ops ks vs a0 k).put ((ops[k]?).bind (·.dst)) ((ks.getD k (.det undef)).val (vs k))=_
     rw[hg,h0]; rfl
    have hH:VC ops ks vs (k+1)=VC ops ks vs k:=by
     show(match ks.getD k (.det undef) with | .det _=>_ | .fact F=>_)=_
     rw[hg]
    obtain⟨r1,r2⟩:=zFo vs l (k+1) AD (by rw[AE,hA,hH]; exact h.2);rw[AA];refine⟨fun i oi hi AB ho=>?_,r2⟩
    by_cases AC:i=k
    ·subst AC;rw[h0] at ho;obtain rfl:=Option.some.inj ho;rw[hg];exact⟨fun v w w' e _=>e,h.1⟩
    ·exact r1 i oi (by omega) (by omega) ho
   | fact F=>
    simp only[zA1] at h
    have hA:YD ops ks vs a0 (k+1)=(YD ops ks vs a0 k).put o.dst (vs k):=by
     show(YD ops ks vs a0 k).put ((ops[k]?).bind (·.dst)) ((ks.getD k (.det undef)).val (vs k))=_
     rw[hg,h0]; rfl
    have hH:VC ops ks vs (k+1)=(o.dst,F (vs k))::VC ops ks vs k:=by
     show(match ks.getD k (.det undef) with | .det _=>_ | .fact F=>_)=_
     rw[hg,h0]; rfl
    obtain⟨r1,r2⟩:=zFo vs l (k+1) AD (by rw[AE,hA,hH]; exact h.2.2 (vs k));rw[AA];refine⟨fun i oi hi AB ho=>?_,r2⟩
    by_cases AC:i=k
    ·subst AC;rw[h0] at ho;obtain rfl:=Option.some.inj ho;rw[hg];exact⟨h.1,h.2.1⟩
    ·exact r1 i oi (by omega) (by omega) ho
theorem zFb (o:Oper)(hs:∀cs b,o.op≠.select cs b)(a a':Act)(h:∀t ∈ o.looksAt ops,a.tmps[t]?=a'.tmps[t]?){w:World}{F:Value→World→Prop}:vQ X P a.eval o w F=vQ X P a'.eval o w F:=by
 unfold vQ;rw[zGN o hs a a' h]
theorem zLU {m:Nat}(hR:∀a b c,R a b→R b c→R a c)(hB:YG ops m=true)(hT:zBY ops m=true){ks:List Take}{a0:Act}{Q':Exit→Act→World→Prop}(hX:∀a,a.defers=a0.defers→∀c w,X c w→Q' (.panic c) a w)
  (hst:∀i o,i<m→ops[i]?=some o→∀v w w',(ks.getD i (.det undef)).says v w→R w w'→(ks.getD i (.det undef)).says v w')
  (how:∀vs i o,i<m→ops[i]?=some o→zK3 X P ops R w0 o (YD ops ks vs a0 i) (VC ops ks vs i) (ks.getD i (.det undef)).says)
  (hQ:∀vs w,R w0 w→(∀p ∈ VC ops ks vs m,p.2 w)→wpList P ops Q' (ops.toList.drop m) (YD ops ks vs a0 m) w) :
  ∀(n:Nat) (listed:Array Bool) (U:List Nat) (a:Act) (w:World) (vs:Nat→Value),listed.size=ops.size→U.length=n→U.Nodup→(∀i,i ∈ U↔i<m∧listed.getD i true=false) →
   zD5 P ops m R w0 ks a0 listed a w vs→wpAny P .any ops Q' (n+(ops.size-m)) listed a w:=by
 have Ae:=JK hB
 have AE:∀(listed:Array Bool) (j:Nat),listed.size=ops.size→j<ops.size→listed.getD j false=listed.getD j true:=fun listed j AH hj=>by
  have:j<listed.size:=by omega
  simp[this]
 intro n
 induction n with
 | zero=>
  intro listed U a w vs AH AF AS hU AA;obtain rfl:=List.length_eq_zero_iff.1 AF
  have AN:∀i,i<m→listed.getD i true=true:=fun i hi=>by
   cases hf:listed.getD i true with
   | true=>rfl
   | false=>have:=(hU i).2 ⟨hi,hf⟩; cases this
  have ea:a=YD ops ks vs a0 m:=by
   refine zGb (fun t=>?_) (by rw[AA.defers,zBx])
   by_cases AJ:∃(i:Nat) (o:Oper),i<m∧ops[i]?=some o∧o.dst=some t
   ·obtain⟨i,o,AC,hi,hd⟩:=AJ;have hl:=AN i AC;rw[AA.done i o t AC hi hd hl,zAa hB (j:=i) (by rw[hi]; exact hd) AC (zX _),Take.zEe (AA.facts i AC hl)]
   ·rw[AA.other t fun i o AC hi hd=>absurd ⟨i,o,AC,hi,hd⟩ AJ,YO];intro j hj e;obtain⟨o,ho,hd⟩:=Option.bind_eq_some_iff.1 e;exact AJ ⟨j,o,hj,ho,hd⟩
  rw[Nat.zero_add];refine zFq hT _ m listed a w (zX _) (by omega) AH (fun j hj=>?_) AA.closed ?_
  ·by_cases AD:j<m
   ·rw[AN j AD]; simp[AD]
   ·rw[AA.fresh j (by omega) hj]; simp[AD]
  ·rw[ea];refine hQ vs w AA.world fun p hp=>?_;obtain⟨j,hj,_,hs⟩:=VW hp;exact hs w (AA.facts j hj (AN j hj))
 | succ n ih=>
  intro listed U a w vs AH AF AS hU AA;rw[show n+1+(ops.size-m)=n+(ops.size-m)+1 from by omega]
  have AO:Region.ready .any ops listed≠[]:=fun hr=>by
   have AN:∀n i,i<n→i<m→listed.getD i true=true:=by
    intro n
    induction n with
    | zero=>intro i hi; omega
    | succ n ih'=>
     intro i hi AQ
     cases hf:listed.getD i true with
     | true=>rfl
     | false=>
      exfalso
      have AV:ops[i]?=some ops[i]:=Array.getElem?_eq_getElem (by omega)
      have hm:i ∈ Region.ready .any ops listed:=by
       rw[mem_ready];refine⟨hf,_,AV,fun e he hb=>?_⟩;have Ad:=(XX hB AQ AV).2 e he hb;rw[AE listed e.on AH (by omega)];exact ih' e.on (by omega) (by omega)
      rw[hr] at hm
      cases hm
   cases U with
   | nil=>simp at AF
   | cons x xs=>
    have:=(hU x).1 List.mem_cons_self
    rw[AN (x+1) x (by omega) this.1] at this
    cases this.2
  refine⟨fun hr=>absurd hr AO,fun i hi=>?_⟩;obtain⟨h0,o,ho,AI⟩:=mem_ready.1 hi;have AQ:i<ops.size:=(Array.getElem?_eq_some_iff.1 ho).1
  have AC:i<m:=by
   rcases Nat.lt_or_ge i m with h | h
   ·exact h
   ·exfalso
    cases U with
    | nil=>simp at AF
    | cons x xs=>
     have hx:=(hU x).1 List.mem_cons_self
     have:=JP AA.closed 8 i x o ho AI ((zBe hT ho h).2 x (by omega))
     rw[AE listed x AH (by omega),hx.2] at this
     cases this
  have AX:i<listed.size:=by omega
  have AM:(listed.setIfInBounds i true).getD i true=true:=by simp[AX]
  have AG:∀j,j≠i→(listed.setIfInBounds i true).getD j true=listed.getD j true:=fun j hj=>getD_set_ne true (Ne.symm hj)
  have look:∀t ∈ o.looksAt ops,a.tmps[t]?=(YD ops ks vs a0 i).tmps[t]?:=fun t ht=>by
   by_cases AJ:∃(j:Nat) (p:Oper),j<m∧ops[j]?=some p∧p.dst=some t
   ·obtain⟨j,p,AD,hj,hd⟩:=AJ
    rcases(vG hB AC AD ho hj hd).2 ht with ⟨AB,e,he,heq,hb⟩ | ⟨hij,e,he,heq,hb⟩
    ·have AW:listed.getD j true=true:=by
      have h1:=AI e he hb;rw[heq,AE listed j AH (by omega)] at h1;exact h1
     rw[AA.done j p t AD hj hd AW,zAa hB (j:=j) (by rw[hj]; exact hd) AB (by omega),Take.zEe (AA.facts j AD AW)]
    ·have AY:listed.getD j true=false:=by
      cases hf:listed.getD j true with
      | false=>rfl
      | true=>
       have:=AA.closed j p hj (by rw[AE listed j AH (by omega)]; exact hf) e he hb
       rw[heq,AE listed i AH AQ,h0] at this
       cases this
     rw[AA.other t fun k ok AP hk AK=>by
       have:=(vG hB AP AD hk hj hd).1 AK
       subst this
       exact AY,YO]
     intro k hk e';obtain⟨ok,Ac,AK⟩:=Option.bind_eq_some_iff.1 e'
     have:=(vG hB (by omega) AD Ac hj hd).1 AK
     omega
   ·rw[AA.other t fun i o AC hi hd=>absurd ⟨i,o,AC,hi,hd⟩ AJ,YO];intro j hj e;obtain⟨o,ho,hd⟩:=Option.bind_eq_some_iff.1 e;exact AJ ⟨j,o,by omega,ho,hd⟩
  have go:∀v w',(ks.getD i (.det undef)).says v w'→R w w'∨w'=w→wpAny P .any ops Q' (n+(ops.size-m)) (listed.setIfInBounds i true) (a.put o.dst v) w':=by
   intro v w' hv AL
   have AR:∀j oj,j<m→ops[j]?=some oj→∀v,(ks.getD j (.det undef)).says v w→(ks.getD j (.det undef)).says v w':=fun j oj AD hj v hs=>by
    rcases AL with AL | rfl
    ·exact hst j oj AD hj v w w' hs AL
    ·exact hs
   refine ih (listed.setIfInBounds i true) (U.erase i) _ w' (fun j=>if j=i then v else vs j) (by simpa using AH) ?_ (AS.erase i) (fun j=>?_) ?_
   ·rw[List.length_erase_of_mem ((hU i).2 ⟨AC,h0⟩),AF]; rfl
   ·rw[AS.mem_erase_iff,hU j]
    by_cases AB:j=i
    ·subst AB; simp[AX]
    ·rw[AG j AB]; simp[AB]
   ·refine⟨?_,by rw[XQ]; exact AA.defers,fun j hj hl=>?_,fun j p t AD hj hd hl=>?_,fun t ht=>?_,fun j p hj hl e he hb=>?_,fun j hj Ab=>?_⟩
    ·rcases AL with AL | rfl
     ·exact hR _ _ _ AA.world AL
     ·exact AA.world
    ·by_cases AB:j=i
     ·subst AB; simpa using hv
     ·rw[AG j AB] at hl;simp only[if_neg AB];exact AR j _ hj (Array.getElem?_eq_getElem (by omega)) _ (AA.facts j hj hl)
    ·by_cases AB:j=i
     ·subst AB;rw[ho] at hj;obtain rfl:=Option.some.inj hj
      rw[hd,XM,AA.other t fun k ok AP hk AK=>by
       have:=(vG hB AP AC hk ho hd).1 AK
       subst this
       exact h0]
      simp
     ·rw[AG j AB] at hl;rw[jC _ _ _ (fun e=>AB ((vG hB AC AD ho hj hd).1 e).symm),AA.done j p t AD hj hd hl];simp[AB]
    ·rw[jC _ _ _ (fun e=>by
      have:=ht i o AC ho e
      rw[AM] at this
      cases this)]
     refine AA.other t fun k ok AP hk AK=>?_
     have:=ht k ok AP hk AK
     by_cases AU:k=i
     ·subst AU; exact h0
     ·rwa [AG k AU] at this
    ·by_cases AB:j=i
     ·subst AB;rw[ho] at hj;obtain rfl:=Option.some.inj hj;exact getD_set_true (AI e he hb)
     ·rw[getD_set_ne false (Ne.symm AB)] at hl;exact getD_set_true (AA.closed j p hj hl e he hb)
    ·rw[AG j (by omega)];exact AA.fresh j hj Ab
  have ow:=how vs i o AC ho w AA.world (fun p hp ⟨t,hpt,ht⟩=>by
   obtain⟨j,hj,AT,hs⟩:=VW hp;rw[hpt] at AT;obtain⟨p',AZ,Aa⟩:=Option.bind_eq_some_iff.1 AT.symm
   rcases(vG hB AC (by omega) ho AZ Aa).2 ht with ⟨_,e,he,heq,hb⟩ | ⟨hij,_⟩
   ·have h1:=AI e he hb;rw[heq,AE listed j AH (by omega)] at h1;exact hs w (AA.facts j (by omega) h1)
   ·omega)
  unfold wpOp;simp only[ho];rw[←zAF o a _ look,←zFb o (XX hB AC ho).1 a _ look] at ow
  split
  ·rename_i hw;simp only[hw,if_true] at ow;exact .inl (zJA ow (fun v w' hv=>go v w' hv.1 (.inl hv.2)) (fun c w' hx=>hX a AA.defers c w' hx))
  ·rename_i hw;simp only[hw] at ow;exact go undef w ow (.inr rfl)
theorem zGJ {id:Nat}{Q':Exit→Act→World→Prop}{a:Act}{w:World}{l:List Oper}(m:Nat)(ks:List Take)(hm:P.follows .mixedOrders=true)(hB:YG l.toArray m=true)(hT:zBY l.toArray m=true)
  (hR:∀a b c,R a b→R b c→R a c) (h0:R w0 w.drew) (hX:∀a',a'.defers=a.defers→∀c w,X c w→Q' (.panic c) a' w)
  (h:zA1 X P l.toArray R w0 (fun a' w'=>wpList P l.toArray Q' (l.drop m) a' w') (l.take m) ks a []):(Code.region id l.toArray true).wp P Q' a w:=by
 have AF:=JK hB;simp only[List.size_toArray] at AF;refine wp_region_any hm ?_
 have sp:=fun vs=>zFo (X:=X) (P:=P) (ops:=l.toArray) (R:=R) (w0:=w0) (Q:=fun a' w'=>wpList P l.toArray Q' (l.drop m) a' w') (ks:=ks) (a0:=a) vs (l.take m) 0 (fun j hj=>by
  have AG:j<m:=by simp at hj; omega
  simp[List.getElem?_take,AG]) (by simpa [YD,VC] using h)
 have AA:(l.take m).length=m:=by simp; omega
 rw[show l.toArray.size=m+(l.toArray.size-m) from by simp; omega];refine zLU (X:=X) (P:=P) (ops:=l.toArray) (R:=R) (w0:=w0) (ks:=ks) (a0:=a) (m:=m) hR hB hT hX ?_ ?_ ?_ m _ (List.range m) a _ (fun _=>undef) (by simp; omega) (by simp) List.nodup_range ?_ ?_
 ·exact fun i o AB hi=>((sp fun _=>undef).1 i o (zW _) (by omega) hi).1
 ·exact fun vs i o AB hi=>((sp vs).1 i o (zW _) (by omega) hi).2
 ·intro vs w' AC hp
  have:=(sp vs).2 w' AC (by rw[AA]; simpa using hp)
  rw[AA] at this
  simpa using this
 ·intro i;simp only[List.mem_range]
  constructor
  ·intro h
   have:i<m+(l.length-m):=by omega
   exact⟨h,by simp[this]⟩
  ·exact fun h=>h.1
 ·refine⟨h0,rfl,fun i hi hl=>?_,fun i o t AB hi hd hl=>?_,fun t _=>rfl,fun i o hi hl=>?_,fun i hi AD=>?_⟩
  ·have:i<m+(l.length-m):=by omega
   simp[this] at hl
  ·have:i<m+(l.length-m):=by omega
   simp[this] at hl
  ·have AE:i<l.length:=by simpa using (Array.getElem?_eq_some_iff.1 hi).1
   have:i<m+(l.length-m):=by omega
   simp[this] at hl
  ·have AE:i<l.length:=by simpa using AD
   have:i<m+(l.length-m):=by omega
   simp[this]
theorem vZ {o:Oper}{l:List Oper}{ks:List Take}{a:Act}{H:List (Option Tmp × (World→Prop))}{d:Option Tmp}{L:List Tmp}(v0:Value)(hd:o.dst=d)(hg:o.guard=none)(hL:zAt o=L)
  (h:∀w,R w0 w→(∀p ∈ H,(∃t,p.1=some t∧t ∈ L)→p.2 w)→vQ X P a.eval o w (fun v w'=>v=v0∧R w w')) (hk:zA1 X P ops R w0 Q l ks (a.put d v0) H):zA1 X P ops R w0 Q (o::l) (.det v0::ks) a H:=by
 subst hd hL;refine zQD v0 (fun w hw hH=>?_) hk
 have:Region.wanted o (yielded ops a.tmps)=true:=by unfold Region.wanted; rw[hg]
 rw[if_pos this];exact h w hw fun p hp ⟨t,ht,hm⟩=>hH p hp ⟨t,ht,List.mem_append_left _ hm⟩
theorem VR {o:Oper}{l:List Oper}{ks:List Take}{a:Act}{H:List (Option Tmp × (World→Prop))}{d:Option Tmp}{L:List Tmp}(F:Value→World→Prop)(hs:∀v w w',F v w→R w w'→F v w')(hd:o.dst=d)(hg:o.guard=none)(hL:zAt o=L)
  (h:∀w,R w0 w→(∀p ∈ H,(∃t,p.1=some t∧t ∈ L)→p.2 w)→vQ X P a.eval o w (fun v w'=>F v w'∧R w w')) (hk:∀v,zA1 X P ops R w0 Q l ks (a.put d v) ((d,F v)::H)):zA1 X P ops R w0 Q (o::l) (.fact F::ks) a H:=by
 subst hd hL;refine zOf F hs (fun w hw hH=>?_) hk
 have:Region.wanted o (yielded ops a.tmps)=true:=by unfold Region.wanted; rw[hg]
 rw[if_pos this];exact h w hw fun p hp ⟨t,ht,hm⟩=>hH p hp ⟨t,ht,List.mem_append_left _ hm⟩
end
def XI (p:Int)(er:Int):Ending:=.panicked [{ v:=.iface 117 (.agg #[.int .i64 p,.int .i64 er]),recovered:=false }]
theorem xJ {P:Program}{fn:Func}{R:Ending→World→Prop}{a:Act}{w:World}{p er:Int}(hd:a.defers=[])(h:R (XI p er) w):bodyPost P fn R (Exit.panic [{ v:=.iface 117 (.agg #[.int .i64 p,.int .i64 er]),recovered:=false }]) a w:=⟨hd,h⟩
structure RdS (w:World)(a p:Nat)(A:Option Addr)(ct:Nat)(l:List Tx):Prop where
 r0:w.cell? ⟨a,0,none⟩=some (.pointer (some ⟨p,0,none⟩))
 p0:w.cell? ⟨p,0,none⟩=some (.slice A l.length ct)
 row:Cells w A (tcs l)
 al:a<w.heap.size
 pl:p<w.heap.size
theorem RdS.ext {w w':World}{a p:Nat}{A:Option Addr}{ct:Nat}{l:List Tx}(h:RdS w a p A ct l)(hx:Ext w w'):RdS w' a p A ct l:=
 ⟨(hx.cell (p:=⟨a,0,none⟩) h.al).trans h.r0,(hx.cell (p:=⟨p,0,none⟩) h.pl).trans h.p0,h.row.ext hx,yU h.al hx.size,yU h.pl hx.size⟩
theorem RdS.at_ {w:World}{a p:Nat}{A:Option Addr}{ct:Nat}{l:List Tx}(h:RdS w a p A ct l)(k:Nat)(hk:k<l.length) :
  ∃b AA,A=some ⟨b,AA,none⟩∧b<w.heap.size∧∀j,j<5→w.cell? ⟨b,AA+k*5+j,none⟩=(vT l k).toList[j]?:=by
 obtain⟨b,AA,hA,hb,AB⟩:=h.row.at_ (by rw[zE0]; omega);refine⟨b,AA,hA,hb,fun j hj=>?_⟩;rw[Nat.add_assoc,AB _ (by rw[zE0]; omega),zN5 l k hk j hj,zIA hk]
theorem XC (w:World)(a:Value)(i er:Int):Calls Tryz.prog 83 #[a,.bool true,.int .i64 i,.int .i64 er] w fun e w'=>e=.returned (.tuple #[])∧w=w':=by
 go_enter Tryz.func83,Tryz.ntmps83
 go_wp2
 go_end0;exact⟨rfl,rfl⟩
theorem JW (w:World)(a p:Nat)(A:Option Addr)(ct:Nat)(l:List Tx)(i:Nat)(er:Int)(h:RdS w a p A ct l)(hi:i<l.length) :
  Calls Tryz.prog 83 #[.pointer (some ⟨a,0,none⟩),.bool false,.int .i64 (i:Int),.int .i64 er] w fun e w'=>e=XI (YT l i) er∧w=w':=by
 obtain⟨b,AA,rfl,hb,hc⟩:=h.at_ i hi;have r0:=h.r0;have p0:=h.p0;have c1:w.cell? ⟨b,AA+i*5+1,none⟩=some (.int .i64 (YT l i)):=hc 1 (by decide)
 have q0:(i:Int)<(l.length:Int):=by omega
 clear h hc
 go_enter Tryz.func83,Tryz.ntmps83
 go_wp2
 exact⟨rfl,rfl,rfl⟩
theorem vW (w:World)(a p:Nat)(A:Option Addr)(ct:Nat)(l:List Tx)(i:Nat)(h:RdS w a p A ct l)(hi:i<l.length) :
  Calls Tryz.prog 48 #[.pointer (some ⟨a,0,none⟩),.int .i64 (i:Int)] w fun e w'=>e=.returned (.agg (vT l i))∧Ext w w':=by
 obtain⟨b,AA,rfl,hb,hc⟩:=h.at_ i hi;have r0:=h.r0;have p0:=h.p0;have al:=h.al;have pl:=h.pl;unfold vT at *;generalize (yZ (tN l) i).kind=nk at *;generalize YT l i=np at *;generalize (yZ (tN l) i).text=nt at *;generalize (yZ (tN l) i).num=nn at *;generalize (yZ (tN l) i).kids.length=kn at *;generalize (hdN l i).1=kA at *;generalize (hdN l i).2=kc at *;have c0:w.cell? ⟨b,AA+i*5,none⟩=some (.int .u8 (nk:Int)):=hc 0 (by decide);have c1:w.cell? ⟨b,AA+i*5+1,none⟩=some (.int .i64 np):=hc 1 (by decide);have c2:w.cell? ⟨b,AA+i*5+2,none⟩=some (.string (xG nt)):=hc 2 (by decide);have c3:w.cell? ⟨b,AA+i*5+3,none⟩=some (.int .i64 nn):=hc 3 (by decide);have c4:w.cell? ⟨b,AA+i*5+4,none⟩=some (.slice kA kn kc):=hc 4 (by decide)
 have q0:(i:Int)<(l.length:Int):=by omega
 clear h hc
 go_enter Tryz.func48,Tryz.ntmps48
 go_wp2
 refine bodyPost_ret (v:=.agg #[.int .u8 (nk:Int),.int .i64 np,.string (xG nt),.int .i64 nn,.slice kA kn kc]) (by simp[results,Tryz.results48,go_sem]) rfl ⟨rfl,?_⟩;exact Ext.alloc _ _
structure ZQ (R R':DyN):Prop where
 j:R'.j=R.j
 sz:R'.pc.size=R.pc.size
 pc:∀i,i≠R.j*5+2→R'.pc[i]?=R.pc[i]?
theorem ZQ.refl (R:DyN):ZQ R R:=⟨rfl,rfl,fun _ _=>rfl⟩
theorem ZQ.trans {R R1 R2:DyN}(h:ZQ R R1)(k:ZQ R1 R2):ZQ R R2:=⟨k.j.trans h.j,k.sz.trans h.sz,fun i hi=>(k.pc i (by rw[h.j]; exact hi)).trans (h.pc i hi)⟩
def OkN (w:World)(S:StN)(R:DyN)(s':Nr)(w':World):Prop:=∃R',ZQ R R'∧NB w' S s' R'∧xC w (xL S R) w' (xL S R')
def jR (w:World)(S:StN)(R:DyN)(r:XH Nr)(v:Nr→Value)(e:Ending)(w':World):Prop:=
 match r with
 | .ok s'=>e=.returned (v s')∧OkN w S R s' w'
 | .err i er=>e=XI (YT S.l i) er∧i<S.l.length∧∃M',xC w (xL S R) w' M'
def vU:Nr→Value:=fun _=>.tuple #[]
theorem OkN.trans {w w1 w2:World}{S:StN}{R R1:DyN}{s:Nr}(hs:ZQ R R1)(h:xC w (xL S R) w1 (xL S R1))(k:OkN w1 S R1 s w2):OkN w S R s w2:=let ⟨R2,a,b,c⟩:=k; ⟨R2,hs.trans a,b,h.trans c⟩
theorem jR.trans {w w1 w2:World}{S:StN}{R R1:DyN}{r:XH Nr}{v:Nr→Value}{e:Ending}(hs:ZQ R R1)(h:xC w (xL S R) w1 (xL S R1))(k:jR w1 S R1 r v e w2):jR w S R r v e w2:=by
 cases r with
 | ok s=>exact⟨k.1,OkN.trans hs h k.2⟩
 | err i er=>obtain⟨a,b,M,c⟩:=k; exact⟨a,b,M,h.trans c⟩
theorem jR.err {w w':World}{S:StN}{R:DyN}{r:XH Nr}{v:Nr→Value}{i:Nat}{er:Int}(hr:r=.err i er)(hi:i<S.l.length)(hx:Ext w w'):jR w S R r v (XI (YT S.l i) er) w':=by
 rw[hr];exact⟨rfl,hi,_,xC.ext (M:=xL S R) hx⟩
theorem NB.zRz {w w1:World}{S:StN}{s:Nr}{R:DyN}(h:NB w1 S s R)(hx:Ext w w1)(i:Nat)(x:Int):OkN w S R (s.set i x) (w1.setCell ⟨S.bo,i,none⟩ (.int .i64 x)):=
 let k:=h.setOf i x
 ⟨R,ZQ.refl R,k.1,(xC.ext hx).trans k.2⟩
theorem NB.rds {w:World}{S:StN}{s:Nr}{R:DyN}(h:NB w S s R):RdS w S.a S.p S.A S.ct S.l:=⟨h.rd.cell 0,h.st.prog.1.cell 0,h.st.tree.row.cells,h.rd.lt,h.st.prog.1.lt⟩
theorem NB.x1 {w:World}{S:StN}{s:Nr}{R:DyN}(h:NB w S s R):w.cell? ⟨S.a,1,none⟩=some (.map (some S.mt)):=h.rd.cell 1
theorem NB.x2 {w:World}{S:StN}{s:Nr}{R:DyN}(h:NB w S s R):w.cell? ⟨S.a,2,none⟩=some (.slice S.Ac s.xH.length S.cc):=h.rd.cell 2
theorem NB.x3 {w:World}{S:StN}{s:Nr}{R:DyN}(h:NB w S s R):w.cell? ⟨S.a,3,none⟩=some (.pointer (some ⟨S.bp,R.j*5,none⟩)):=h.rd.cell 3
theorem NB.x4 {w:World}{S:StN}{s:Nr}{R:DyN}(h:NB w S s R):w.cell? ⟨S.a,4,none⟩=some (.slice R.Ab s.blocks.length R.cb):=h.rd.cell 4
theorem NB.p1 {w:World}{S:StN}{s:Nr}{R:DyN}(h:NB w S s R):w.cell? ⟨S.p,1,none⟩=some (.slice S.At s.xH.length S.cT):=h.st.prog.1.cell 1
theorem NB.p3 {w:World}{S:StN}{s:Nr}{R:DyN}(h:NB w S s R):w.cell? ⟨S.p,3,none⟩=some (.slice (some ⟨S.bo,0,none⟩) S.l.length S.co):=h.st.prog.1.cell 3
theorem NB.zBP {w:World}{S:StN}{s:Nr}{R:DyN}(h:NB w S s R)(i:Nat)(hi:i<S.l.length):w.cell? ⟨S.bo,i,none⟩=some (.int .i64 (zCQ s i)):=by
 rw[h.of.cell i]
 show(ofc s.of).toArray[i]?=_
 rw[yL,zOr _ _ (by rw[h.len]; exact hi)]
 rfl
theorem NB.ofz {w:World}{S:StN}{s:Nr}{R:DyN}(h:NB w S s R)(i:Nat):w.frozen? ⟨S.bo,i,none⟩=false:=h.of.frozen i
theorem zDU (l:List Tx)(i:Nat)(w:World):(Instr.field 38 (.agg (vT l i)) 0).run Tryz.prog w=.ok (.int .u8 ((yZ (tN l) i).kind:Int)) w:=by kernel_rfl
theorem XZ (l:List Tx)(i:Nat)(w:World):(Instr.field 38 (.agg (vT l i)) 2).run Tryz.prog w=.ok (.string (xG (yZ (tN l) i).text)) w:=by kernel_rfl
theorem zFr (l:List Tx)(i:Nat)(w:World):(Instr.field 38 (.agg (vT l i)) 4).run Tryz.prog w=.ok (.slice (hdN l i).1 (yZ (tN l) i).kids.length (hdN l i).2) w:=by kernel_rfl
theorem zFP (w:World)(S:StN)(s:Nr)(R:DyN)(i:Nat)(h:NB w S s R)(hi:i<S.l.length) :
  Calls Tryz.prog 152 #[.pointer (some ⟨S.a,0,none⟩),.int .i64 (i:Int)] w (jR w S R (ofN (tN S.l) i s) (fun s'=>.int .i64 (zCQ s' i))):=by
 have AI:=yG h;have AF:=yG h.rds;have AC:=yG hi;have AH:Hid ((yZ (tN S.l) i).text.length≤maxLen):=yG (h.st.tree.txt i);have AG:Hid (MF Tryz.prog 9 w S.mt 64 fun n=>zBn (zCw s n)):=yG h.st.mt.1;have x1:=h.x1;have al:=h.rd.lt;clear h hi
 cases hk:zCw s (yZ (tN S.l) i).text with
 | none=>
  have HK:=yG hk;have HR:Hid (ofN (tN S.l) i s=.err i 70):=yG (by unfold ofN; rw[hk]);clear hk
  go_enter Tryz.func152,Tryz.ntmps152
  go_wp2_with fail
  apply ZP (by kernel_rfl) (by kernel_rfl) (by kernel_rfl);apply sQ (.pointer (some ⟨S.a,0,none⟩));apply sQ (.pointer (some ⟨S.a,0,none⟩));apply sQ (.pointer (some ⟨S.a,1,none⟩));apply sL x1 al (.map (some S.mt));apply sQ (.pointer (some ⟨S.a,0,none⟩));apply sQ (.int .i64 (i:Int));apply xB (.agg (vT S.l i)) rfl rfl rfl
  ·intro w' AB hH;clear hH;simp[xA,go_sem];refine(vW w' S.a S.p S.A S.ct S.l i (AF.out.ext AB) AC.out).mono ?_;rintro e w2 ⟨rfl,hx⟩;exact⟨_,rfl,rfl,hx⟩
  apply sP XZ (.string (xG (yZ (tN S.l) i).text));apply xB (.tuple #[.int .i64 0,.bool false]) rfl rfl rfl
  ·intro w' AB hH;clear hH;have AA:=(AG.out.ext AB).get (t:=110) (e:=3) (z:=.int .i64 0) Tryz.underlying9 Tryz.underlying110 (by rfl) (yZ (tN S.l) i).text AH.out;rw[HK.out] at AA;simp only[zBn,Option.map_some,Option.map_none,Option.getD_some,Option.getD_none,Option.isSome_some,Option.isSome_none] at AA;simp[xA,go_sem,AA];exact Ext.refl _
  apply sQ (.tuple #[.int .i64 0,.bool false]);apply sQ (.int .i64 0);apply sQ (.bool false);apply sQ (.int .i64 0);apply sQ (.bool false);apply xR;intro w1 AE hH;(try simp only[Act.put,yD,yF,yE]);have HX:=yG AE;clear AE hH x1 al
  go_wp2_with fail
  refine(JW w1 S.a S.p S.A S.ct S.l i 70 (AF.out.ext HX.out) AC.out).mono ?_;rintro e w2 ⟨rfl,rfl⟩;exact xJ (P:=Tryz.prog) (fn:=Tryz.f152) rfl (jR.err HR.out AC.out HX.out)
 | some k=>
  have HK:=yG hk;have HR:Hid (ofN (tN S.l) i s=.ok (s.set i k)):=yG (by unfold ofN; rw[hk]);clear hk
  go_enter Tryz.func152,Tryz.ntmps152
  go_wp2_with fail
  apply ZP (by kernel_rfl) (by kernel_rfl) (by kernel_rfl);apply sQ (.pointer (some ⟨S.a,0,none⟩));apply sQ (.pointer (some ⟨S.a,0,none⟩));apply sQ (.pointer (some ⟨S.a,1,none⟩));apply sL x1 al (.map (some S.mt));apply sQ (.pointer (some ⟨S.a,0,none⟩));apply sQ (.int .i64 (i:Int));apply xB (.agg (vT S.l i)) rfl rfl rfl
  ·intro w' AB hH;clear hH;simp[xA,go_sem];refine(vW w' S.a S.p S.A S.ct S.l i (AF.out.ext AB) AC.out).mono ?_;rintro e w2 ⟨rfl,hx⟩;exact⟨_,rfl,rfl,hx⟩
  apply sP XZ (.string (xG (yZ (tN S.l) i).text));apply xB (.tuple #[.int .i64 (k:Int),.bool true]) rfl rfl rfl
  ·intro w' AB hH;clear hH;have AA:=(AG.out.ext AB).get (t:=110) (e:=3) (z:=.int .i64 0) Tryz.underlying9 Tryz.underlying110 (by rfl) (yZ (tN S.l) i).text AH.out;rw[HK.out] at AA;simp only[zBn,Option.map_some,Option.map_none,Option.getD_some,Option.getD_none,Option.isSome_some,Option.isSome_none] at AA;simp[xA,go_sem,AA];exact Ext.refl _
  apply sQ (.tuple #[.int .i64 (k:Int),.bool true]);apply sQ (.int .i64 (k:Int));apply sQ (.bool true);apply sQ (.int .i64 (k:Int));apply sQ (.bool true);apply xR;intro w1 AE hH;(try simp only[Act.put,yD,yF,yE]);have HX:=yG AE;clear AE hH x1 al
  go_wp2_with fail
  refine(XC w1 (.pointer (some ⟨S.a,0,none⟩)) (i:Int) 70).mono ?_;rintro e w2 ⟨rfl,rfl⟩;have AD:=yG (AI.out.ext HX.out);have r0:=AD.out.rds.r0;have p3:=AD.out.p3;have co:=AD.out.zBP i AC.out;have cz:=AD.out.ofz i
  have q0:(i:Int)<(S.l.length:Int):=by have:=AC.out; omega
  have AJ:=yG (AD.out.zRz HX.out i (k:Int))
  go_wp2_with fail
  go_ret;rw[HR.out];refine⟨?_,AJ.out⟩;have hg:zCQ (s.set i (k:Int)) i=(k:Int):=zC1 (by rw[AI.out.len]; exact AC.out)
  show Ending.returned (.int .i64 (k:Int))=Ending.returned (.int .i64 (zCQ (s.set i (k:Int)) i))
  rw[hg]
theorem NB.zUr {w:World}{S:StN}{s:Nr}{R:DyN}(h:NB w S s R)(t:Nat)(x:Nt)(ht:s.xH[t]?=some x) :
  ∃cb co mb,S.Ac=some ⟨cb,co,none⟩∧cb<w.heap.size∧w.cell? ⟨cb,co+t,none⟩=some (.map (some mb))∧MF Tryz.prog 9 w mb 64 fun n=>zBn (x.zBW.findIdx? fun c=>c==n):=by
 obtain⟨AD,_⟩:=List.getElem?_eq_some_iff.1 ht;have AC:=h.st.cml;obtain⟨b,AB,hA,hb,AA⟩:=h.st.zBW.cells.at_ (by rw[zB8]; omega)
 have hk:t<S.cm.length:=by omega
 exact⟨b,AB,S.cm[t],hA,hb,by rw[AA t (by rw[zB8]; omega)]; exact zMh _ _ hk,(h.st.zEl t _ x ht (yJ hk)).1⟩
theorem zEg (w:World)(S:StN)(s:Nr)(R:DyN)(i t:Nat)(x:Nt)(ht:s.xH[t]?=some x)(h:NB w S s R)(hi:i<S.l.length) :
  Calls Tryz.prog 151 #[.pointer (some ⟨S.a,0,none⟩),.int .i64 (i:Int),.int .i64 (t:Int)] w (jR w S R (YR (tN S.l) i (t:Int) s) vU):=by
 have AO:=yG h;have AF:=yG h.rds;have AC:=yG hi;have AJ:Hid ((yZ (tN S.l) i).text.length≤maxLen):=yG (h.st.tree.txt i);obtain⟨cb,co,mb,AK,AL,AG,hmf⟩:=h.zUr t x ht;have AH:=yG hmf;have AM:Hid (zSx s (t:Int).toNat (yZ (tN S.l) i).text=x.zBW.findIdx? fun c=>c==(yZ (tN S.l) i).text):=yG (by unfold zSx; rw[zI,ht]; rfl);have AN:=(List.getElem?_eq_some_iff.1 ht).1
 have q1:(t:Int)<(s.xH.length:Int):=by omega
 have x2:=h.x2;rw[AK] at x2;have al:=h.rd.lt;have xm:=AG;have AI:=AL;clear h hi ht hmf AG AL AK AN
 cases hk:(x.zBW.findIdx? fun c=>c==(yZ (tN S.l) i).text) with
 | none=>
  have HK:=yG hk;have HR:Hid (YR (tN S.l) i (t:Int) s=.err i 70):=yG (by unfold YR; rw[AM.out,hk]);clear hk
  go_enter Tryz.func151,Tryz.ntmps151
  go_upto_region 0 with fail
  apply ZP (by kernel_rfl) (by kernel_rfl) (by kernel_rfl);apply sQ (.pointer (some ⟨S.a,0,none⟩));apply sQ (.pointer (some ⟨S.a,0,none⟩));apply sQ (.pointer (some ⟨S.a,2,none⟩));apply sL x2 al (.slice (some ⟨cb,co,none⟩) s.xH.length S.cc);apply sQ (.int .i64 (t:Int));apply sP q1 (.pointer (some ⟨cb,co+t,none⟩));apply sL xm AI (.map (some mb));apply sQ (.pointer (some ⟨S.a,0,none⟩));apply sQ (.int .i64 (i:Int));apply xB (.agg (vT S.l i)) rfl rfl rfl
  ·intro w' AB hH;clear hH;simp[xA,go_sem];refine(vW w' S.a S.p S.A S.ct S.l i (AF.out.ext AB) AC.out).mono ?_;rintro e w2 ⟨rfl,hx⟩;exact⟨_,rfl,rfl,hx⟩
  apply sP XZ (.string (xG (yZ (tN S.l) i).text));apply xB (.tuple #[.int .i64 0,.bool false]) rfl rfl rfl
  ·intro w' AB hH;clear hH;have AA:=(AH.out.ext AB).get (t:=110) (e:=3) (z:=.int .i64 0) Tryz.underlying9 Tryz.underlying110 (by rfl) (yZ (tN S.l) i).text AJ.out;rw[HK.out] at AA;simp only[zBn,Option.map_some,Option.map_none,Option.getD_some,Option.getD_none,Option.isSome_some,Option.isSome_none] at AA;simp[xA,go_sem,AA];exact Ext.refl _
  apply sQ (.tuple #[.int .i64 0,.bool false]);apply sQ (.int .i64 0);apply sQ (.bool false);apply sQ (.int .i64 0);apply sQ (.bool false);apply xR;intro w1 AE hH;(try simp only[Act.put,yD,yF,yE]);have HX:=yG AE;clear AE hH x2 xm al
  go_wp2_with fail
  refine(JW w1 S.a S.p S.A S.ct S.l i 70 (AF.out.ext HX.out) AC.out).mono ?_;rintro e w2 ⟨rfl,rfl⟩;exact xJ (P:=Tryz.prog) (fn:=Tryz.f151) rfl (jR.err HR.out AC.out HX.out)
 | some c=>
  have HK:=yG hk;have HR:Hid (YR (tN S.l) i (t:Int) s=.ok (s.set i c)):=yG (by unfold YR; rw[AM.out,hk]);clear hk
  go_enter Tryz.func151,Tryz.ntmps151
  go_upto_region 0 with fail
  apply ZP (by kernel_rfl) (by kernel_rfl) (by kernel_rfl);apply sQ (.pointer (some ⟨S.a,0,none⟩));apply sQ (.pointer (some ⟨S.a,0,none⟩));apply sQ (.pointer (some ⟨S.a,2,none⟩));apply sL x2 al (.slice (some ⟨cb,co,none⟩) s.xH.length S.cc);apply sQ (.int .i64 (t:Int));apply sP q1 (.pointer (some ⟨cb,co+t,none⟩));apply sL xm AI (.map (some mb));apply sQ (.pointer (some ⟨S.a,0,none⟩));apply sQ (.int .i64 (i:Int));apply xB (.agg (vT S.l i)) rfl rfl rfl
  ·intro w' AB hH;clear hH;simp[xA,go_sem];refine(vW w' S.a S.p S.A S.ct S.l i (AF.out.ext AB) AC.out).mono ?_;rintro e w2 ⟨rfl,hx⟩;exact⟨_,rfl,rfl,hx⟩
  apply sP XZ (.string (xG (yZ (tN S.l) i).text));apply xB (.tuple #[.int .i64 (c:Int),.bool true]) rfl rfl rfl
  ·intro w' AB hH;clear hH;have AA:=(AH.out.ext AB).get (t:=110) (e:=3) (z:=.int .i64 0) Tryz.underlying9 Tryz.underlying110 (by rfl) (yZ (tN S.l) i).text AJ.out;rw[HK.out] at AA;simp only[zBn,Option.map_some,Option.map_none,Option.getD_some,Option.getD_none,Option.isSome_some,Option.isSome_none] at AA;simp[xA,go_sem,AA];exact Ext.refl _
  apply sQ (.tuple #[.int .i64 (c:Int),.bool true]);apply sQ (.int .i64 (c:Int));apply sQ (.bool true);apply sQ (.int .i64 (c:Int));apply sQ (.bool true);apply xR;intro w1 AE hH;(try simp only[Act.put,yD,yF,yE]);have HX:=yG AE;clear AE hH x2 xm al q1
  go_wp2_with fail
  refine(XC w1 (.pointer (some ⟨S.a,0,none⟩)) (i:Int) 70).mono ?_;rintro e w2 ⟨rfl,rfl⟩;have AD:=yG (AO.out.ext HX.out);have r0:=AD.out.rds.r0;have p3:=AD.out.p3;have co:=AD.out.zBP i AC.out;have cz:=AD.out.ofz i
  have q0:(i:Int)<(S.l.length:Int):=by have:=AC.out; omega
  have AP:=yG (AD.out.zRz HX.out i (c:Int))
  go_wp2_with fail
  go_end0;rw[HR.out];exact⟨rfl,AP.out⟩
structure PV (w:World)(A:Option Addr)(l:List Tx)(Ao:Option Addr)(of:List Int):Prop where
 row:Cells w A (tcs l)
 kids:∀x ∈ l,Cells w x.2.2.1 (ints x.1.kids)
 zU8:Cells w Ao (ofc of)
 len:of.length=l.length
theorem PV.ext {w w':World}{A:Option Addr}{l:List Tx}{Ao:Option Addr}{of:List Int}(h:PV w A l Ao of)(hx:Ext w w'):PV w' A l Ao of:=⟨h.row.ext hx,fun x AA=>(h.kids x AA).ext hx,h.zU8.ext hx,h.len⟩
theorem PV.at_ {w:World}{A:Option Addr}{l:List Tx}{Ao:Option Addr}{of:List Int}(h:PV w A l Ao of)(k:Nat)(hk:k<l.length) :
  ∃b AA,A=some ⟨b,AA,none⟩∧b<w.heap.size∧∀j,j<5→w.cell? ⟨b,AA+k*5+j,none⟩=(vT l k).toList[j]?:=by
 obtain⟨b,AA,hA,hb,AB⟩:=h.row.at_ (by rw[zE0]; omega);refine⟨b,AA,hA,hb,fun j hj=>?_⟩;rw[Nat.add_assoc,AB (k*5+j) (by rw[zE0]; omega),zN5 l k hk j hj,zIA hk]
theorem PV.kid {w:World}{A:Option Addr}{l:List Tx}{Ao:Option Addr}{of:List Int}(h:PV w A l Ao of)(i:Nat)(hi:i<l.length):Cells w (hdN l i).1 (ints (yZ (tN l) i).kids):=by
 have:=h.kids l[i] (yO hi)
 rw[zBw hi];unfold hdN;rw[yJ hi];exact this
def SOk (l:List Tx)(of:List Int)(tA Ao:Option Addr)(ct f k:Nat):Prop:=∀w,PV w tA l Ao of→Calls Tryz.prog 30 #[.agg #[.slice tA l.length ct],.int .i64 (k:Int)] w fun e w'=>e=.returned (.agg (zAN (tN l) f k).val)∧Ext w w'
def upB (t:List Nd)(f j k:Nat):B3:=((yZ t j).kids.take k).foldl (fun b x=>JQ xW b (zAN t f x)) ⟨0,0,0⟩
theorem zSF {t:List Nd}{f j k:Nat}(hk:k<(yZ t j).kids.length):upB t f j (k+1)=JQ xW (upB t f j k) (zAN t f (yZ t j).kids[k]):=by
 unfold upB;rw[zZ hk,yA]
 rfl
theorem zTh (t:List Nd)(f j:Nat):upB t f j (yZ t j).kids.length=zEP t f j:=by
 unfold upB zEP;rw[List.take_length]
theorem zUj (t:List Nd)(f j k:Nat):(upB t f j k).ok:=zLO _ _ zCg
theorem zDy (args:Array Value)(w:World):(callFunc 17 args).run Tryz.prog w=.ok (.enter 17 args) w:=by simp[go_sem]
theorem zRw (l:List Tx)(of:List Int)(tA Ao:Option Addr)(ct f i:Nat)(hi:i<l.length)(hkl:(yZ (tN l) i).kids.length≤9000)(hS:∀k ∈ (yZ (tN l) i).kids,SOk l of tA Ao ct f k)(w:World)(hv:PV w tA l Ao of) :
  Calls Tryz.prog 63 #[.agg #[.slice tA l.length ct],.int .i64 (i:Int)] w fun e w'=>e=.returned (.agg (zEP (tN l) f i).val)∧Ext w w':=by
 have Aa:=yG hS;clear hS;obtain⟨b,AC,rfl,hb,hc⟩:=hv.at_ i hi;have AV:=yG (hv.kid i hi);have HV:=yG hv;obtain⟨AA,AF⟩:∃AA,Hid ((yZ (tN l) i).kids=AA):=⟨_,yG rfl⟩;have HC:Hid (w.cell? ⟨b,AC+i*5+4,none⟩=some (.slice (hdN l i).1 AA.length (hdN l i).2)∧b<w.heap.size):=yG ⟨by rw[←AF.out]; exact hc 4 (by decide),hb⟩;have AX:Hid (upB (tN l) f i AA.length=zEP (tN l) f i):=yG (by rw[←AF.out]; exact zTh _ _ _);rw[AF.out] at AV Aa hkl;clear hv hc hb;generalize (hdN l i).1=kA at *;generalize (hdN l i).2=kc at *;obtain⟨W,HW⟩:∃W,Hid ((w.alloc (.cells #[.slice (some ⟨b,AC,none⟩) l.length ct] 27)).alloc (.cells #[.int .i64 0,.int .i64 0,.int .i64 0] 48)=W):=⟨_,yG rfl⟩;have HX:Hid (Ext w W):=yG (by rw[←HW.out]; exact(Ext.alloc _ _).trans (Ext.alloc _ _));have HT:Hid (Blk W w.heap.size 27 #[.slice (some ⟨b,AC,none⟩) l.length ct]):=yG (by rw[←HW.out]; exact(Blk.new _ _ _).alloc _)
 have HR:Hid (Blk W (w.heap.size+1) 48 (upB (tN l) f i 0).val):=yG (by
  have h:=Blk.new (w.alloc (.cells #[.slice (some ⟨b,AC,none⟩) l.length ct] 27)) 48 #[.int .i64 0,.int .i64 0,.int .i64 0];rw[yT] at h;rw[←HW.out]
  exact h)
 have q0:(i:Int)<(l.length:Int):=by omega
 go_enter Tryz.func63,Tryz.ntmps63
 go_upto_region 1 with fail
 rw[HW.out];obtain⟨gp,AJ⟩:∃g,Hid (w.heap.size=g):=⟨_,yG rfl⟩;obtain⟨gr,AN⟩:∃g,Hid (w.heap.size+1=g):=⟨_,yG rfl⟩;have AT:Hid (w.heap.size≤gr∧gp≠gr):=yG (by rw[←AN.out,←AJ.out]; omega);rw[AN.out] at HR;rw[AJ.out] at HT
 try rw[AN.out]
 try rw[AJ.out]
 have p0:W.cell? ⟨gp,0,none⟩=some (.slice (some ⟨b,AC,none⟩) l.length ct):=HT.out.cell 0;have p1:W.cell? ⟨b,AC+i*5+4,none⟩=some (.slice kA AA.length kc):=(HX.out.cell (p:=⟨b,_,none⟩) HC.out.2).trans HC.out.1;clear HW AJ AN
 go_wp2_with fail
 clear p0 p1 q0
 go_loopw [6,14] (fun _ i_ wr=>∃k:Nat,k≤AA.length∧i_=.int .i64 k∧Hid (Blk wr gr 48 (upB (tN l) f i k).val)∧Hid (Blk wr gp 27 #[.slice (some ⟨b,AC,none⟩) l.length ct])∧Hid (Ext w wr)) (fun _ i_ _=>AA.length-(intOf i_).toNat)
 case atStart=>exact⟨0,zW _,rfl,HR,HT,HX⟩
 case round=>
  obtain⟨k,hk,rfl,AB,AM,AK⟩:=hrel;obtain⟨wa,rfl⟩:∃wa:World,wa=wr:=⟨_,rfl⟩;clear HR HT HX
  by_cases AE:k<AA.length
  ·obtain⟨kb,ko,rfl,Ah,AW⟩:=(AV.out.ext AK.out).at_ (by rw[vK]; omega);obtain⟨x,AS⟩:∃x,Hid (AA[k]=x):=⟨_,yG rfl⟩
   have k0:wa.cell? ⟨kb,ko+k,none⟩=some (.int .i64 (x:Int)):=by
    rw[AW k (by rw[vK]; exact AE),←AS.out];simp[ints,AE]
   have q0:(k:Int)<(AA.length:Int):=by omega
   have Ae:Hid (x ∈ AA):=yG (by rw[←AS.out]; exact yO AE)
   have AQ:Hid (upB (tN l) f i (k+1)=JQ xW (upB (tN l) f i k) (zAN (tN l) f x)):=yG (by
    have h:=zSF (t:=tN l) (f:=f) (j:=i) (k:=k) (by rw[AF.out]; exact AE);rw[h]
    congr 2
    have:(yZ (tN l) i).kids[k]?=AA[k]?:=by rw[AF.out]
    rw[yJ (by rw[AF.out]; exact AE),yJ AE,AS.out] at this
    injection this)
   have AU:=yG (zUj (tN l) f i k);have AZ:=yG (zMd (tN l) f x);clear AW Ah
   go_upto_region 4 with fail
   have AR:Hid (∀w',Ext wa w'→Calls Tryz.prog 30 #[.agg #[.slice (some ⟨b,AC,none⟩) l.length ct],.int .i64 (x:Int)] w' fun e w2=>e=.returned (.agg (zAN (tN l) f x).val)∧Ext w' w2):=yG fun w' AD=>Aa.out x Ae.out w' (HV.out.ext (AK.out.trans AD));obtain⟨vb,AO⟩:∃v,Hid (upB (tN l) f i k=v):=⟨_,yG rfl⟩;obtain⟨vc,Ag⟩:∃v,Hid (zAN (tN l) f x=v):=⟨_,yG rfl⟩;rw[AO.out] at AB AQ AU;rw[Ag.out] at AR AQ AZ;obtain⟨bl,bu,bs⟩:=vb;obtain⟨cl,cu,cs⟩:=vc;unfold B3.val at AB AR;have r0:wa.cell? ⟨gr,0,none⟩=some (.int .i64 bl):=AB.out.cell 0;have r1:wa.cell? ⟨gr,1,none⟩=some (.int .i64 bu):=AB.out.cell 1;have r2:wa.cell? ⟨gr,2,none⟩=some (.int .i64 bs):=AB.out.cell 2;have p0:wa.cell? ⟨gp,0,none⟩=some (.slice (some ⟨b,AC,none⟩) l.length ct):=AM.out.cell 0;have AI:=AB.out.lt;have AY:=AM.out.lt;clear k0 q0;apply xN 5 (by kernel_rfl) (by kernel_rfl) (by kernel_rfl);apply xB (.agg #[.int .i64 bl,.int .i64 bu,.int .i64 bs]) rfl rfl rfl
   ·intro w' AD hH;clear hH;have z0:=(AD.cell (p:=⟨gr,0,none⟩) AI).trans r0;have z1:=(AD.cell (p:=⟨gr,0+1,none⟩) AI).trans r1;have z2:=(AD.cell (p:=⟨gr,0+2,none⟩) AI).trans r2;simp[xA,go_sem,z0,z1,z2];exact Ext.refl _
   apply sL p0 AY (.agg #[.slice (some ⟨b,AC,none⟩) l.length ct]);apply sQ (.int .i64 (x:Int));apply xB (.agg #[.int .i64 cl,.int .i64 cu,.int .i64 cs]) rfl rfl rfl
   ·intro w' AD hH;clear hH;simp[xA,go_sem];refine(AR.out w' AD).mono ?_;rintro e w2 ⟨rfl,AP⟩;exact⟨_,rfl,rfl,AP⟩
   apply xB (.agg #[.int .i64 (xW bl cl),.int .i64 (xW bu cu),.int .i64 (xW bs cs)]) rfl rfl rfl
   ·intro w' AD hH;clear hH;simp[xA,go_sem];refine(zCj 17 xW zDy JE ⟨bl,bu,bs⟩ ⟨cl,cu,cs⟩ AU.out AZ.out w').mono ?_;rintro e w2 ⟨rfl,AP⟩;exact⟨_,rfl,rfl,AP⟩
   apply xR;intro w2 AL hH;clear hH r0 r1 r2 p0 AI AY;have Ai:Hid (Ext w w2):=yG (AK.out.trans AL);have Aj:=yG (AB.out.ext AL);have Ad:=yG (AM.out.ext AL);clear AL AB AM;refine(show wpList Tryz.prog _ _ [_] _ _ from ?_)
   try simp only[Act.put,yD,yF,yE]
   refine xQ rfl 48 (.tmp 4) (.tmp 22) rfl gr #[.int .i64 (xW bl cl),.int .i64 (xW bu cu),.int .i64 (xW bs cs)] rfl rfl 48 _ Aj.out (by kernel_rfl) rfl rfl ?_;intro w3 AG AH;have Af:Hid (Blk w3 gr 48 (upB (tN l) f i (k+1)).val):=yG (by rw[AQ.out]; exact AH);have Ab:=yG (AG.blk Ad.out AT.out.2);have Ac:=yG (AG.ext Ai.out AT.out.1);clear AG AH
   go_wp2_with fail
   go_roundw
   case rel=>exact⟨k+1,by omega,by go_num,Af,Ab,Ac⟩
   case measure=>simp[intOf]; omega
  ·obtain rfl:k=AA.length:=by omega
   have d0:decide ((AA.length:Int)<(AA.length:Int))=false:=by simp
   obtain⟨vb,AO⟩:∃v,Hid (upB (tN l) f i AA.length=v):=⟨_,yG rfl⟩;rw[AO.out] at AB AX;obtain⟨bl,bu,bs⟩:=vb;unfold B3.val at AB;have r0:wa.cell? ⟨gr,0,none⟩=some (.int .i64 bl):=AB.out.cell 0;have r1:wa.cell? ⟨gr,1,none⟩=some (.int .i64 bu):=AB.out.cell 1;have r2:wa.cell? ⟨gr,2,none⟩=some (.int .i64 bs):=AB.out.cell 2
   go_wp2_with (refine xQ rfl 48 (.tmp 4) (.tmp 24) rfl gr #[.int .i64 bl,.int .i64 bu,.int .i64 bs] rfl rfl 48 _ AB.out (by kernel_rfl) rfl rfl ?_; intro w3 AG AH)
   refine JH gr 48 _ _ rfl rfl rfl AH Tryz.underlying48 rfl (by kernel_rfl) ?_;exact⟨by rw[←AX.out]; rfl,AG.ext AK.out AT.out.1⟩
end Go.Proofs.YtbadjmmjbpeocaaGreat
