/- The law on regions that draw their order, where a call may panic: what it leaves then is told by X. (and what follows of it). The conditions stand at each lemma. -/
import Derived.Test.YtioffpjajhalaaaGreatDoorLaa
import Derived.Test.YtioffpjajhalaaaGreatDoorLao
import Derived.Deep.RegionHeld3
set_option linter.unusedVariables false
set_option linter.unusedSimpArgs false
set_option maxRecDepth 100000
set_option maxHeartbeats 16000000
namespace Go.Proofs.YtioffpjajhalaaaGreatDoor
open Go Go.RowKit
def jB (X:List PanicEntry→World→Prop)(P:Program)(ρ:Operand→Value)(o:Oper)(w:World)(F:Value→World→Prop):Prop:=
 match (execOp ρ o).run P w with
 | .ok (.value u) w'=>F u w'
 | .ok .skip w'=>F undef w'
 | .ok (.enter f args) w'=>Calls P f args w' fun e AA=>(∃u,e=.returned u∧F u AA)∨∃c,e=.panicked c∧X c AA
 | _=>False
theorem jB.mono {X:List PanicEntry→World→Prop}{P:Program}{ρ:Operand→Value}{o:Oper}{w:World}{F G:Value→World→Prop}(h:jB X P ρ o w F)(hFG:∀v w',F v w'→G v w'):jB X P ρ o w G:=by
 unfold jB at *;generalize (execOp ρ o).run P w=r at *
 cases r with
 | ok n w'=>
  cases n with
  | value u=>exact hFG _ _ h
  | skip=>exact hFG _ _ h
  | enter f args=>exact Calls.mono h fun e AA hh=>hh.imp (fun ⟨u,he,hf⟩=>⟨u,he,hFG _ _ hf⟩) id
  | _=>exact h
 | halt x w'=>exact h
theorem zHW {X:List PanicEntry→World→Prop}{P:Program}{o:Oper}{a:Act}{w:World}{F:Value→World→Prop}{K:Act→World→Prop}{Q:Exit→Act→World→Prop}
  (h:jB X P a.eval o w F) (hk:∀v w',F v w'→K (a.put o.dst v) w') (hX:∀c w',X c w'→Q (.panic c) a w'):o.wp P a w K Q:=by
 unfold jB at h;unfold Oper.wp;generalize (execOp a.eval o).run P w=r at *
 cases r with
 | ok n w'=>
  cases n with
  | value u=>exact hk _ _ h
  | skip=>exact hk _ _ h
  | enter f args=>exact Calls.mono h fun e AA hh=>by rcases hh with ⟨u,he,hf⟩ | ⟨c,he,hx⟩ <;> subst he <;> first | exact hk _ _ hf | exact hX _ _ hx
  | _=>exact h.elim
 | halt x w'=>exact h.elim
section
variable (X:List PanicEntry→World→Prop) (P:Program) (ops:Array Oper) (R:World→World→Prop) (w0:World) (Q:Act→World→Prop)
def zIK (o:Oper)(a:Act)(H:List (Option Tmp × (World→Prop)))(F:Value→World→Prop):Prop:=
 ∀w,R w0 w→(∀p ∈ H,(∃t,p.1=some t∧t ∈ o.looksAt ops)→p.2 w) →
  if Region.wanted o (yielded ops a.tmps)=true then jB X P a.eval o w (fun v w'=>F v w'∧R w w') else F undef w
def zAs:List Oper→List Take→Act→List (Option Tmp × (World→Prop))→Prop
 | [],_,a,H=>∀w,R w0 w→(∀p ∈ H,p.2 w)→Q a w
 | o::l,.det v0::ks,a,H=>zIK X P ops R w0 o a H (fun v _=>v=v0)∧zAs l ks (a.put o.dst v0) H
 | o::l,.fact F::ks,a,H=>(∀v w w',F v w→R w w'→F v w')∧zIK X P ops R w0 o a H F∧∀v,zAs l ks (a.put o.dst v) ((o.dst,F v)::H)
 | _::_,[],_,_=>False
end
section
variable {X:List PanicEntry→World→Prop} {P:Program} {ops:Array Oper} {R:World→World→Prop} {w0:World} {Q:Act→World→Prop}
theorem zH9 {a:Act}{H:List (Option Tmp × (World→Prop))}(h:∀w,R w0 w→(∀p ∈ H,p.2 w)→Q a w):zAs X P ops R w0 Q [] [] a H:=h
theorem zO2 {o:Oper}{l:List Oper}{ks:List Take}{a:Act}{H:List (Option Tmp × (World→Prop))}(v0:Value)
  (h:zIK X P ops R w0 o a H (fun v _=>v=v0)) (hk:zAs X P ops R w0 Q l ks (a.put o.dst v0) H):zAs X P ops R w0 Q (o::l) (.det v0::ks) a H:=⟨h,hk⟩
theorem zLV {o:Oper}{l:List Oper}{ks:List Take}{a:Act}{H:List (Option Tmp × (World→Prop))}(F:Value→World→Prop)
  (hs:∀v w w',F v w→R w w'→F v w') (h:zIK X P ops R w0 o a H F) (hk:∀v,zAs X P ops R w0 Q l ks (a.put o.dst v) ((o.dst,F v)::H)):zAs X P ops R w0 Q (o::l) (.fact F::ks) a H:=⟨hs,h,hk⟩
theorem zDD {ks:List Take}{a0:Act}(vs:Nat→Value):∀(l:List Oper) (k:Nat),(∀j,j<l.length→l[j]?=ops[k+j]?)→zAs X P ops R w0 Q l (ks.drop k) (JO ops ks vs a0 k) (zBi ops ks vs k) →
  (∀i o,k≤i→i<k+l.length→ops[i]?=some o→(∀v w w',(ks.getD i (.det undef)).says v w→R w w'→(ks.getD i (.det undef)).says v w')∧zIK X P ops R w0 o (JO ops ks vs a0 i) (zBi ops ks vs i) (ks.getD i (.det undef)).says) ∧
  ∀w,R w0 w→(∀p ∈ zBi ops ks vs (k+l.length),p.2 w)→Q (JO ops ks vs a0 (k+l.length)) w
 | [],k,hl,h=>by
  refine⟨fun i o hi AC ho=>?_,by simpa [zAs] using h⟩
  simp at AC
  omega
 | o::l,k,hl,h=>by
  have h0:ops[k]?=some o:=by simpa using (hl 0 (by simp)).symm
  have AD:∀j,j<l.length→l[j]?=ops[k+1+j]?:=fun j hj=>by
   have:=hl (j+1) (by simpa using hj)
   simpa [Nat.add_assoc,Nat.add_comm 1 j] using this
  cases hd:ks.drop k with
  | nil=>rw[hd] at h; simp[zAs] at h
  | cons x ks'=>
   rw[hd] at h
   have hx:ks[k]?=some x:=by
    have:=congrArg (fun l=>l[0]?) hd
    simpa using this
   have hg:ks.getD k (.det undef)=x:=by simp[List.getD,hx]
   have AE:ks.drop (k+1)=ks':=by
    rw[←List.drop_drop,hd]; rfl
   have AA:k+(o::l).length=k+1+l.length:=by simp; omega
   cases x with
   | det v0=>
    simp only[zAs] at h
    have hA:JO ops ks vs a0 (k+1)=(JO ops ks vs a0 k).put o.dst v0:=by
     show(JO ops ks vs a0 k).put ((ops[k]?).bind (·.dst)) ((ks.getD k (.det undef)).val (vs k))=_
     rw[hg,h0]; rfl
    have hH:zBi ops ks vs (k+1)=zBi ops ks vs k:=by
     show(match ks.getD k (.det undef) with | .det _=>_ | .fact F=>_)=_
     rw[hg]
    obtain⟨r1,r2⟩:=zDD vs l (k+1) AD (by rw[AE,hA,hH]; exact h.2);rw[AA];refine⟨fun i oi hi AC ho=>?_,r2⟩
    by_cases AB:i=k
    ·subst AB;rw[h0] at ho;obtain rfl:=Option.some.inj ho;rw[hg];exact⟨fun v w w' e _=>e,h.1⟩
    ·exact r1 i oi (by omega) (by omega) ho
   | fact F=>
    simp only[zAs] at h
    have hA:JO ops ks vs a0 (k+1)=(JO ops ks vs a0 k).put o.dst (vs k):=by
     show(JO ops ks vs a0 k).put ((ops[k]?).bind (·.dst)) ((ks.getD k (.det undef)).val (vs k))=_
     rw[hg,h0]; rfl
    have hH:zBi ops ks vs (k+1)=(o.dst,F (vs k))::zBi ops ks vs k:=by
     show(match ks.getD k (.det undef) with | .det _=>_ | .fact F=>_)=_
     rw[hg,h0]; rfl
    obtain⟨r1,r2⟩:=zDD vs l (k+1) AD (by rw[AE,hA,hH]; exact h.2.2 (vs k));rw[AA];refine⟨fun i oi hi AC ho=>?_,r2⟩
    by_cases AB:i=k
    ·subst AB;rw[h0] at ho;obtain rfl:=Option.some.inj ho;rw[hg];exact⟨h.1,h.2.1⟩
    ·exact r1 i oi (by omega) (by omega) ho
theorem zDs (o:Oper)(hs:∀cs b,o.op≠.select cs b)(a a':Act)(h:∀t ∈ o.looksAt ops,a.tmps[t]?=a'.tmps[t]?){w:World}{F:Value→World→Prop}:jB X P a.eval o w F=jB X P a'.eval o w F:=by
 unfold jB;rw[zE5 o hs a a' h]
theorem zJl {m:Nat}(hR:∀a b c,R a b→R b c→R a c)(hB:VC ops m=true)(hT:zCF ops m=true){ks:List Take}{a0:Act}{Q':Exit→Act→World→Prop}(hX:∀a,a.defers=a0.defers→∀c w,X c w→Q' (.panic c) a w)
  (hst:∀i o,i<m→ops[i]?=some o→∀v w w',(ks.getD i (.det undef)).says v w→R w w'→(ks.getD i (.det undef)).says v w')
  (how:∀vs i o,i<m→ops[i]?=some o→zIK X P ops R w0 o (JO ops ks vs a0 i) (zBi ops ks vs i) (ks.getD i (.det undef)).says)
  (hQ:∀vs w,R w0 w→(∀p ∈ zBi ops ks vs m,p.2 w)→wpList P ops Q' (ops.toList.drop m) (JO ops ks vs a0 m) w) :
  ∀(n:Nat) (listed:Array Bool) (U:List Nat) (a:Act) (w:World) (vs:Nat→Value),listed.size=ops.size→U.length=n→U.Nodup→(∀i,i ∈ U↔i<m∧listed.getD i true=false) →
   zSd P ops m R w0 ks a0 listed a w vs→wpAny P .any ops Q' (n+(ops.size-m)) listed a w:=by
 have Ae:=zDh hB
 have AE:∀(listed:Array Bool) (j:Nat),listed.size=ops.size→j<ops.size→listed.getD j false=listed.getD j true:=fun listed j AH hj=>by
  have:j<listed.size:=by omega
  simp[this]
 intro n
 induction n with
 | zero=>
  intro listed U a w vs AH AF AQ hU AA;obtain rfl:=List.length_eq_zero_iff.1 AF
  have AO:∀i,i<m→listed.getD i true=true:=fun i hi=>by
   cases hf:listed.getD i true with
   | true=>rfl
   | false=>have:=(hU i).2 ⟨hi,hf⟩; cases this
  have ea:a=JO ops ks vs a0 m:=by
   refine zNx (fun t=>?_) (by rw[AA.defers,zCI])
   by_cases AJ:∃(i:Nat) (o:Oper),i<m∧ops[i]?=some o∧o.dst=some t
   ·obtain⟨i,o,AB,hi,hd⟩:=AJ;have hl:=AO i AB;rw[AA.done i o t AB hi hd hl,zB6 hB (j:=i) (by rw[hi]; exact hd) AB (zU _),Take.zIQ (AA.facts i AB hl)]
   ·rw[AA.other t fun i o AB hi hd=>absurd ⟨i,o,AB,hi,hd⟩ AJ,VY];intro j hj e;obtain⟨o,ho,hd⟩:=Option.bind_eq_some_iff.1 e;exact AJ ⟨j,o,hj,ho,hd⟩
  rw[Nat.zero_add];refine zG0 hT _ m listed a w (zU _) (by omega) AH (fun j hj=>?_) AA.closed ?_
  ·by_cases AD:j<m
   ·rw[AO j AD]; simp[AD]
   ·rw[AA.fresh j (by omega) hj]; simp[AD]
  ·rw[ea];refine hQ vs w AA.world fun p hp=>?_;obtain⟨j,hj,_,hs⟩:=zCe hp;exact hs w (AA.facts j hj (AO j hj))
 | succ n ih=>
  intro listed U a w vs AH AF AQ hU AA;rw[show n+1+(ops.size-m)=n+(ops.size-m)+1 from by omega]
  have AP:Region.ready .any ops listed≠[]:=fun hr=>by
   have AO:∀n i,i<n→i<m→listed.getD i true=true:=by
    intro n
    induction n with
    | zero=>intro i hi; omega
    | succ n ih'=>
     intro i hi AS
     cases hf:listed.getD i true with
     | true=>rfl
     | false=>
      exfalso
      have AX:ops[i]?=some ops[i]:=Array.getElem?_eq_getElem (by omega)
      have hm:i ∈ Region.ready .any ops listed:=by
       rw[mem_ready];refine⟨hf,_,AX,fun e he hb=>?_⟩;have Aa:=(zCx hB AS AX).2 e he hb;rw[AE listed e.on AH (by omega)];exact ih' e.on (by omega) (by omega)
      rw[hr] at hm
      cases hm
   cases U with
   | nil=>simp at AF
   | cons x xs=>
    have:=(hU x).1 List.mem_cons_self
    rw[AO (x+1) x (by omega) this.1] at this
    cases this.2
  refine⟨fun hr=>absurd hr AP,fun i hi=>?_⟩;obtain⟨h0,o,ho,AI⟩:=mem_ready.1 hi;have AS:i<ops.size:=(Array.getElem?_eq_some_iff.1 ho).1
  have AB:i<m:=by
   rcases Nat.lt_or_ge i m with h | h
   ·exact h
   ·exfalso
    cases U with
    | nil=>simp at AF
    | cons x xs=>
     have hx:=(hU x).1 List.mem_cons_self
     have:=zCL AA.closed 8 i x o ho AI ((zBv hT ho h).2 x (by omega))
     rw[AE listed x AH (by omega),hx.2] at this
     cases this
  have AW:i<listed.size:=by omega
  have AL:(listed.setIfInBounds i true).getD i true=true:=by simp[AW]
  have AG:∀j,j≠i→(listed.setIfInBounds i true).getD j true=listed.getD j true:=fun j hj=>getD_set_ne true (Ne.symm hj)
  have AM:∀t ∈ o.looksAt ops,a.tmps[t]?=(JO ops ks vs a0 i).tmps[t]?:=fun t ht=>by
   by_cases AJ:∃(j:Nat) (p:Oper),j<m∧ops[j]?=some p∧p.dst=some t
   ·obtain⟨j,p,AD,hj,hd⟩:=AJ
    rcases(ZA hB AB AD ho hj hd).2 ht with ⟨AC,e,he,heq,hb⟩ | ⟨hij,e,he,heq,hb⟩
    ·have AT:listed.getD j true=true:=by
      have h1:=AI e he hb;rw[heq,AE listed j AH (by omega)] at h1;exact h1
     rw[AA.done j p t AD hj hd AT,zB6 hB (j:=j) (by rw[hj]; exact hd) AC (by omega),Take.zIQ (AA.facts j AD AT)]
    ·have Ad:listed.getD j true=false:=by
      cases hf:listed.getD j true with
      | false=>rfl
      | true=>
       have:=AA.closed j p hj (by rw[AE listed j AH (by omega)]; exact hf) e he hb
       rw[heq,AE listed i AH AS,h0] at this
       cases this
     rw[AA.other t fun k ok AN hk hdk=>by
       have:=(ZA hB AN AD hk hj hd).1 hdk
       subst this
       exact Ad,VY]
     intro k hk e';obtain⟨ok,AY,hdk⟩:=Option.bind_eq_some_iff.1 e'
     have:=(ZA hB (by omega) AD AY hj hd).1 hdk
     omega
   ·rw[AA.other t fun i o AB hi hd=>absurd ⟨i,o,AB,hi,hd⟩ AJ,VY];intro j hj e;obtain⟨o,ho,hd⟩:=Option.bind_eq_some_iff.1 e;exact AJ ⟨j,o,by omega,ho,hd⟩
  have go:∀v w',(ks.getD i (.det undef)).says v w'→R w w'∨w'=w→wpAny P .any ops Q' (n+(ops.size-m)) (listed.setIfInBounds i true) (a.put o.dst v) w':=by
   intro v w' hv AK
   have AR:∀j oj,j<m→ops[j]?=some oj→∀v,(ks.getD j (.det undef)).says v w→(ks.getD j (.det undef)).says v w':=fun j oj AD hj v hs=>by
    rcases AK with AK | rfl
    ·exact hst j oj AD hj v w w' hs AK
    ·exact hs
   refine ih (listed.setIfInBounds i true) (U.erase i) _ w' (fun j=>if j=i then v else vs j) (by simpa using AH) ?_ (AQ.erase i) (fun j=>?_) ?_
   ·rw[List.length_erase_of_mem ((hU i).2 ⟨AB,h0⟩),AF]; rfl
   ·rw[AQ.mem_erase_iff,hU j]
    by_cases AC:j=i
    ·subst AC; simp[AW]
    ·rw[AG j AC]; simp[AC]
   ·refine⟨?_,by rw[zCZ]; exact AA.defers,fun j hj hl=>?_,fun j p t AD hj hd hl=>?_,fun t ht=>?_,fun j p hj hl e he hb=>?_,fun j hj AZ=>?_⟩
    ·rcases AK with AK | rfl
     ·exact hR _ _ _ AA.world AK
     ·exact AA.world
    ·by_cases AC:j=i
     ·subst AC; simpa using hv
     ·rw[AG j AC] at hl;simp only[if_neg AC];exact AR j _ hj (Array.getElem?_eq_getElem (by omega)) _ (AA.facts j hj hl)
    ·by_cases AC:j=i
     ·subst AC;rw[ho] at hj;obtain rfl:=Option.some.inj hj
      rw[hd,zCO,AA.other t fun k ok AN hk hdk=>by
       have:=(ZA hB AN AB hk ho hd).1 hdk
       subst this
       exact h0]
      simp
     ·rw[AG j AC] at hl;rw[VZ _ _ _ (fun e=>AC ((ZA hB AB AD ho hj hd).1 e).symm),AA.done j p t AD hj hd hl];simp[AC]
    ·rw[VZ _ _ _ (fun e=>by
      have:=ht i o AB ho e
      rw[AL] at this
      cases this)]
     refine AA.other t fun k ok AN hk hdk=>?_
     have:=ht k ok AN hk hdk
     by_cases AU:k=i
     ·subst AU; exact h0
     ·rwa [AG k AU] at this
    ·by_cases AC:j=i
     ·subst AC;rw[ho] at hj;obtain rfl:=Option.some.inj hj;exact getD_set_true (AI e he hb)
     ·rw[getD_set_ne false (Ne.symm AC)] at hl;exact getD_set_true (AA.closed j p hj hl e he hb)
    ·rw[AG j (by omega)];exact AA.fresh j hj AZ
  have ow:=how vs i o AB ho w AA.world (fun p hp ⟨t,hpt,ht⟩=>by
   obtain⟨j,hj,AV,hs⟩:=zCe hp;rw[hpt] at AV;obtain⟨p',Ac,Ab⟩:=Option.bind_eq_some_iff.1 AV.symm
   rcases(ZA hB AB (by omega) ho Ac Ab).2 ht with ⟨_,e,he,heq,hb⟩ | ⟨hij,_⟩
   ·have h1:=AI e he hb;rw[heq,AE listed j AH (by omega)] at h1;exact hs w (AA.facts j (by omega) h1)
   ·omega)
  unfold wpOp;simp only[ho];rw[←zFh o a _ AM,←zDs o (zCx hB AB ho).1 a _ AM] at ow
  split
  ·rename_i hw;simp only[hw,if_true] at ow;exact .inl (zHW ow (fun v w' hv=>go v w' hv.1 (.inl hv.2)) (fun c w' hx=>hX a AA.defers c w' hx))
  ·rename_i hw;simp only[hw] at ow;exact go undef w ow (.inr rfl)
theorem zE3 {id:Nat}{Q':Exit→Act→World→Prop}{a:Act}{w:World}{l:List Oper}(m:Nat)(ks:List Take)(hm:P.follows .mixedOrders=true)(hB:VC l.toArray m=true)(hT:zCF l.toArray m=true)
  (hR:∀a b c,R a b→R b c→R a c) (h0:R w0 w.drew) (hX:∀a',a'.defers=a.defers→∀c w,X c w→Q' (.panic c) a' w)
  (h:zAs X P l.toArray R w0 (fun a' w'=>wpList P l.toArray Q' (l.drop m) a' w') (l.take m) ks a []):(Code.region id l.toArray true).wp P Q' a w:=by
 have AE:=zDh hB;simp only[List.size_toArray] at AE;refine wp_region_any hm ?_
 have sp:=fun vs=>zDD (X:=X) (P:=P) (ops:=l.toArray) (R:=R) (w0:=w0) (Q:=fun a' w'=>wpList P l.toArray Q' (l.drop m) a' w') (ks:=ks) (a0:=a) vs (l.take m) 0 (fun j hj=>by
  have AG:j<m:=by simp at hj; omega
  simp[List.getElem?_take,AG]) (by simpa [JO,zBi] using h)
 have AA:(l.take m).length=m:=by simp; omega
 rw[show l.toArray.size=m+(l.toArray.size-m) from by simp; omega];refine zJl (X:=X) (P:=P) (ops:=l.toArray) (R:=R) (w0:=w0) (ks:=ks) (a0:=a) (m:=m) hR hB hT hX ?_ ?_ ?_ m _ (List.range m) a _ (fun _=>undef) (by simp; omega) (by simp) List.nodup_range ?_ ?_
 ·exact fun i o AB hi=>((sp fun _=>undef).1 i o (zT _) (by omega) hi).1
 ·exact fun vs i o AB hi=>((sp vs).1 i o (zT _) (by omega) hi).2
 ·intro vs w' AC hp
  have:=(sp vs).2 w' AC (by rw[AA]; simpa using hp)
  rw[AA] at this
  simpa using this
 ·intro i;simp only[List.mem_range]
  constructor
  ·intro h
   have:i<m+(l.length-m):=by omega
   exact⟨h,by simp[this]⟩
  ·exact fun h=>h.1
 ·refine⟨h0,rfl,fun i hi hl=>?_,fun i o t AB hi hd hl=>?_,fun t _=>rfl,fun i o hi hl=>?_,fun i hi AF=>?_⟩
  ·have:i<m+(l.length-m):=by omega
   simp[this] at hl
  ·have:i<m+(l.length-m):=by omega
   simp[this] at hl
  ·have AD:i<l.length:=by simpa using (Array.getElem?_eq_some_iff.1 hi).1
   have:i<m+(l.length-m):=by omega
   simp[this] at hl
  ·have AD:i<l.length:=by simpa using AF
   have:i<m+(l.length-m):=by omega
   simp[this]
theorem ZJ {o:Oper}{l:List Oper}{ks:List Take}{a:Act}{H:List (Option Tmp × (World→Prop))}{d:Option Tmp}{L:List Tmp}(v0:Value)(hd:o.dst=d)(hg:o.guard=none)(hL:JW o=L)
  (h:∀w,R w0 w→(∀p ∈ H,(∃t,p.1=some t∧t ∈ L)→p.2 w)→jB X P a.eval o w (fun v w'=>v=v0∧R w w')) (hk:zAs X P ops R w0 Q l ks (a.put d v0) H):zAs X P ops R w0 Q (o::l) (.det v0::ks) a H:=by
 subst hd hL;refine zO2 v0 (fun w hw hH=>?_) hk
 have:Region.wanted o (yielded ops a.tmps)=true:=by unfold Region.wanted; rw[hg]
 rw[if_pos this];exact h w hw fun p hp ⟨t,ht,hm⟩=>hH p hp ⟨t,ht,List.mem_append_left _ hm⟩
theorem zAu {o:Oper}{l:List Oper}{ks:List Take}{a:Act}{H:List (Option Tmp × (World→Prop))}{d:Option Tmp}{L:List Tmp}(F:Value→World→Prop)(hs:∀v w w',F v w→R w w'→F v w')(hd:o.dst=d)(hg:o.guard=none)(hL:JW o=L)
  (h:∀w,R w0 w→(∀p ∈ H,(∃t,p.1=some t∧t ∈ L)→p.2 w)→jB X P a.eval o w (fun v w'=>F v w'∧R w w')) (hk:∀v,zAs X P ops R w0 Q l ks (a.put d v) ((d,F v)::H)):zAs X P ops R w0 Q (o::l) (.fact F::ks) a H:=by
 subst hd hL;refine zLV F hs (fun w hw hH=>?_) hk
 have:Region.wanted o (yielded ops a.tmps)=true:=by unfold Region.wanted; rw[hg]
 rw[if_pos this];exact h w hw fun p hp ⟨t,ht,hm⟩=>hH p hp ⟨t,ht,List.mem_append_left _ hm⟩
end
theorem PS.put {w:World}{p B:Nat}{s:Ps}{R:xW}(h:PS w p B s R)(i:Nat)(hi:i<R.nh.length)(j:Nat)(hj:j<5)(u:Value)(f:Nd→Nd)(hk:∀x,(f x).kids=x.kids)(hf:ZW (f R.nh[i].1,R.nh[i].2)=(ZW R.nh[i]).set j u){g:Nat}(hA:R.A=some ⟨g,0,none⟩) :
  OkP w p B R (s.on i f) (w.setCell ⟨g,i*5+j,none⟩ u):=by
 have AB:=h.ns.put (by decide) i hi j hj u f hk hf hA
 have AC:p≠g:=fun e=>by
  obtain⟨AE,hc⟩:=jX h.ns.row hA;rw[←e] at hc;exact Blk.differ h.blk hc (by decide) rfl
 have AF:=(XY h.ns.row hA).1;refine⟨{ R with nh:=R.nh.modify i fun x=>(f x.1,x.2) },⟨?_,fun k hk=>?_,h.zHF,h.zDq,?_,AB,h.pB,⟨h.xU.last,h.xU.deep⟩⟩,?_⟩
 ·have:=h.blk.far (p:=⟨g,i*5+j,none⟩) AC u
  show Blk _ p 75 #[.slice _ s.ts.length _,.slice _ (R.nh.modify i _).length _,.int .i64 (s.deep:Int)]
  rw[List.length_modify];exact this
 ·have AD:=h.zDq
  have AA:R.bt≠g:=by omega
  have e2:=World.cell?_of_block (w:=w) (w':=w.setCell ⟨g,i*5+j,none⟩ u) (a:=⟨R.bt,R.ot+k,none⟩) (zQ w ⟨g,i*5+j,none⟩ _ R.bt AA);exact e2.trans (h.zKC k hk)
 ·show s.nd.modify i f=_
  rw[zDE Prod.fst _ f (fun x=>rfl),←h.nodes]
 ·refine⟨rfl,rfl,rfl,by simp[World.setCell],fun b hb hM=>zQ w ⟨g,i*5+j,none⟩ _ b (fun e=>hM (.inr (.inl (by rw[e]; exact hA)))),fun b hb=>?_⟩
  rcases hb with hb | hb
  ·exact .inl (.inl hb)
  ·exact .inl (.inr (zPV i f b hb))
theorem PS.zGE {w:World}{p B:Nat}{s:Ps}{R:xW}(h:PS w p B s R){i:Nat}(hi:i<s.nd.length):∃g,∃AA:i<R.nh.length,R.A=some ⟨g,0,none⟩∧g<w.heap.size∧g≠p:=by
 have AB:=h.len
 have AA:i<R.nh.length:=by omega
 obtain⟨g,hA⟩:=h.zPI (by omega);refine⟨g,AA,hA,(XY h.ns.row hA).2,fun e=>?_⟩;obtain⟨AC,hc⟩:=jX h.ns.row hA;rw[e] at hc;exact Blk.differ h.blk hc (by decide) rfl
theorem PS.x1' {w:World}{p B:Nat}{s:Ps}{R:xW}(h:PS w p B s R){g:Nat}(hA:R.A=some ⟨g,0,none⟩):w.cell? ⟨p,1,none⟩=some (.slice (some ⟨g,0,none⟩) R.nh.length R.c):=by rw[←hA]; exact h.x1
theorem zFe {P:Program}{id:Nat}{Q':Exit→Act→World→Prop}{a:Act}{w:World}{l:List Oper}{ks:List Take}(X:List PanicEntry→World→Prop)(hm:P.follows .mixedOrders=true)(hB:VC l.toArray l.length=true)(hT:zCF l.toArray l.length=true)
  (hX:∀a',a'.defers=a.defers→∀c w,X c w→Q' (.panic c) a' w) (h:zAs X P l.toArray Ext w (fun a' w'=>Q' .normal a' w') l ks a []):(Code.region id l.toArray true).wp P Q' a w:=by
 refine zE3 (R:=Ext) l.length ks hm hB hT (fun _ _ _=>Ext.trans) (Below.drew (Below.refl _ _)) hX ?_;rw[List.take_length,List.drop_length];exact h
theorem zBM (w:World)(p B:Nat)(s:Ps)(R:xW)(i:Nat)(h:PS w p B s R)(hi:i<s.nd.length) :
  Calls Tryz.prog 134 #[.pointer (some ⟨p,0,none⟩),.int .i64 (i:Int)] w (xM w p B R (.ok () (s.num i 1))):=by
 obtain⟨g,AA,hA,AB,AC⟩:=h.zGE hi;have c3:∃v,w.cell? ⟨g,i*5+3,none⟩=some (.int .i64 v):=⟨_,by rw[h.zB2 i AA hA 3 (by decide)]; rfl⟩;obtain⟨v,c3⟩:=c3;have z3:=h.zH4 (i*5+3) hA;have x1:=h.x1' hA;have HF:Hid (OkP w p B R (s.num i 1) (w.setCell ⟨g,i*5+3,none⟩ (.int .i64 1))):=yD (h.put i AA 3 (by decide) _ (fun n=>{ n with num:=1 }) (fun _=>rfl) rfl hA)
 have q0:(i:Int)<(R.nh.length:Int):=by omega
 clear h hA hi
 go_enter Tryz.func134,Tryz.ntmps134
 go_wp2
 go_end0;exact xM.ok HF.out
theorem XW (w:World)(p B:Nat)(s:Ps)(R:xW)(i:Nat)(h:PS w p B s R)(hi:i<s.nd.length) :
  Calls Tryz.prog 129 #[.pointer (some ⟨p,0,none⟩),.int .i64 (i:Int)] w (xM w p B R (jI i s)):=by
 obtain⟨g,AB,hA,AI,AD⟩:=h.zGE hi;have x1:=h.x1' hA;have q0:(0:Int)≤(i:Int):=Int.natCast_nonneg _
 have q1:(i:Int)<(R.nh.length:Int):=by omega
 have HP:=yD h;have HA:=yD hA;have AJ:=VA;have AC:=h.blk.lt;clear h hA hi
 by_cases hk:s.hd.kind=1
 ·have HK:=yD hk;have HN:Hid (jI i s=.ok () (s.adv.text i s.hd.text)):=yD (by unfold jI ofP; rw[if_pos hk]; rfl);clear hk
  go_enter Tryz.func129,Tryz.ntmps129
  go_wp2_with fail
  go_region_held3 (fun w'=>w'.cell? ⟨p,1,none⟩=some (.slice (some ⟨g,0,none⟩) R.nh.length R.c))
   (first
    | assumption
    | go_keep
    | exact AE _)
   (first
    | (go_at_call 161; refine(zGH _ p B s R 1 HK (by decide) (HP.out.ext (by first | exact Ext.refl _ | exact Below.drew (Below.refl _ _)))).mono ?_; rintro e w1 ⟨rfl,ho⟩; simp only[ZM]; have y1:=ho.1.x1' HA.out; have HO:=yD ho; have c2:w1.cell? ⟨g,i*5+2,none⟩=some (.string (yX R.nh[i].1.text)):=(ho.1.zB2 i AB HA.out 2 (by decide)); have z2:=ho.1.zH4 (i*5+2) HA.out; have AE:∀u,(w1.setCell ⟨g,i*5+2,none⟩ u).cell? ⟨p,1,none⟩=some (.slice (some ⟨g,0,none⟩) R.nh.length R.c):=fun u=>(World.cell?_of_block (w:=w1) (a:=⟨p,1,none⟩) (zQ w1 ⟨g,i*5+2,none⟩ u p (fun e=>AD e.symm))).trans y1; clear ho)
    | (fail))
  have HF:Hid (OkP w p B R (s.adv.text i s.hd.text) (w1.setCell ⟨g,i*5+2,none⟩ (.string (yX s.hd.text)))):=yD (OkP.trans ((xK.ext (Below.drew (Below.refl _ _))).trans HO.out.2) (HO.out.1.put i AB 2 (by decide) _ (fun n=>{ n with text:=s.hd.text }) (fun _=>rfl) rfl HA.out))
  go_wp2_with fail
  go_end0;rw[HN.out];exact xM.ok HF.out
 ·have HK:Hid (s.hd.kind≠1):=yD hk;have HN:Hid (jI i s=.err 50 s.hd.at_):=yD (by unfold jI ofP; rw[if_neg hk]; rfl);clear hk
  go_enter Tryz.func129,Tryz.ntmps129
  go_wp2_with fail
  have HX:Hid (∀w',Ext w w'→∀e w2,JE w' p B R 50 s.hd.at_ e w2→xM w p B R (jI i s) e w2):=yD fun w' hx e w2 he=>by rw[HN.out]; exact JE.trans (xK.ext hx) he
  apply zFe (fun c w2=>xM w p B R (jI i s) (.panicked c) w2) (by kernel_rfl) (by kernel_rfl) (by kernel_rfl) (fun a' ha c w2 hx=>⟨ha,hx⟩);apply ZJ (.pointer (some ⟨p,0,none⟩)) rfl rfl rfl
  ·intro w' AA hH;clear hH AA;simp[jB,go_sem];exact Ext.refl _
  apply ZJ (.pointer (some ⟨p,0,none⟩)) rfl rfl rfl
  ·intro w' AA hH;clear hH AA;simp[jB,go_sem];exact Ext.refl _
  apply ZJ (.pointer (some ⟨p,1,none⟩)) rfl rfl rfl
  ·intro w' AA hH;clear hH AA;simp[jB,go_sem];exact Ext.refl _
  apply ZJ (.slice (some ⟨g,0,none⟩) R.nh.length R.c) rfl rfl rfl
  ·intro w' AA hH;have cc:=(AA.cell (p:=⟨p,1,none⟩) AC).trans x1;clear hH AA;simp[jB,go_sem,cc];exact Ext.refl _
  apply ZJ (.int .i64 (i:Int)) rfl rfl rfl
  ·intro w' AA hH;clear hH AA;simp[jB,go_sem];exact Ext.refl _
  apply ZJ (.pointer (some ⟨p,0,none⟩)) rfl rfl rfl
  ·intro w' AA hH;clear hH AA;simp[jB,go_sem];exact Ext.refl _
  (try simp only[Act.put,yA,yB,yC]);apply zAu (fun _ _=>False) (fun v w w' h hx=>h) rfl rfl rfl
  ·intro w' AA hH;clear hH;simp[jB,go_sem];refine(zQN w' p B s R 1 HK (HP.out.ext AA)).mono ?_;intro e w2 he;exact⟨_,he.1,by have:=HX.out w' AA e w2 he; rw[he.1] at this; exact this⟩
  intro AG;(try simp only[Act.put,yA,yB,yC]);apply zAu (fun _ _=>False) (fun v w w' h hx=>h) rfl rfl rfl
  ·intro w' AA hH;exact(hH _ (List.mem_cons_self ..) ⟨_,rfl,by decide⟩).elim
  intro AF;(try simp only[Act.put,yA,yB,yC]);apply ZJ (.pointer (some ⟨g,i*5,none⟩)) rfl rfl rfl
  ·intro w' AA hH;clear hH AA;simp[jB,go_sem,q1];exact Ext.refl _
  apply ZJ (.pointer (some ⟨g,i*5+2,none⟩)) rfl rfl rfl
  ·intro w' AA hH;clear hH AA;simp[jB,go_sem,q1];exact Ext.refl _
  (try simp only[Act.put,yA,yB,yC]);apply zAu (fun _ _=>False) (fun v w w' h hx=>h) rfl rfl rfl
  ·intro w' AA hH;exact(hH _ (List.mem_cons_self ..) ⟨_,rfl,by decide⟩).elim
  intro AH;(try simp only[Act.put,yA,yB,yC]);apply zH9;intro w' AA hH;exact(hH _ (List.mem_cons_self ..)).elim
theorem zMX (w:World)(p B:Nat)(s:Ps)(R:xW)(i gc:Nat)(h:PS w p B s R)(hi:i<s.nd.length)(hs:Safe w (xJ p R) gc 73 #[.pointer (some ⟨p,0,none⟩)]) :
  Calls Tryz.prog 210 #[.int .i64 (i:Int),.pointer (some ⟨gc,0,none⟩)] w (xM w p B R (zCu i s)):=by
 obtain⟨g,AC,hA,AN,AF⟩:=h.zGE hi;have x1:=h.x1' hA;have q0:(0:Int)≤(i:Int):=Int.natCast_nonneg _
 have q1:(i:Int)<(R.nh.length:Int):=by omega
 have HP:=yD h;have HA:=yD hA;have AO:=zB8;have AE:=h.blk.lt;have AB:=hs.1.lt;have cg:w.cell? ⟨gc,0,none⟩=some (.pointer (some ⟨p,0,none⟩)):=hs.1.cell 0;have AD:=yD hs;have AJ:gc≠p:=fun e=>hs.2 (.inl e);have AH:gc≠g:=fun e=>hs.2 (.inr (.inl (by rw[e]; exact hA)));clear h hA hi hs
 by_cases hk:s.hd.kind=2
 ·have HK:=yD hk;have HN:Hid (zCu i s=.ok () (s.adv.num i s.hd.n)):=yD (by unfold zCu ofP; rw[if_pos hk]; rfl);clear hk
  go_enter Tryz.func210,Tryz.ntmps210
  go_wp2_with fail
  go_region_held3 (fun w'=>w'.cell? ⟨p,1,none⟩=some (.slice (some ⟨g,0,none⟩) R.nh.length R.c)∧w'.cell? ⟨gc,0,none⟩=some (.pointer (some ⟨p,0,none⟩)))
   (first
    | exact⟨y1,yg⟩
    | go_keep
    | exact⟨AI _,AG _⟩)
   (first
    | (go_at_call 161; refine(zGH _ p B s R 2 HK (by decide) (HP.out.ext (by first | exact Ext.refl _ | exact Below.drew (Below.refl _ _)))).mono ?_; rintro e w1 ⟨rfl,ho⟩; simp only[ZM]; have y1:=ho.1.x1' HA.out; have HO:=yD ho; have c2:w1.cell? ⟨g,i*5+3,none⟩=some (.int .i64 R.nh[i].1.num):=(ho.1.zB2 i AC HA.out 3 (by decide)); have z2:=ho.1.zH4 (i*5+3) HA.out; have yg:w1.cell? ⟨gc,0,none⟩=some (.pointer (some ⟨p,0,none⟩)):=((AD.out.xO (xK.ext (Below.drew (Below.refl _ _)))).xO ho.2).1.cell 0; have AG:∀u,(w1.setCell ⟨g,i*5+3,none⟩ u).cell? ⟨gc,0,none⟩=some (.pointer (some ⟨p,0,none⟩)):=fun u=>(World.cell?_of_block (w:=w1) (a:=⟨gc,0,none⟩) (zQ w1 ⟨g,i*5+3,none⟩ u gc AH)).trans yg; have AI:∀u,(w1.setCell ⟨g,i*5+3,none⟩ u).cell? ⟨p,1,none⟩=some (.slice (some ⟨g,0,none⟩) R.nh.length R.c):=fun u=>(World.cell?_of_block (w:=w1) (a:=⟨p,1,none⟩) (zQ w1 ⟨g,i*5+3,none⟩ u p (fun e=>AF e.symm))).trans y1; clear ho)
    | (fail))
  have HF:Hid (OkP w p B R (s.adv.num i s.hd.n) (w1.setCell ⟨g,i*5+3,none⟩ (.int .i64 s.hd.n))):=yD (OkP.trans ((xK.ext (Below.drew (Below.refl _ _))).trans HO.out.2) (HO.out.1.put i AC 3 (by decide) _ (fun n=>{ n with num:=s.hd.n }) (fun _=>rfl) rfl HA.out))
  go_wp2_with fail
  go_end0;rw[HN.out];exact xM.ok HF.out
 ·have HK:Hid (s.hd.kind≠2):=yD hk;have HN:Hid (zCu i s=.err 50 s.hd.at_):=yD (by unfold zCu ofP; rw[if_neg hk]; rfl);clear hk
  go_enter Tryz.func210,Tryz.ntmps210
  go_wp2_with fail
  have HX:Hid (∀w',Ext w w'→∀e w2,JE w' p B R 50 s.hd.at_ e w2→xM w p B R (zCu i s) e w2):=yD fun w' hx e w2 he=>by rw[HN.out]; exact JE.trans (xK.ext hx) he
  apply zFe (fun c w2=>xM w p B R (zCu i s) (.panicked c) w2) (by kernel_rfl) (by kernel_rfl) (by kernel_rfl) (fun a' ha c w2 hx=>⟨ha,hx⟩);apply ZJ (.pointer (some ⟨p,0,none⟩)) rfl rfl rfl
  ·intro w' AA hH;have cc:=(AA.cell (p:=⟨gc,0,none⟩) AB).trans cg;clear hH AA;simp[jB,go_sem,cc];exact Ext.refl _
  apply ZJ (.pointer (some ⟨p,0,none⟩)) rfl rfl rfl
  ·intro w' AA hH;clear hH AA;simp[jB,go_sem];exact Ext.refl _
  apply ZJ (.pointer (some ⟨p,1,none⟩)) rfl rfl rfl
  ·intro w' AA hH;clear hH AA;simp[jB,go_sem];exact Ext.refl _
  apply ZJ (.slice (some ⟨g,0,none⟩) R.nh.length R.c) rfl rfl rfl
  ·intro w' AA hH;have cc:=(AA.cell (p:=⟨p,1,none⟩) AE).trans x1;clear hH AA;simp[jB,go_sem,cc];exact Ext.refl _
  apply ZJ (.int .i64 (i:Int)) rfl rfl rfl
  ·intro w' AA hH;clear hH AA;simp[jB,go_sem];exact Ext.refl _
  apply ZJ (.pointer (some ⟨p,0,none⟩)) rfl rfl rfl
  ·intro w' AA hH;have cc:=(AA.cell (p:=⟨gc,0,none⟩) AB).trans cg;clear hH AA;simp[jB,go_sem,cc];exact Ext.refl _
  (try simp only[Act.put,yA,yB,yC]);apply zAu (fun _ _=>False) (fun v w w' h hx=>h) rfl rfl rfl
  ·intro w' AA hH;clear hH;simp[jB,go_sem];refine(zQN w' p B s R 2 HK (HP.out.ext AA)).mono ?_;intro e w2 he;exact⟨_,he.1,by have:=HX.out w' AA e w2 he; rw[he.1] at this; exact this⟩
  intro AL;(try simp only[Act.put,yA,yB,yC]);apply zAu (fun _ _=>False) (fun v w w' h hx=>h) rfl rfl rfl
  ·intro w' AA hH;exact(hH _ (List.mem_cons_self ..) ⟨_,rfl,by decide⟩).elim
  intro AK;(try simp only[Act.put,yA,yB,yC]);apply ZJ (.pointer (some ⟨g,i*5,none⟩)) rfl rfl rfl
  ·intro w' AA hH;clear hH AA;simp[jB,go_sem,q1];exact Ext.refl _
  apply ZJ (.pointer (some ⟨g,i*5+3,none⟩)) rfl rfl rfl
  ·intro w' AA hH;clear hH AA;simp[jB,go_sem,q1];exact Ext.refl _
  (try simp only[Act.put,yA,yB,yC]);apply zAu (fun _ _=>False) (fun v w w' h hx=>h) rfl rfl rfl
  ·intro w' AA hH;exact(hH _ (List.mem_cons_self ..) ⟨_,rfl,by decide⟩).elim
  intro AM;(try simp only[Act.put,yA,yB,yC]);apply zH9;intro w' AA hH;exact(hH _ (List.mem_cons_self ..)).elim
theorem PS.zCy {w:World}{p B:Nat}{s:Ps}{R:xW}(h:PS w p B s R){b:Nat}(hb:xJ p R b):b<w.heap.size:=by
 rcases hb with rfl | hb
 ·exact h.blk.lt
 ·exact(h.ns.zCy hb).2
theorem PS.fresh {w:World}{p B:Nat}{s:Ps}{R:xW}(h:PS w p B s R)(t:TypeId)(cs:Array Value):Safe (w.alloc (.cells cs t)) (xJ p R) w.heap.size t cs:=⟨Blk.new _ _ _,fun hb=>by have:=h.zCy hb; omega⟩
theorem Safe.row {w:World}{M:Nat→Prop}{g:Nat}{t:TypeId}{cs:Array Value}(h:Safe w M g t cs):zD2 w M (some ⟨g,0,none⟩) cs.toList:=
 .inr ⟨g,0,rfl,h.1.lt,h.2,fun k hk=>by rw[Nat.zero_add,h.1.cell k]; simp⟩
theorem zH8 (r:Res Unit):(r.bind fun _ s=>.ok () s)=r:=by cases r <;> rfl
theorem zBw (f:KF)(s:Ps):zBV [f] s=f.m s:=zH8 _
theorem zCD.unit {w:World}{p B:Nat}{R:xW}{v:Value}{r:Res Unit}{e:Ending}{w':World}(h:zCD w p B R v r e w'):(∃s',r=.ok () s'∧e=.returned v∧OkP w p B R s' w')∨(∃er a,r=.err er a∧JE w p B R er a e w'):=by
 cases r with
 | ok a s'=>exact .inl ⟨s',rfl,h.1,h.2⟩
 | err er a=>exact .inr ⟨er,a,rfl,h⟩
theorem xM.unit {w:World}{p B:Nat}{R:xW}{r:Res Unit}{e:Ending}{w':World}(h:xM w p B R r e w'):(∃s',r=.ok () s'∧e=.returned (.tuple #[])∧OkP w p B R s' w')∨(∃er a,r=.err er a∧JE w p B R er a e w'):=by
 cases r with
 | ok a s'=>exact .inl ⟨s',rfl,h.1,h.2⟩
 | err er a=>exact .inr ⟨er,a,rfl,h⟩
theorem hmf (fn:Fn)(first cap:Array Value)(w:World):(Instr.makeFunc fn first cap).run Tryz.prog w=.ok (.func fn first cap) w:=rfl
theorem zBk (w:World)(p B:Nat)(s:Ps)(R:xW)(i:Nat)(h:PS w p B s R)(hG:Good s)(hi:i<s.nd.length)(hbig:s.nd.length≤1000000) :
  Calls Tryz.prog 131 #[.pointer (some ⟨p,0,none⟩),.int .i64 (i:Int)] w (xM w p B R (zAm i s)):=by
 have HP:=yD h;have HG:=yD hG;have HF:=yD (h.fresh 133 #[.func (.func 129) #[.pointer (some ⟨p,0,none⟩)] #[]]);have HX:Hid (Ext w (w.alloc (.cells #[.func (.func 129) #[.pointer (some ⟨p,0,none⟩)] #[]] 133))):=yD (Ext.alloc _ _);have HI:=yD hi;have hm:=hmf;clear h hG hi
 go_enter Tryz.func131,Tryz.ntmps131
 go_wp2_with fail
 refine(zBq _ p B s R i 5 _ [⟨129,#[.pointer (some ⟨p,0,none⟩)],#[],jI s.nd.length⟩] 1 (HP.out.ext HX.out) HI.out hbig (by simp) HG.out HF.out.row (fun f hf=>by
  rw[List.mem_singleton.1 hf]
  exact enters_of Tryz.func129 (by kernel_rfl) rfl) (fun k hk s' wr R' h1 h2 h3=>by
  obtain rfl:k=0:=by simp at hk; omega
  injection h1 with _ h1;subst h1
  exact XW wr p B _ R' s.nd.length h3 (by rw[jH]; omega))).mono ?_
 intro e w1 AA;rw[zBw] at AA
 rcases AA.unit with ⟨s',hr,rfl,ho⟩ | ⟨er,a,hr,he⟩
 ·have HR:Hid (zAm i s=.ok () s'):=yD hr;have HO:=yD (OkP.trans (xK.ext HX.out) ho);clear AA hr ho
  go_wp2_with fail
  go_end0;rw[HR.out];exact xM.ok HO.out
 ·have HE:=yD (JE.trans (xK.ext HX.out) he);have HR:Hid (zAm i s=.err er a):=yD hr;obtain⟨rfl,_⟩:=he;refine xA (P:=Tryz.prog) (fn:=Tryz.f131) rfl ?_;rw[HR.out];exact HE.out
theorem zE8 (w:World)(p B:Nat)(s:Ps)(R:xW)(i:Nat)(h:PS w p B s R)(hG:Good s)(hi:i<s.nd.length)(hbig:s.nd.length≤1000000) :
  Calls Tryz.prog 205 #[.pointer (some ⟨p,0,none⟩),.int .i64 (i:Int)] w (xM w p B R (zCm i s)):=by
 have HP:=yD h;have HG:=yD hG;have hb:=h.fresh 73 #[.pointer (some ⟨p,0,none⟩)];have h1:=h.ext (Ext.alloc w (.cells #[.pointer (some ⟨p,0,none⟩)] 73));have hf:=h1.fresh 133 #[.func (.func 210) #[] #[.pointer (some ⟨w.heap.size,0,none⟩)]];have HB:=yD (hb.xO (xK.ext (M:=xJ p R) (Ext.alloc (w.alloc (.cells #[.pointer (some ⟨p,0,none⟩)] 73)) (.cells #[.func (.func 210) #[] #[.pointer (some ⟨w.heap.size,0,none⟩)]] 133))));rw[yQ] at hf;have HF:=yD hf;have HX:Hid (Ext w ((w.alloc (.cells #[.pointer (some ⟨p,0,none⟩)] 73)).alloc (.cells #[.func (.func 210) #[] #[.pointer (some ⟨w.heap.size,0,none⟩)]] 133))):=yD ((Ext.alloc _ _).trans (Ext.alloc _ _));have HI:=yD hi;have hm:=hmf;clear h hG hi hb h1 hf
 go_enter Tryz.func205,Tryz.ntmps205
 go_wp2_with fail
 refine(zBq _ p B s R i 21 _ [⟨210,#[],#[.pointer (some ⟨w.heap.size,0,none⟩)],zCu s.nd.length⟩] 1 (HP.out.ext HX.out) HI.out hbig (by simp) HG.out HF.out.row (fun f hf=>by
  rw[List.mem_singleton.1 hf]
  exact enters_of Tryz.func210 (by kernel_rfl) rfl) (fun k hk s' wr R' h1 h2 h3=>by
  obtain rfl:k=0:=by simp at hk; omega
  injection h1 with _ h1;subst h1
  exact zMX wr p B _ R' s.nd.length w.heap.size h3 (by rw[jH]; omega) (HB.out.xO h2))).mono ?_
 intro e w1 AA;rw[zBw] at AA
 rcases AA.unit with ⟨s',hr,rfl,ho⟩ | ⟨er,a,hr,he⟩
 ·have HR:Hid (zCm i s=.ok () s'):=yD hr;have HO:=yD (OkP.trans (xK.ext HX.out) ho);clear AA hr ho
  go_wp2_with fail
  go_end0;rw[HR.out];exact xM.ok HO.out
 ·have HE:=yD (JE.trans (xK.ext HX.out) he);have HR:Hid (zCm i s=.err er a):=yD hr;obtain⟨rfl,_⟩:=he;refine xA (P:=Tryz.prog) (fn:=Tryz.f205) rfl ?_;rw[HR.out];exact HE.out
def XO (p:Nat)(w:World):Nat:=match w.cell? ⟨p,0,none⟩ with
 | some (.slice _ n _)=>n
 | _=>0
theorem PS.XO {w:World}{p B:Nat}{s:Ps}{R:xW}(h:PS w p B s R):XO p w=s.ts.length:=by unfold Proofs.YtioffpjajhalaaaGreatDoor.XO; rw[h.x0]
theorem zQ2 (one:Pm Unit)(f:Nat)(s:Ps)(h:isP [44] s=false):zBu one (f+1) s=.ok () s:=by unfold zBu; rw[h]; rfl
theorem zPa (one:Pm Unit)(f:Nat)(s:Ps)(h:isP [44] s=true):zBu one (f+1) s=(one s.adv).bind fun _ s=>zBu one f s:=by rw[zBu,if_pos h]
theorem zE1 (w:World)(p B:Nat)(s:Ps)(R:xW)(i:Nat)(f:KF)(h:PS w p B s R)(hG:Good s)(he:∀args w,(callFunc f.K args).run Tryz.prog w=.ok (.enter f.K args) w)(hfine:zAO f.m)
  (hone:∀(wr:World) (s':Ps) (R':xW),ZE s s'→xK w (xJ p R) wr (xJ p R')→PS wr p B s' R'→Calls Tryz.prog f.K (f.first.push (.int .i64 (i:Int))++f.cap) wr (xM wr p B R' (f.m s'))) :
  Calls Tryz.prog 130 #[.pointer (some ⟨p,0,none⟩),.int .i64 (i:Int),.func (.func f.K) f.first f.cap] w (xM w p B R (VH f.m s)):=by
 have HP:=yD h;have HG:=yD hG;have HO:=yD hone;have AH:=yD hfine;obtain⟨K,first,Ab,m⟩:=f
 simp only at he HO AH ⊢
 have HE:=yD he;clear h hG hone hfine he;have AD:=AH.out s HG.out
 cases hr:m s with
 | err er a=>
  have HC:Hid (xM w p B R (m s)=xM w p B R (.err er a)):=yD (by rw[hr]);have HL:Hid (VH m s=.err er a):=yD (by unfold VH; rw[hr]; rfl);clear hr AD;have he:=HE.out
  go_enter Tryz.func130,Tryz.ntmps130
  go_wp2_with fail
  refine(HO.out w s R (ZE.refl HG.out) (xK.refl _ _) HP.out).mono ?_;rw[HC.out];rintro e w1 ⟨rfl,ho⟩;refine xA (P:=Tryz.prog) (fn:=Tryz.f130) rfl ?_;rw[HL.out];exact⟨rfl,ho⟩
 | ok a s1=>
  rw[hr] at AD;have Ac:Hid (ZE s s1):=yD AD;have HC:Hid (xM w p B R (m s)=xM w p B R (.ok a s1)):=yD (by rw[hr]);have HL:Hid (VH m s=zBu m (s1.ts.length+1) s1):=yD (by unfold VH; rw[hr]; rfl);clear hr AD;have he:=HE.out
  go_enter Tryz.func130,Tryz.ntmps130
  go_wp2_with fail
  refine(HO.out w s R (ZE.refl HG.out) (xK.refl _ _) HP.out).mono ?_;rw[HC.out];rintro e w1 ⟨rfl,ho⟩;have Ad:=yD ho;clear ho he
  go_wp2_with fail
  go_loopw [] (fun wr=>∃(s':Ps) (n:Nat),Hid (ZE s s')∧Hid (s'.ts.length<n)∧Hid (VH m s=zBu m n s')∧Hid (OkP w p B R s' wr)) (fun wr=>XO p wr)
  case atStart=>exact⟨s1,s1.ts.length+1,Ac,yD (Nat.lt_succ_self _),HL,Ad⟩
  case round=>
   obtain⟨s',n,AN,HN,AP,Aa⟩:=hrel;obtain⟨wa,rfl⟩:∃wa:World,wa=wr:=⟨_,rfl⟩;obtain⟨R',AQ,AU⟩:=Aa.out;have AF:=yD AQ;have AM:=yD AU;obtain⟨n',rfl⟩:∃n',n=n'+1:=⟨n-1,by have:=HN.out; omega⟩;clear AQ AU
   cases hi:isP [44] s' with
   | false=>
    have HI:=yD hi;have HR:Hid (VH m s=.ok () s'):=yD (by rw[AP.out,zQ2 m n' s' hi]);clear hi
    go_wp2_with fail
    refine(zAg wa p B s' R' [44] HI AF.out).mono ?_;rintro e w2 ⟨rfl,hx⟩;have AX:=yD (OkP.trans AM.out (AF.out.okp hx));clear hx
    go_wp2_with fail
    go_end0;rw[HR.out];exact xM.ok AX.out
   | true=>
    have HI:=yD hi;have AV:=(vD hi).1;have AJ:=JF AN.out.xU AV;have AK:=yD (AN.out.trans AJ)
    have AR:Hid (s'.adv.ts.length<s'.ts.length∧s'.adv.ts.length<n'):=yD (by
     have h1:=jN (s:=s');have h2:=AN.out.xU.pos;have h3:=HN.out
     omega)
    have HQ:Hid (VH m s=(m s'.adv).bind fun _ s=>zBu m n' s):=yD (by rw[AP.out,zPa m n' s' hi]);have AD:=AH.out s'.adv AJ.xU;clear hi AV AJ
    cases hr:m s'.adv with
    | err er a=>
     have HC:Hid (m s'.adv=.err er a):=yD hr;clear hr AD;have he:=HE.out
     go_wp2_with fail
     refine(JG wa p B s' R' [44] HI AF.out).mono ?_;rintro e w2 ⟨rfl,ho⟩;obtain⟨R2,AC,AB⟩:=ho;have AE:=yD AC;have AA:=yD (AM.out.trans AB);clear AC AB
     go_wp2_with fail
     refine(HO.out w2 s'.adv R2 AK.out AA.out AE.out).mono ?_;intro e w3 hp;rw[HC.out] at hp;have AY:Hid (xM w p B R (VH m s) (jL er) w3):=yD (by rw[HQ.out,HC.out]; obtain⟨_,h⟩:=hp; exact JE.trans AA.out ⟨rfl,h⟩);obtain⟨rfl,_⟩:=hp;exact xA (P:=Tryz.prog) (fn:=Tryz.f130) rfl AY.out
    | ok a s2=>
     rw[hr] at AD;have AL:Hid (ZE s'.adv s2):=yD AD;have HC:Hid (m s'.adv=.ok a s2):=yD hr;clear hr AD;have he:=HE.out
     go_wp2_with fail
     refine(JG wa p B s' R' [44] HI AF.out).mono ?_;rintro e w2 ⟨rfl,ho⟩;obtain⟨R2,AC,AB⟩:=ho;have AE:=yD AC;have AA:=yD (AM.out.trans AB);clear AC AB
     go_wp2_with fail
     refine(HO.out w2 s'.adv R2 AK.out AA.out AE.out).mono ?_;intro e w3 hp;rw[HC.out] at hp;obtain⟨rfl,AS⟩:=hp;have AT:=yD (OkP.trans AA.out AS);have AO:=yD (AK.out.trans AL.out);have AW:Hid (s2.ts.length<n'):=yD (by have:=AL.out.ts; have:=AR.out; omega);have AI:Hid (VH m s=zBu m n' s2):=yD (by rw[HQ.out,HC.out]; rfl)
     have AZ:Hid (XO p w3<XO p wa):=yD (by
      obtain⟨R3,AG,_⟩:=AT.out;rw[AG.XO,AF.out.XO]
      have:=AL.out.ts
      have:=AR.out
      omega)
     clear AS he
     go_wp2_with fail
     go_roundw
     case rel=>exact⟨s2,n',AO,AW,AI,AT⟩
     case measure=>exact AZ.out
end Go.Proofs.YtioffpjajhalaaaGreatDoor
