/- The law on regions that draw their order, where a call may panic: what it leaves then is told by X. No condition beyond that law's. -/
import Derived.Test.YtcccnicldbpieaaGreatDoorFacts
namespace Go.Proofs.YtcccnicldbpieaaGreatDoor
open Go Go.RowKit
set_option linter.unusedVariables false
set_option linter.unusedSimpArgs false
def YieldsX (X : List PanicEntry → World → Prop) (P : Program) (ρ : Operand → Value) (o : Oper) (w : World) (F : Value → World → Prop) : Prop :=
  match (execOp ρ o).run P w with
  | .ok (.value u) w' => F u w'
  | .ok .skip w' => F undef w'
  | .ok (.enter f args) w' => Calls P f args w' fun e w'' => (∃ u, e = .returned u ∧ F u w'') ∨ ∃ c, e = .panicked c ∧ X c w''
  | _ => False

theorem YieldsX.mono {X : List PanicEntry → World → Prop} {P : Program} {ρ : Operand → Value} {o : Oper} {w : World} {F G : Value → World → Prop} (h : YieldsX X P ρ o w F) (hFG : ∀ v w', F v w' → G v w') : YieldsX X P ρ o w G := by
  unfold YieldsX at *
  generalize (execOp ρ o).run P w = r at *
  cases r with
  | ok n w' =>
    cases n with
    | value u => exact hFG _ _ h
    | skip => exact hFG _ _ h
    | enter f args => exact Calls.mono h fun e w'' hh => hh.imp (fun ⟨u, he, hf⟩ => ⟨u, he, hFG _ _ hf⟩) id
    | _ => exact h
  | halt x w' => exact h

theorem wp_of_yieldsX {X : List PanicEntry → World → Prop} {P : Program} {o : Oper} {a : Act} {w : World} {F : Value → World → Prop} {K : Act → World → Prop} {Q : Exit → Act → World → Prop}
    (h : YieldsX X P a.eval o w F) (hk : ∀ v w', F v w' → K (a.put o.dst v) w') (hX : ∀ c w', X c w' → Q (.panic c) a w') : o.wp P a w K Q := by
  unfold YieldsX at h
  unfold Oper.wp
  generalize (execOp a.eval o).run P w = r at *
  cases r with
  | ok n w' =>
    cases n with
    | value u => exact hk _ _ h
    | skip => exact hk _ _ h
    | enter f args => exact Calls.mono h fun e w'' hh => by rcases hh with ⟨u, he, hf⟩ | ⟨c, he, hx⟩ <;> subst he <;> first | exact hk _ _ hf | exact hX _ _ hx
    | _ => exact h.elim
  | halt x w' => exact h.elim

section
variable (X : List PanicEntry → World → Prop) (P : Program) (ops : Array Oper) (R : World → World → Prop) (w0 : World) (Q : Act → World → Prop)

/-- What operation o owes, in the frame a, where the facts H of what it looks at are known. -/
def OwesX (o : Oper) (a : Act) (H : List (Option Tmp × (World → Prop))) (F : Value → World → Prop) : Prop :=
  ∀ w, R w0 w → (∀ p ∈ H, (∃ t, p.1 = some t ∧ t ∈ o.looksAt ops) → p.2 w) →
    if Region.wanted o (yielded ops a.tmps) = true then YieldsX X P a.eval o w (fun v w' => F v w' ∧ R w w') else F undef w

/-- The walk in the order of the text; how each operation is taken is chosen ahead. -/
def WalkX : List Oper → List Take → Act → List (Option Tmp × (World → Prop)) → Prop
  | [], _, a, H => ∀ w, R w0 w → (∀ p ∈ H, p.2 w) → Q a w
  | o :: l, .det v0 :: ks, a, H => OwesX X P ops R w0 o a H (fun v _ => v = v0) ∧ WalkX l ks (a.put o.dst v0) H
  | o :: l, .fact F :: ks, a, H => (∀ v w w', F v w → R w w' → F v w') ∧ OwesX X P ops R w0 o a H F ∧ ∀ v, WalkX l ks (a.put o.dst v) ((o.dst, F v) :: H)
  | _ :: _, [], _, _ => False
end

section
variable {X : List PanicEntry → World → Prop} {P : Program} {ops : Array Oper} {R : World → World → Prop} {w0 : World} {Q : Act → World → Prop}

theorem WalkX_nil {a : Act} {H : List (Option Tmp × (World → Prop))} (h : ∀ w, R w0 w → (∀ p ∈ H, p.2 w) → Q a w) : WalkX X P ops R w0 Q [] [] a H := h
theorem WalkX_det {o : Oper} {l : List Oper} {ks : List Take} {a : Act} {H : List (Option Tmp × (World → Prop))} (v0 : Value)
    (h : OwesX X P ops R w0 o a H (fun v _ => v = v0)) (hk : WalkX X P ops R w0 Q l ks (a.put o.dst v0) H) : WalkX X P ops R w0 Q (o :: l) (.det v0 :: ks) a H := ⟨h, hk⟩
theorem WalkX_fact {o : Oper} {l : List Oper} {ks : List Take} {a : Act} {H : List (Option Tmp × (World → Prop))} (F : Value → World → Prop)
    (hs : ∀ v w w', F v w → R w w' → F v w') (h : OwesX X P ops R w0 o a H F) (hk : ∀ v, WalkX X P ops R w0 Q l ks (a.put o.dst v) ((o.dst, F v) :: H)) : WalkX X P ops R w0 Q (o :: l) (.fact F :: ks) a H := ⟨hs, h, hk⟩

/-- What the walk shows, operation by operation, whatever the values. -/
theorem WalkX_spec {ks : List Take} {a0 : Act} (vs : Nat → Value) : ∀ (l : List Oper) (k : Nat), (∀ j, j < l.length → l[j]? = ops[k + j]?) → WalkX X P ops R w0 Q l (ks.drop k) (lexA ops ks vs a0 k) (lexH ops ks vs k) →
    (∀ i o, k ≤ i → i < k + l.length → ops[i]? = some o → (∀ v w w', (ks.getD i (.det undef)).says v w → R w w' → (ks.getD i (.det undef)).says v w') ∧ OwesX X P ops R w0 o (lexA ops ks vs a0 i) (lexH ops ks vs i) (ks.getD i (.det undef)).says) ∧
    ∀ w, R w0 w → (∀ p ∈ lexH ops ks vs (k + l.length), p.2 w) → Q (lexA ops ks vs a0 (k + l.length)) w
  | [], k, hl, h => by
    refine ⟨fun i o hi hlt ho => ?_, by simpa [WalkX] using h⟩
    simp at hlt
    omega
  | o :: l, k, hl, h => by
    have h0 : ops[k]? = some o := by simpa using (hl 0 (by simp)).symm
    have hl' : ∀ j, j < l.length → l[j]? = ops[k + 1 + j]? := fun j hj => by
      have := hl (j + 1) (by simpa using hj)
      simpa [Nat.add_assoc, Nat.add_comm 1 j] using this
    cases hd : ks.drop k with
    | nil => rw [hd] at h; simp [WalkX] at h
    | cons x ks' =>
      rw [hd] at h
      have hx : ks[k]? = some x := by
        have := congrArg (fun l => l[0]?) hd
        simpa using this
      have hg : ks.getD k (.det undef) = x := by simp [List.getD, hx]
      have hd' : ks.drop (k + 1) = ks' := by
        rw [← List.drop_drop, hd]; rfl
      have hlen : k + (o :: l).length = k + 1 + l.length := by simp; omega
      cases x with
      | det v0 =>
        simp only [WalkX] at h
        have hA : lexA ops ks vs a0 (k + 1) = (lexA ops ks vs a0 k).put o.dst v0 := by
          show (lexA ops ks vs a0 k).put ((ops[k]?).bind (·.dst)) ((ks.getD k (.det undef)).val (vs k)) = _
          rw [hg, h0]; rfl
        have hH : lexH ops ks vs (k + 1) = lexH ops ks vs k := by
          show (match ks.getD k (.det undef) with | .det _ => _ | .fact F => _) = _
          rw [hg]
        obtain ⟨r1, r2⟩ := WalkX_spec vs l (k + 1) hl' (by rw [hd', hA, hH]; exact h.2)
        rw [hlen]
        refine ⟨fun i oi hi hlt ho => ?_, r2⟩
        by_cases hik : i = k
        · subst hik
          rw [h0] at ho
          obtain rfl := Option.some.inj ho
          rw [hg]
          exact ⟨fun v w w' e _ => e, h.1⟩
        · exact r1 i oi (by omega) (by omega) ho
      | fact F =>
        simp only [WalkX] at h
        have hA : lexA ops ks vs a0 (k + 1) = (lexA ops ks vs a0 k).put o.dst (vs k) := by
          show (lexA ops ks vs a0 k).put ((ops[k]?).bind (·.dst)) ((ks.getD k (.det undef)).val (vs k)) = _
          rw [hg, h0]; rfl
        have hH : lexH ops ks vs (k + 1) = (o.dst, F (vs k)) :: lexH ops ks vs k := by
          show (match ks.getD k (.det undef) with | .det _ => _ | .fact F => _) = _
          rw [hg, h0]; rfl
        obtain ⟨r1, r2⟩ := WalkX_spec vs l (k + 1) hl' (by rw [hd', hA, hH]; exact h.2.2 (vs k))
        rw [hlen]
        refine ⟨fun i oi hi hlt ho => ?_, r2⟩
        by_cases hik : i = k
        · subst hik
          rw [h0] at ho
          obtain rfl := Option.some.inj ho
          rw [hg]
          exact ⟨h.1, h.2.1⟩
        · exact r1 i oi (by omega) (by omega) ho

theorem execOp_same_yieldsX (o : Oper) (hs : ∀ cs b, o.op ≠ .select cs b) (a a' : Act) (h : ∀ t ∈ o.looksAt ops, a.tmps[t]? = a'.tmps[t]?) {w : World} {F : Value → World → Prop} : YieldsX X P a.eval o w F = YieldsX X P a'.eval o w F := by
  unfold YieldsX
  rw [execOp_same o hs a a' h]

theorem wpAny_factsX {m : Nat} (hR : ∀ a b c, R a b → R b c → R a c) (hB : factsB ops m = true) (hT : tailB ops m = true) {ks : List Take} {a0 : Act} {Q' : Exit → Act → World → Prop} (hX : ∀ a, a.defers = a0.defers → ∀ c w, X c w → Q' (.panic c) a w)
    (hst : ∀ i o, i < m → ops[i]? = some o → ∀ v w w', (ks.getD i (.det undef)).says v w → R w w' → (ks.getD i (.det undef)).says v w')
    (how : ∀ vs i o, i < m → ops[i]? = some o → OwesX X P ops R w0 o (lexA ops ks vs a0 i) (lexH ops ks vs i) (ks.getD i (.det undef)).says)
    (hQ : ∀ vs w, R w0 w → (∀ p ∈ lexH ops ks vs m, p.2 w) → wpList P ops Q' (ops.toList.drop m) (lexA ops ks vs a0 m) w) :
    ∀ (n : Nat) (listed : Array Bool) (U : List Nat) (a : Act) (w : World) (vs : Nat → Value), listed.size = ops.size → U.length = n → U.Nodup → (∀ i, i ∈ U ↔ i < m ∧ listed.getD i true = false) →
      OnWay P ops m R w0 ks a0 listed a w vs → wpAny P .any ops Q' (n + (ops.size - m)) listed a w := by
  have hms := factsB_le hB
  have conv : ∀ (listed : Array Bool) (j : Nat), listed.size = ops.size → j < ops.size → listed.getD j false = listed.getD j true := fun listed j hls hj => by
    have : j < listed.size := by omega
    simp [this]
  intro n
  induction n with
  | zero =>
    intro listed U a w vs hls hlen hnd hU hway
    obtain rfl := List.length_eq_zero_iff.1 hlen
    have all : ∀ i, i < m → listed.getD i true = true := fun i hi => by
      cases hf : listed.getD i true with
      | true => rfl
      | false => have := (hU i).2 ⟨hi, hf⟩; cases this
    have ea : a = lexA ops ks vs a0 m := by
      refine act_ext (fun t => ?_) (by rw [hway.defers, lexA_defers])
      by_cases hex : ∃ (i : Nat) (o : Oper), i < m ∧ ops[i]? = some o ∧ o.dst = some t
      · obtain ⟨i, o, him, hi, hd⟩ := hex
        have hl := all i him
        rw [hway.done i o t him hi hd hl, lexA_some hB (j := i) (by rw [hi]; exact hd) him (Nat.le_refl _), Take.val_of (hway.facts i him hl)]
      · rw [hway.other t fun i o him hi hd => absurd ⟨i, o, him, hi, hd⟩ hex, lexA_none]
        intro j hj e
        obtain ⟨o, ho, hd⟩ := Option.bind_eq_some_iff.1 e
        exact hex ⟨j, o, hj, ho, hd⟩
    rw [Nat.zero_add]
    refine wpAny_tail hT _ m listed a w (Nat.le_refl _) (by omega) hls (fun j hj => ?_) hway.closed ?_
    · by_cases hjm : j < m
      · rw [all j hjm]; simp [hjm]
      · rw [hway.fresh j (by omega) hj]; simp [hjm]
    · rw [ea]
      refine hQ vs w hway.world fun p hp => ?_
      obtain ⟨j, hj, _, hs⟩ := lexH_mem hp
      exact hs w (hway.facts j hj (all j hj))
  | succ n ih =>
    intro listed U a w vs hls hlen hnd hU hway
    rw [show n + 1 + (ops.size - m) = n + (ops.size - m) + 1 from by omega]
    have some1 : Region.ready .any ops listed ≠ [] := fun hr => by
      have all : ∀ n i, i < n → i < m → listed.getD i true = true := by
        intro n
        induction n with
        | zero => intro i hi; omega
        | succ n ih' =>
          intro i hi hlt
          cases hf : listed.getD i true with
          | true => rfl
          | false =>
            exfalso
            have hoi : ops[i]? = some ops[i] := Array.getElem?_eq_getElem (by omega)
            have hm : i ∈ Region.ready .any ops listed := by
              rw [mem_ready]
              refine ⟨hf, _, hoi, fun e he hb => ?_⟩
              have hlt' := (factsB_one hB hlt hoi).2 e he hb
              rw [conv listed e.on hls (by omega)]
              exact ih' e.on (by omega) (by omega)
            rw [hr] at hm
            cases hm
      cases U with
      | nil => simp at hlen
      | cons x xs =>
        have := (hU x).1 List.mem_cons_self
        rw [all (x + 1) x (by omega) this.1] at this
        cases this.2
    refine ⟨fun hr => absurd hr some1, fun i hi => ?_⟩
    obtain ⟨h0, o, ho, hall⟩ := mem_ready.1 hi
    have hlt : i < ops.size := (Array.getElem?_eq_some_iff.1 ho).1
    have him : i < m := by
      rcases Nat.lt_or_ge i m with h | h
      · exact h
      · exfalso
        cases U with
        | nil => simp at hlen
        | cons x xs =>
          have hx := (hU x).1 List.mem_cons_self
          have := reachB_spec hway.closed 8 i x o ho hall ((tailB_spec hT ho h).2 x (by omega))
          rw [conv listed x hls (by omega), hx.2] at this
          cases this
    have hil : i < listed.size := by omega
    have hself : (listed.setIfInBounds i true).getD i true = true := by simp [hil]
    have hoth : ∀ j, j ≠ i → (listed.setIfInBounds i true).getD j true = listed.getD j true := fun j hj => getD_set_ne true (Ne.symm hj)
    have look : ∀ t ∈ o.looksAt ops, a.tmps[t]? = (lexA ops ks vs a0 i).tmps[t]? := fun t ht => by
      by_cases hex : ∃ (j : Nat) (p : Oper), j < m ∧ ops[j]? = some p ∧ p.dst = some t
      · obtain ⟨j, p, hjm, hj, hd⟩ := hex
        rcases (factsB_pair hB him hjm ho hj hd).2 ht with ⟨hji, e, he, heq, hb⟩ | ⟨hij, e, he, heq, hb⟩
        · have hlj : listed.getD j true = true := by
            have h1 := hall e he hb
            rw [heq, conv listed j hls (by omega)] at h1
            exact h1
          rw [hway.done j p t hjm hj hd hlj, lexA_some hB (j := j) (by rw [hj]; exact hd) hji (by omega), Take.val_of (hway.facts j hjm hlj)]
        · have hnl : listed.getD j true = false := by
            cases hf : listed.getD j true with
            | false => rfl
            | true =>
              have := hway.closed j p hj (by rw [conv listed j hls (by omega)]; exact hf) e he hb
              rw [heq, conv listed i hls hlt, h0] at this
              cases this
          rw [hway.other t fun k ok hkm hk hdk => by
              have := (factsB_pair hB hkm hjm hk hj hd).1 hdk
              subst this
              exact hnl, lexA_none]
          intro k hk e'
          obtain ⟨ok, hok, hdk⟩ := Option.bind_eq_some_iff.1 e'
          have := (factsB_pair hB (by omega) hjm hok hj hd).1 hdk
          omega
      · rw [hway.other t fun i o him hi hd => absurd ⟨i, o, him, hi, hd⟩ hex, lexA_none]
        intro j hj e
        obtain ⟨o, ho, hd⟩ := Option.bind_eq_some_iff.1 e
        exact hex ⟨j, o, by omega, ho, hd⟩
    have go : ∀ v w', (ks.getD i (.det undef)).says v w' → R w w' ∨ w' = w → wpAny P .any ops Q' (n + (ops.size - m)) (listed.setIfInBounds i true) (a.put o.dst v) w' := by
      intro v w' hv hww
      have hst' : ∀ j oj, j < m → ops[j]? = some oj → ∀ v, (ks.getD j (.det undef)).says v w → (ks.getD j (.det undef)).says v w' := fun j oj hjm hj v hs => by
        rcases hww with hww | rfl
        · exact hst j oj hjm hj v w w' hs hww
        · exact hs
      refine ih (listed.setIfInBounds i true) (U.erase i) _ w' (fun j => if j = i then v else vs j) (by simpa using hls) ?_ (hnd.erase i) (fun j => ?_) ?_
      · rw [List.length_erase_of_mem ((hU i).2 ⟨him, h0⟩), hlen]; rfl
      · rw [hnd.mem_erase_iff, hU j]
        by_cases hji : j = i
        · subst hji; simp [hil]
        · rw [hoth j hji]; simp [hji]
      · refine ⟨?_, by rw [put_defers']; exact hway.defers, fun j hj hl => ?_, fun j p t hjm hj hd hl => ?_, fun t ht => ?_, fun j p hj hl e he hb => ?_, fun j hj hjs => ?_⟩
        · rcases hww with hww | rfl
          · exact hR _ _ _ hway.world hww
          · exact hway.world
        · by_cases hji : j = i
          · subst hji; simpa using hv
          · rw [hoth j hji] at hl
            simp only [if_neg hji]
            exact hst' j _ hj (Array.getElem?_eq_getElem (by omega)) _ (hway.facts j hj hl)
        · by_cases hji : j = i
          · subst hji
            rw [ho] at hj
            obtain rfl := Option.some.inj hj
            rw [hd, put_tmps_eq, hway.other t fun k ok hkm hk hdk => by
              have := (factsB_pair hB hkm him hk ho hd).1 hdk
              subst this
              exact h0]
            simp
          · rw [hoth j hji] at hl
            rw [put_tmps_ne _ _ _ (fun e => hji ((factsB_pair hB him hjm ho hj hd).1 e).symm), hway.done j p t hjm hj hd hl]
            simp [hji]
        · rw [put_tmps_ne _ _ _ (fun e => by
            have := ht i o him ho e
            rw [hself] at this
            cases this)]
          refine hway.other t fun k ok hkm hk hdk => ?_
          have := ht k ok hkm hk hdk
          by_cases hki : k = i
          · subst hki; exact h0
          · rwa [hoth k hki] at this
        · by_cases hji : j = i
          · subst hji
            rw [ho] at hj
            obtain rfl := Option.some.inj hj
            exact getD_set_true (hall e he hb)
          · rw [getD_set_ne false (Ne.symm hji)] at hl
            exact getD_set_true (hway.closed j p hj hl e he hb)
        · rw [hoth j (by omega)]
          exact hway.fresh j hj hjs
    have ow := how vs i o him ho w hway.world (fun p hp ⟨t, hpt, ht⟩ => by
      obtain ⟨j, hj, hpd, hs⟩ := lexH_mem hp
      rw [hpt] at hpd
      obtain ⟨p', hp', hd'⟩ := Option.bind_eq_some_iff.1 hpd.symm
      rcases (factsB_pair hB him (by omega) ho hp' hd').2 ht with ⟨_, e, he, heq, hb⟩ | ⟨hij, _⟩
      · have h1 := hall e he hb
        rw [heq, conv listed j hls (by omega)] at h1
        exact hs w (hway.facts j (by omega) h1)
      · omega)
    unfold wpOp
    simp only [ho]
    rw [← wanted_same o a _ look, ← execOp_same_yieldsX o (factsB_one hB him ho).1 a _ look] at ow
    split
    · rename_i hw
      simp only [hw, if_true] at ow
      exact .inl (wp_of_yieldsX ow (fun v w' hv => go v w' hv.1 (.inl hv.2)) (fun c w' hx => hX a hway.defers c w' hx))
    · rename_i hw
      simp only [hw] at ow
      exact go undef w ow (.inr rfl)

/-- **A region that draws its order**: each of its first m operations owes its fact from the facts of what it looks at, in whatever world the region may have come to; behind them all facts hold at once; the others come one behind the other. -/
theorem wp_region_factsX {id : Nat} {Q' : Exit → Act → World → Prop} {a : Act} {w : World} {l : List Oper} (m : Nat) (ks : List Take) (hm : P.follows .mixedOrders = true) (hB : factsB l.toArray m = true) (hT : tailB l.toArray m = true)
    (hR : ∀ a b c, R a b → R b c → R a c) (h0 : R w0 w.drew) (hX : ∀ a', a'.defers = a.defers → ∀ c w, X c w → Q' (.panic c) a' w)
    (h : WalkX X P l.toArray R w0 (fun a' w' => wpList P l.toArray Q' (l.drop m) a' w') (l.take m) ks a []) : (Code.region id l.toArray true).wp P Q' a w := by
  have hms := factsB_le hB
  simp only [List.size_toArray] at hms
  refine wp_region_any hm ?_
  have sp := fun vs => WalkX_spec (X := X) (P := P) (ops := l.toArray) (R := R) (w0 := w0) (Q := fun a' w' => wpList P l.toArray Q' (l.drop m) a' w') (ks := ks) (a0 := a) vs (l.take m) 0 (fun j hj => by
    have hj' : j < m := by simp at hj; omega
    simp [List.getElem?_take, hj']) (by simpa [lexA, lexH] using h)
  have hlen : (l.take m).length = m := by simp; omega
  rw [show l.toArray.size = m + (l.toArray.size - m) from by simp; omega]
  refine wpAny_factsX (X := X) (P := P) (ops := l.toArray) (R := R) (w0 := w0) (ks := ks) (a0 := a) (m := m) hR hB hT hX ?_ ?_ ?_ m _ (List.range m) a _ (fun _ => undef) (by simp; omega) (by simp) List.nodup_range ?_ ?_
  · exact fun i o him hi => ((sp fun _ => undef).1 i o (Nat.zero_le _) (by omega) hi).1
  · exact fun vs i o him hi => ((sp vs).1 i o (Nat.zero_le _) (by omega) hi).2
  · intro vs w' hw' hp
    have := (sp vs).2 w' hw' (by rw [hlen]; simpa using hp)
    rw [hlen] at this
    simpa using this
  · intro i
    simp only [List.mem_range]
    constructor
    · intro h
      have : i < m + (l.length - m) := by omega
      exact ⟨h, by simp [this]⟩
    · exact fun h => h.1
  · refine ⟨h0, rfl, fun i hi hl => ?_, fun i o t him hi hd hl => ?_, fun t _ => rfl, fun i o hi hl => ?_, fun i hi his => ?_⟩
    · have : i < m + (l.length - m) := by omega
      simp [this] at hl
    · have : i < m + (l.length - m) := by omega
      simp [this] at hl
    · have hil : i < l.length := by simpa using (Array.getElem?_eq_some_iff.1 hi).1
      have : i < m + (l.length - m) := by omega
      simp [this] at hl
    · have hil : i < l.length := by simpa using his
      have : i < m + (l.length - m) := by omega
      simp [this]
/-- One operation without a guard; d: where its value goes; L: what it looks at. -/
theorem stepX_det {o : Oper} {l : List Oper} {ks : List Take} {a : Act} {H : List (Option Tmp × (World → Prop))} {d : Option Tmp} {L : List Tmp} (v0 : Value) (hd : o.dst = d) (hg : o.guard = none) (hL : looksOf o = L)
    (h : ∀ w, R w0 w → (∀ p ∈ H, (∃ t, p.1 = some t ∧ t ∈ L) → p.2 w) → YieldsX X P a.eval o w (fun v w' => v = v0 ∧ R w w')) (hk : WalkX X P ops R w0 Q l ks (a.put d v0) H) : WalkX X P ops R w0 Q (o :: l) (.det v0 :: ks) a H := by
  subst hd hL
  refine WalkX_det v0 (fun w hw hH => ?_) hk
  have : Region.wanted o (yielded ops a.tmps) = true := by unfold Region.wanted; rw [hg]
  rw [if_pos this]
  exact h w hw fun p hp ⟨t, ht, hm⟩ => hH p hp ⟨t, ht, List.mem_append_left _ hm⟩
theorem stepX_fact {o : Oper} {l : List Oper} {ks : List Take} {a : Act} {H : List (Option Tmp × (World → Prop))} {d : Option Tmp} {L : List Tmp} (F : Value → World → Prop) (hs : ∀ v w w', F v w → R w w' → F v w') (hd : o.dst = d) (hg : o.guard = none) (hL : looksOf o = L)
    (h : ∀ w, R w0 w → (∀ p ∈ H, (∃ t, p.1 = some t ∧ t ∈ L) → p.2 w) → YieldsX X P a.eval o w (fun v w' => F v w' ∧ R w w')) (hk : ∀ v, WalkX X P ops R w0 Q l ks (a.put d v) ((d, F v) :: H)) : WalkX X P ops R w0 Q (o :: l) (.fact F :: ks) a H := by
  subst hd hL
  refine WalkX_fact F hs (fun w hw hH => ?_) hk
  have : Region.wanted o (yielded ops a.tmps) = true := by unfold Region.wanted; rw [hg]
  rw [if_pos this]
  exact h w hw fun p hp ⟨t, ht, hm⟩ => hH p hp ⟨t, ht, List.mem_append_left _ hm⟩
/-- One operation whose guard is decided: it runs. -/
theorem stepX_on {o : Oper} {l : List Oper} {ks : List Take} {a : Act} {H : List (Option Tmp × (World → Prop))} {d : Option Tmp} {L : List Tmp} (v0 : Value) (hw : Region.wanted o (yielded ops a.tmps) = true) (hd : o.dst = d) (hL : looksOf o = L)
    (h : ∀ w, R w0 w → (∀ p ∈ H, (∃ t, p.1 = some t ∧ t ∈ L) → p.2 w) → YieldsX X P a.eval o w (fun v w' => v = v0 ∧ R w w')) (hk : WalkX X P ops R w0 Q l ks (a.put d v0) H) : WalkX X P ops R w0 Q (o :: l) (.det v0 :: ks) a H := by
  subst hd hL
  refine WalkX_det v0 (fun w hw' hH => ?_) hk
  rw [if_pos hw]
  exact h w hw' fun p hp ⟨t, ht, hm⟩ => hH p hp ⟨t, ht, List.mem_append_left _ hm⟩
/-- One operation whose guard is decided: it does not run. -/
theorem stepX_off {o : Oper} {l : List Oper} {ks : List Take} {a : Act} {H : List (Option Tmp × (World → Prop))} {d : Option Tmp} (hw : Region.wanted o (yielded ops a.tmps) = false) (hd : o.dst = d)
    (hk : WalkX X P ops R w0 Q l ks (a.put d undef) H) : WalkX X P ops R w0 Q (o :: l) (.det undef :: ks) a H := by
  subst hd
  refine WalkX_det undef (fun w _ _ => ?_) hk
  rw [if_neg (by rw [hw]; exact Bool.false_ne_true)]
/-- A copy. -/
theorem stepX_move {o : Oper} {l : List Oper} {ks : List Take} {a : Act} {H : List (Option Tmp × (World → Prop))} {d : Option Tmp} {x : Operand} {v0 : Value} (hR0 : ∀ w, R w w) (hd : o.dst = d) (hg : o.guard = none) (ho : o.op = .move x ∨ o.op = .assign x)
    (hv : a.eval x = v0) (hk : WalkX X P ops R w0 Q l ks (a.put d v0) H) : WalkX X P ops R w0 Q (o :: l) (.det v0 :: ks) a H := by
  refine stepX_det v0 hd hg rfl (fun w hw _ => ?_) hk
  unfold YieldsX
  rcases ho with ho | ho
  · rw [BigFrame.run_move x ho]; exact ⟨hv, hR0 _⟩
  · rw [BigFrame.run_assign x ho]; exact ⟨hv, hR0 _⟩
/-- A call: its contract. -/
theorem yieldsX_call {ρ : Operand → Value} {o : Oper} {w : World} {F : Value → World → Prop} {f : FuncId} {args : Array Value} (he : ∀ w, (execOp ρ o).run P w = .ok (.enter f args) w)
    (h : Calls P f args w fun e w'' => ∃ u, e = .returned u ∧ F u w'') : YieldsX X P ρ o w F := by
  unfold YieldsX; rw [he]; exact Calls.mono h fun e w'' hh => .inl hh
end
end Go.Proofs.YtcccnicldbpieaaGreatDoor
