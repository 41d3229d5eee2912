/- KeySums, the plain law: a sum's kind is the same in either order; a constant put on and taken away leaves a constant's, a parameter's kind. -/
import Derived.Test.YthofccoefiogiaaOf
namespace Go.Proofs.Ythofccoefiogiaa
open Go Go.RowKit
set_option linter.unusedVariables false
set_option linter.unusedSimpArgs false
def KindG (k : KindD) : Prop := (k.1 = 1 → k.2.2 = 0) ∧ -9223372036854775808 ≤ k.2.1 ∧ k.2.1 ≤ 9223372036854775807
theorem wrap64_in (x : Int) : -9223372036854775808 ≤ wrap64 x ∧ wrap64 x ≤ 9223372036854775807 := by
  unfold wrap64
  omega
theorem wrap64_self (x : Int) (h : -9223372036854775808 ≤ x ∧ x ≤ 9223372036854775807) : wrap64 x = x := by
  unfold wrap64
  omega
theorem wrap64_back (x n : Int) (h : -9223372036854775808 ≤ x ∧ x ≤ 9223372036854775807) : wrap64 (wrap64 (x + n) - n) = x := by
  unfold wrap64
  omega
theorem doN_in (kind x y : Int) : -9223372036854775808 ≤ doN kind x y ∧ doN kind x y ≤ 9223372036854775807 := by
  unfold doN
  split
  · exact wrap64_in _
  · split <;> exact wrap64_in _
theorem G_top : KindG (3, 0, 0) := ⟨(fun h => by cases h), by decide, by decide⟩
theorem G_plain (k : KindD) (h : -9223372036854775808 ≤ k.2.1 ∧ k.2.1 ≤ 9223372036854775807) : KindG (plainN k) := by
  obtain ⟨s, n, p⟩ := k
  rw [plainN_eq]
  split
  · rename_i h1
    refine ⟨fun e => ?_, h⟩
    simp only at e
    subst e
    rcases h1 with ⟨h2, _⟩ | ⟨_, h2⟩ | ⟨h2, _⟩
    · cases h2
    · exact h2
    · cases h2
  · exact G_top
theorem G_neg (k : KindD) (h : KindG k) : KindG (negN k) := by
  unfold negN
  split
  · exact h
  · split
    · exact ⟨fun _ => rfl, wrap64_in _⟩
    · exact G_top
theorem G_pair (kind : Int) (a b : KindD) (h : KindG a) (h' : KindG b) : KindG (pairN kind a b) := by
  unfold pairN
  split
  · exact ⟨(fun h => by cases h), by decide, by decide⟩
  · split
    · exact ⟨fun _ => rfl, doN_in _ _ _⟩
    · split
      · exact ⟨fun h => (by cases h), doN_in _ _ _⟩
      · split
        · exact ⟨fun h => (by cases h), doN_in _ _ _⟩
        · exact G_top
theorem step_sync (zs : List Int) (ps : List KindD) (hz : zs.length = ps.length) (t : TermD) (ht : t.ok) (hp : ∀ k ∈ ps, -9223372036854775808 ≤ k.2.1 ∧ k.2.1 ≤ 9223372036854775807) (s s1 : List Int) (h : stepN zs t s = some s1)
    (T : List KindD) (hT : T.length = s.length) (hG : ∀ k ∈ T, KindG k) : ∃ T1 : List KindD, T1.length = s1.length ∧ (∀ k ∈ T1, KindG k) ∧ ∀ r, stepK ps t (T ++ r) = some (T1 ++ r) := by
  unfold stepN at h
  unfold stepK
  split at h
  · rename_i h1
    cases h
    refine ⟨(1, t.2.1, 0) :: T, by simp [hT], ?_, fun r => by rw [if_pos h1]; rfl⟩
    intro k hk
    rcases List.mem_cons.1 hk with rfl | hk
    · exact ⟨fun _ => rfl, ht.2.1⟩
    · exact hG k hk
  rename_i h1
  split at h
  · rename_i h2
    split at h
    · rename_i h3
      cases h
      have h3' : 0 ≤ t.2.2 ∧ t.2.2 < (ps.length : Int) := by rw [← hz]; exact h3
      refine ⟨plainN (ps.getD t.2.2.toNat (0, 0, 0)) :: T, by simp [hT], ?_, fun r => by rw [if_neg h1, if_pos h2, if_pos h3']; rfl⟩
      intro k hk
      rcases List.mem_cons.1 hk with rfl | hk
      · have hlt : t.2.2.toNat < ps.length := by omega
        have e : ps.getD t.2.2.toNat (0, 0, 0) = ps[t.2.2.toNat] := by simp [List.getD, hlt]
        rw [e]
        exact G_plain _ (hp _ (List.getElem_mem hlt))
      · exact hG k hk
    · cases h
  rename_i h2
  have two : t.1 = 3 ∨ t.1 = 4 ∨ t.1 = 5 → ∀ (y x : Int) (q : List Int), s = y :: x :: q → s1.length = q.length + 1 → ∃ T1 : List KindD, T1.length = s1.length ∧ (∀ k ∈ T1, KindG k) ∧ ∀ r, (if t.1 = 1 then some ((1, t.2.1, 0) :: (T ++ r)) else if t.1 = 2 then (if 0 ≤ t.2.2 ∧ t.2.2 < (ps.length : Int) then some (plainN (ps.getD t.2.2.toNat (0, 0, 0)) :: (T ++ r)) else some ((3, 0, 0) :: (T ++ r)))
      else if t.1 = 6 then (match (T ++ r) with | y :: r => some (negN y :: r) | _ => none)
      else if t.1 = 3 ∨ t.1 = 4 ∨ t.1 = 5 then (match (T ++ r) with | y :: x :: r => some (pairN t.1 x y :: r) | _ => none) else none) = some (T1 ++ r) := by
    intro hk y x q hs hl
    subst hs
    match T, hT, hG with
    | ky :: kx :: T0, hT, hG =>
      refine ⟨pairN t.1 kx ky :: T0, by simp at hT ⊢; omega, ?_, fun r => by rw [if_neg h1, if_neg h2, if_neg (by omega), if_pos hk]; rfl⟩
      intro k hk'
      rcases List.mem_cons.1 hk' with rfl | hk'
      · exact G_pair _ _ _ (hG _ (by simp)) (hG _ (by simp))
      · exact hG k (by simp [hk'])
  split at h
  · rename_i h3
    match s, h, hT, two with
    | y :: x :: q, h, hT, two => cases h; exact two (.inl h3) y x q rfl rfl
  split at h
  · rename_i _ h4
    match s, h, hT, two with
    | y :: x :: q, h, hT, two => cases h; exact two (.inr (.inl h4)) y x q rfl rfl
  split at h
  · rename_i _ _ h5
    match s, h, hT, two with
    | y :: x :: q, h, hT, two => cases h; exact two (.inr (.inr h5)) y x q rfl rfl
  split at h
  · rename_i h6
    match s, h, hT with
    | y :: q, h, hT =>
      cases h
      match T, hT, hG with
      | ky :: T0, hT, hG =>
        refine ⟨negN ky :: T0, by simp at hT ⊢; omega, ?_, fun r => by rw [if_neg h1, if_neg h2, if_pos h6]; rfl⟩
        intro k hk'
        rcases List.mem_cons.1 hk' with rfl | hk'
        · exact G_neg _ (hG _ (by simp))
        · exact hG k (by simp [hk'])
  · cases h
theorem sync (zs : List Int) (ps : List KindD) (hz : zs.length = ps.length) (hp : ∀ k ∈ ps, -9223372036854775808 ≤ k.2.1 ∧ k.2.1 ≤ 9223372036854775807) (l : List TermD) : (∀ t ∈ l, t.ok) → ∀ (s s1 : List Int), evalN zs l s = some s1 →
    ∀ T : List KindD, T.length = s.length → (∀ k ∈ T, KindG k) → ∃ T1 : List KindD, T1.length = s1.length ∧ (∀ k ∈ T1, KindG k) ∧ ∀ r, ofS ps l (T ++ r) = some (T1 ++ r) := by
  induction l with
  | nil => intro _ s s1 h T hT hG; cases h; exact ⟨T, hT, hG, fun r => rfl⟩
  | cons t l ih =>
    intro hok s s1 h T hT hG
    unfold evalN at h
    obtain ⟨s2, h2, h3⟩ := Option.bind_eq_some_iff.1 h
    obtain ⟨T2, a1, a2, a3⟩ := step_sync zs ps hz t (hok t (by simp)) hp s s2 h2 T hT hG
    obtain ⟨T1, b1, b2, b3⟩ := ih (fun t' h' => hok t' (by simp [h'])) s2 s1 h3 T2 a1 a2
    refine ⟨T1, b1, b2, fun r => ?_⟩
    unfold ofS
    rw [a3 r]
    exact b3 r
theorem right_kind (ps : List KindD) (hp : ∀ k ∈ ps, -9223372036854775808 ≤ k.2.1 ∧ k.2.1 ≤ 9223372036854775807) (a : List TermD) (x : Int) (hok : ∀ t ∈ a, t.ok) (h : evalR (List.replicate ps.length 0) a = (x, true)) :
    ∃ k : KindD, KindG k ∧ ∀ r, ofS ps a r = some (k :: r) := by
  have h1 : ∃ z, evalN (List.replicate ps.length 0) a [] = some [z] := by
    unfold evalR at h
    split at h
    · rename_i z hz; exact ⟨z, hz⟩
    · cases h
  obtain ⟨z, hz⟩ := h1
  obtain ⟨T1, b1, b2, b3⟩ := sync _ ps (by simp) hp a hok [] [z] hz [] rfl (by simp)
  match T1, b1, b2, b3 with
  | [k], _, b2, b3 => exact ⟨k, b2 k (by simp), fun r => b3 r⟩
theorem pair_comm (a b : KindD) : pairN 3 a b = pairN 3 b a := by
  obtain ⟨sa, na, pa⟩ := a
  obtain ⟨sb, nb, pb⟩ := b
  rw [pairN_eq, pairN_eq]
  have e : doN 3 na nb = doN 3 nb na := by unfold doN; rw [if_pos rfl, if_pos rfl, Int.add_comm]
  rw [e]
  by_cases h1 : sa = 0 ∨ sb = 0
  · rw [if_pos h1, if_pos (show sb = 0 ∨ sa = 0 by omega)]
  rw [if_neg h1, if_neg (show ¬ (sb = 0 ∨ sa = 0) by omega)]
  by_cases h2 : sa = 1 ∧ sb = 1
  · rw [if_pos h2, if_pos (show sb = 1 ∧ sa = 1 by omega)]
  rw [if_neg h2, if_neg (show ¬ (sb = 1 ∧ sa = 1) by omega)]
  by_cases h3 : sa = 2 ∧ sb = 1
  · rw [if_pos (show (3 : Int) ≠ 5 ∧ sa = 2 ∧ sb = 1 from ⟨by decide, h3⟩), if_neg (show ¬ ((3 : Int) ≠ 5 ∧ sb = 2 ∧ sa = 1) by omega), if_pos (show (3 : Int) = 3 ∧ sb = 1 ∧ sa = 2 by omega)]
  rw [if_neg (show ¬ ((3 : Int) ≠ 5 ∧ sa = 2 ∧ sb = 1) by omega)]
  by_cases h4 : sa = 1 ∧ sb = 2
  · rw [if_pos (show (3 : Int) = 3 ∧ sa = 1 ∧ sb = 2 from ⟨rfl, h4⟩), if_pos (show (3 : Int) ≠ 5 ∧ sb = 2 ∧ sa = 1 from ⟨by decide, h4.2, h4.1⟩)]
  · rw [if_neg (show ¬ ((3 : Int) = 3 ∧ sa = 1 ∧ sb = 2) by omega), if_neg (show ¬ ((3 : Int) ≠ 5 ∧ sb = 2 ∧ sa = 1) by omega), if_neg (show ¬ ((3 : Int) = 3 ∧ sb = 1 ∧ sa = 2) by omega)]
theorem ofR_of {ps : List KindD} {l : List TermD} {k : KindD} (h : ofS ps l [] = some [k]) : ofR ps l = k := by unfold ofR; rw [h]
theorem sum_kind (ps : List KindD) (a b : List TermD) (ka kb : KindD) (ha : ∀ r, ofS ps a r = some (ka :: r)) (hb : ∀ r, ofS ps b r = some (kb :: r)) : ofR ps (a ++ b ++ [(3, 0, 0)]) = pairN 3 ka kb := by
  apply ofR_of
  rw [ofS_append, ofS_append, ha]
  simp only [Option.bind_some]
  rw [hb]
  rfl
theorem back_kind (ps : List KindD) (a : List TermD) (n : Int) (ka : KindD) (ha : ∀ r, ofS ps a r = some (ka :: r)) : ofR ps (a ++ [(1, n, 0), (3, 0, 0), (1, n, 0), (4, 0, 0)]) = pairN 4 (pairN 3 ka (1, n, 0)) (1, n, 0) := by
  apply ofR_of
  rw [ofS_append, ha]
  rfl
theorem back_law (k : KindD) (n : Int) (hk : KindG k) (h : k.1 = 1 ∨ k.1 = 2) : pairN 4 (pairN 3 k (1, n, 0)) (1, n, 0) = k := by
  obtain ⟨s, m, p⟩ := k
  obtain ⟨h0, h1⟩ := hk
  simp only at h h0 h1
  rcases h with rfl | rfl
  · have := h0 rfl
    subst this
    show ((1, doN 4 (doN 3 m n) n, 0) : KindD) = _
    have : doN 4 (doN 3 m n) n = m := wrap64_back m n h1
    rw [this]
  · show ((2, doN 4 (doN 3 m n) n, p) : KindD) = _
    have : doN 4 (doN 3 m n) n = m := wrap64_back m n h1
    rw [this]
end Go.Proofs.Ythofccoefiogiaa
