/- PiecesCover: the plain law of units, and the walk. No condition. -/
import Derived.Test.YtngbpaiohfokbaaWork10
namespace Go.Proofs.Ytngbpaiohfokbaa
open Go Go.RowKit
set_option linter.unusedVariables false
set_option linter.unusedSimpArgs false
/-- Units, one behind the other, from a to b. -/
def chainU : Nat → List (Nat × Nat) → Nat → Prop
  | a, [], b => a = b
  | a, u :: l, b => u.1 = a ∧ a < u.2 ∧ chainU u.2 l b
theorem chainU_snoc (l : List (Nat × Nat)) : ∀ (a b c : Nat), chainU a l b → b < c → chainU a (l ++ [(b, c)]) c := by
  induction l with
  | nil => intro a b c h hc; cases h; exact ⟨rfl, hc, rfl⟩
  | cons u l ih => intro a b c h hc; exact ⟨h.1, h.2.1, ih _ _ _ h.2.2 hc⟩
theorem chainU_le (l : List (Nat × Nat)) : ∀ (a b : Nat), chainU a l b → a ≤ b := by
  induction l with
  | nil => intro a b h; cases h; exact Nat.le_refl _
  | cons u l ih => intro a b h; have := ih _ _ h.2.2; have := h.2.1; omega
def endU (us : List (Nat × Nat)) : Nat → Nat
  | 0 => 0
  | i + 1 => (us.getD i (0, 0)).2
theorem chainU_at (l : List (Nat × Nat)) : ∀ (a b : Nat), chainU a l b → ∀ (i : Nat) (h : i < l.length), a ≤ l[i].1 ∧ l[i].1 < l[i].2 ∧ l[i].2 ≤ b ∧ (l[i].1 = if i = 0 then a else (l.getD (i - 1) (0, 0)).2) ∧ (i + 1 = l.length → l[i].2 = b) ∧ ∀ (j : Nat) (k : Int), (l[i].1 : Int) ≤ k → k < (l[i].2 : Int) → ofA k l j = ((j + i : Nat) : Int) := by
  induction l with
  | nil => intro a b _ i h; simp at h
  | cons u l ih =>
    intro a b hc i h
    obtain ⟨h1, h2, h3⟩ := hc
    have hle := chainU_le l _ _ h3
    cases i with
    | zero =>
      refine ⟨by simp [h1], by simp; omega, by simpa using hle, by simp [h1], fun e => ?_, fun j k hk1 hk2 => ?_⟩
      · have : l = [] := List.eq_nil_of_length_eq_zero (by simpa using e.symm)
        subst this
        cases h3
        rfl
      · simp only [List.getElem_cons_zero] at hk1 hk2
        unfold ofA
        rw [if_pos (by unfold inU; simp [hk1, hk2])]
        simp
    | succ i =>
      have hi : i < l.length := by simpa using h
      obtain ⟨g1, g2, g3, g4, g5, g6⟩ := ih _ _ h3 i hi
      simp only [List.getElem_cons_succ]
      refine ⟨by omega, g2, g3, ?_, fun e => g5 (by simp at e; omega), fun j k hk1 hk2 => ?_⟩
      · rw [if_neg (by omega), g4]
        cases i with
        | zero => simp
        | succ i => simp
      · unfold ofA
        rw [if_neg (by unfold inU; simp; omega), g6 (j + 1) k hk1 hk2]
        congr 1
        omega
theorem stU_chain (ps : List Nat) (hp : ps.Pairwise (· < ·)) : chainU 0 (stU ps).1 (stU ps).2 := by
  have key : ∀ (l : List Nat) (s : List (Nat × Nat) × Nat), chainU 0 s.1 s.2 → (∀ p ∈ l, s.2 ≤ p) → l.Pairwise (· < ·) → chainU 0 (l.foldl (fun s i => (s.1 ++ [(s.2, i + 1)], i + 1)) s).1 (l.foldl (fun s i => (s.1 ++ [(s.2, i + 1)], i + 1)) s).2 := by
    intro l
    induction l with
    | nil => intro s hs _ _; exact hs
    | cons p l ih =>
      intro s hs hl hpw
      rw [List.foldl_cons]
      refine ih _ (chainU_snoc _ _ _ _ hs (by have := hl p (by simp); omega)) (fun q hq => ?_) (List.pairwise_cons.1 hpw).2
      have := (List.pairwise_cons.1 hpw).1 q hq
      simp only; omega
  exact key ps ([], 0) rfl (fun p _ => Nat.zero_le _) hp
theorem stU_piece (ops : List Int) (ps : List Nat) (hp : ∀ p ∈ ps, ops.getD p 0 = 15) : ∀ u ∈ (stU ps).1, ops.getD (u.2 - 1) 0 = 15 := by
  have key : ∀ (l : List Nat) (s : List (Nat × Nat) × Nat), (∀ u ∈ s.1, ops.getD (u.2 - 1) 0 = 15) → (∀ p ∈ l, ops.getD p 0 = 15) → ∀ u ∈ (l.foldl (fun s i => (s.1 ++ [(s.2, i + 1)], i + 1)) s).1, ops.getD (u.2 - 1) 0 = 15 := by
    intro l
    induction l with
    | nil => intro s hs _; exact hs
    | cons p l ih =>
      intro s hs hl
      rw [List.foldl_cons]
      refine ih _ (fun u hu => ?_) (fun q hq => hl q (by simp [hq]))
      rcases List.mem_append.1 hu with h | h
      · exact hs u h
      · have := List.mem_singleton.1 h
        subst this
        simp only [Nat.add_sub_cancel]
        exact hl p (by simp)
  exact key ps ([], 0) (by simp) hp
theorem pairsTo_op (ops : List Int) (k : Nat) (hk : k ≤ 1000) : ∀ x ∈ pairsTo ops k, ops.getD x.2.val 0 = 15 := by
  induction k with
  | zero => intro x hx; simp [pairsTo] at hx
  | succ k ih =>
    intro x hx
    unfold pairsTo at hx
    split at hx
    · rename_i h15
      rcases List.mem_append.1 hx with h | h
      · exact ih (by omega) x h
      · have := List.mem_singleton.1 h
        subst this
        show ops.getD (k % 1000) 0 = 15
        rw [Nat.mod_eq_of_lt (by omega)]; exact h15
    · exact ih (by omega) x hx
theorem stU_end (ps : List Nat) (n : Nat) (h : ∀ p ∈ ps, p < n) : (stU ps).2 ≤ n := by
  have key : ∀ (l : List Nat) (s : List (Nat × Nat) × Nat), s.2 ≤ n → (∀ p ∈ l, p < n) → (l.foldl (fun s i => (s.1 ++ [(s.2, i + 1)], i + 1)) s).2 ≤ n := by
    intro l
    induction l with
    | nil => intro s hs _; exact hs
    | cons a l ih => intro s hs hl; rw [List.foldl_cons]; exact ih _ (by have := hl a (by simp); simp only; omega) (fun p hp => hl p (by simp [hp]))
  exact key ps ([], 0) (Nat.zero_le _) h
/-- The law of units. -/
theorem units_law (ops : List Int) (way : Int) (hlen : ops.length ≤ 1000) : (unitsN ops way).length ≤ 1001 ∧ (way ≠ 1 → (unitsN ops way).length ≤ 1) ∧ endU (unitsN ops way) (unitsN ops way).length = ops.length ∧
    ∀ (i : Nat) (h : i < (unitsN ops way).length), (unitsN ops way)[i].1 = endU (unitsN ops way) i ∧ endU (unitsN ops way) (i + 1) = (unitsN ops way)[i].2 ∧ (unitsN ops way)[i].1 < (unitsN ops way)[i].2 ∧ (unitsN ops way)[i].2 ≤ ops.length ∧
      (i + 1 < (unitsN ops way).length → ops.getD ((unitsN ops way)[i].2 - 1) 0 = 15) ∧ ∀ k : Int, ((unitsN ops way)[i].1 : Int) ≤ k → k < ((unitsN ops way)[i].2 : Int) → ofA k (unitsN ops way) 0 = (i : Int) := by
  have hrise : (posOf (pairsTo ops ops.length)).Pairwise (· < ·) := by
    unfold posOf
    rw [List.pairwise_map]
    exact pairsTo_rise ops _ hlen
  have hplt : ∀ p ∈ posOf (pairsTo ops ops.length), p < ops.length := by
    intro p hp
    obtain ⟨x, hx, rfl⟩ := List.mem_map.1 hp
    exact pairsTo_lt ops _ hlen x hx
  have hpop : ∀ p ∈ posOf (pairsTo ops ops.length), ops.getD p 0 = 15 := by
    intro p hp
    obtain ⟨x, hx, rfl⟩ := List.mem_map.1 hp
    exact pairsTo_op ops _ hlen x hx
  obtain ⟨s, hs⟩ : ∃ s, (if way = 1 then stU (posOf (pairsTo ops ops.length)) else ([], 0)) = s := ⟨_, rfl⟩
  have hsc : chainU 0 s.1 s.2 := by
    rw [← hs]; split
    · exact stU_chain _ hrise
    · rfl
  have hse : s.2 ≤ ops.length := by
    rw [← hs]; split
    · exact stU_end _ _ hplt
    · exact Nat.zero_le _
  have hsp : ∀ u ∈ s.1, ops.getD (u.2 - 1) 0 = 15 := by
    rw [← hs]; split
    · exact stU_piece ops _ hpop
    · intro u hu; simp at hu
  have hsl : s.1.length ≤ ops.length := by
    rw [← hs]; split
    · rw [stU_len]; unfold posOf; rw [List.length_map]; exact pairsTo_len _ _
    · exact Nat.zero_le _
  have hs0 : way ≠ 1 → s.1 = [] := by intro h; rw [← hs, if_neg h]
  have hun : unitsN ops way = if s.2 < ops.length then s.1 ++ [(s.2, ops.length)] else s.1 := by unfold unitsN; rw [hs]
  have hch : chainU 0 (unitsN ops way) ops.length := by
    rw [hun]; split
    · exact chainU_snoc _ _ _ _ hsc (by assumption)
    · have : s.2 = ops.length := by omega
      rw [← this]; exact hsc
  have hpc : ∀ (i : Nat) (h : i < (unitsN ops way).length), i + 1 < (unitsN ops way).length → ops.getD ((unitsN ops way)[i].2 - 1) 0 = 15 := by
    intro i h h'
    have : (unitsN ops way)[i] ∈ s.1 := by
      have h2 := h'
      simp only [hun] at h2 ⊢
      split at h2
      · simp only [List.length_append, List.length_cons, List.length_nil] at h2
        rename_i hlt
        simp only [hlt, if_true]
        rw [List.getElem_append_left (by omega)]
        exact List.getElem_mem _
      · rename_i hlt
        simp only [hlt, if_false]
        exact List.getElem_mem _
    exact hsp _ this
  have hul : (unitsN ops way).length ≤ s.1.length + 1 := by
    rw [hun]; split
    · simp
    · omega
  refine ⟨by omega, fun h => by have := hs0 h; rw [this] at hul; simpa using hul, ?_, fun i h => ?_⟩
  · generalize unitsN ops way = us at *
    cases hl : us.length with
    | zero =>
      have : us = [] := List.eq_nil_of_length_eq_zero hl
      subst this
      exact hch
    | succ m =>
      have hm : m < us.length := by omega
      have := (chainU_at us 0 _ hch m hm).2.2.2.2.1 hl.symm
      show (us.getD m (0, 0)).2 = ops.length
      rw [← this]
      simp [List.getD, hm]
  · obtain ⟨g1, g2, g3, g4, g5, g6⟩ := chainU_at _ 0 _ hch i h
    refine ⟨?_, ?_, g2, g3, hpc i h, fun k h1 h2 => ?_⟩
    · rw [g4]
      cases i with
      | zero => rfl
      | succ i => rfl
    · show ((unitsN ops way).getD i (0, 0)).2 = _
      simp [List.getD, h]
    · rw [g6 0 k h1 h2]; simp
end Go.Proofs.Ytngbpaiohfokbaa
