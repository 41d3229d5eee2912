/- The plain law of trees: where the nodes beneath one end, reckoned from the back and by recursion, is the same; sizes, depths, kids. No program in sight. -/
namespace Go.Proofs.Ythofccoefiogiaa
set_option linter.unusedVariables false
set_option linter.unusedSimpArgs false
/-- The kids of a node, by a row of ends. -/
def kidsAt (len : Nat) (Z : List Nat) : List Int → Nat → Option Nat
  | [], a => some a
  | k :: r, a => if k = (a : Int) ∧ a < len then kidsAt len Z r (Z.getD a 0) else none
def endsTo (ks : List (List Int)) : Nat → Option (List Nat)
  | 0 => some (List.replicate ks.length 0)
  | j + 1 => match endsTo ks j with
    | none => none
    | some Z => match kidsAt ks.length Z (ks.getD (ks.length - 1 - j) []) (ks.length - 1 - j + 1) with
      | none => none
      | some a => some (Z.set (ks.length - 1 - j) a)
def endsN (ks : List (List Int)) : Option (List Nat) :=
  match endsTo ks ks.length with
  | none => none
  | some Z => if ks.length ≠ 0 ∧ Z.getD 0 0 = ks.length then some Z else none
def kidsR (g : Nat → Option Nat) (len : Nat) : List Int → Option Nat → Option Nat
  | [], a => a
  | _ :: _, none => none
  | k :: r, some a => if a < len ∧ k = (a : Int) then kidsR g len r (g a) else none
def endR (ks : List (List Int)) : Nat → Nat → Option Nat
  | 0, _ => none
  | f + 1, i => if i < ks.length then kidsR (endR ks f) ks.length (ks.getD i []) (some (i + 1)) else none
theorem kidsR_none (g : Nat → Option Nat) (len : Nat) (l : List Int) : kidsR g len l none = none := by cases l <;> rfl
theorem kidsR_cons (g : Nat → Option Nat) (len : Nat) (k : Int) (r : List Int) (a : Nat) : kidsR g len (k :: r) (some a) = if a < len ∧ k = (a : Int) then kidsR g len r (g a) else none := rfl
theorem kidsR_gt {g : Nat → Option Nat} {len : Nat} (hg : ∀ a e, g a = some e → a < e ∧ e ≤ len) : ∀ (l : List Int) (a0 e : Nat), a0 ≤ len → kidsR g len l (some a0) = some e → a0 ≤ e ∧ e ≤ len := by
  intro l
  induction l with
  | nil => intro a0 e h0 h; injection h with h; omega
  | cons k r ih =>
    intro a0 e h0 h
    rw [kidsR_cons] at h
    split at h
    · rename_i hc
      cases ha : g a0 with
      | none => rw [ha, kidsR_none] at h; cases h
      | some a1 =>
        rw [ha] at h
        have h1 := hg a0 a1 ha
        have h2 := ih a1 e h1.2 h
        omega
    · cases h
theorem endR_gt (ks : List (List Int)) : ∀ f i e, endR ks f i = some e → i < e ∧ e ≤ ks.length := by
  intro f
  induction f with
  | zero => intro i e h; cases h
  | succ f ih =>
    intro i e h
    unfold endR at h
    split at h
    · rename_i hi
      have := kidsR_gt ih _ _ _ (by omega) h
      omega
    · cases h
theorem kidsR_congr {g g' : Nat → Option Nat} {len i : Nat} (h : ∀ a, i < a → g a = g' a) (hg : ∀ a e, g a = some e → a < e) : ∀ (l : List Int) (a0 : Nat), i < a0 → kidsR g len l (some a0) = kidsR g' len l (some a0) := by
  intro l
  induction l with
  | nil => intro a0 _; rfl
  | cons k r ih =>
    intro a0 h0
    rw [kidsR_cons, kidsR_cons, ← h a0 h0]
    split
    · cases ha : g a0 with
      | none => rw [kidsR_none, kidsR_none]
      | some a1 => exact ih a1 (by have := hg a0 a1 ha; omega)
    · rfl
theorem endR_fuel (ks : List (List Int)) : ∀ f f' i, ks.length - i ≤ f → ks.length - i ≤ f' → endR ks f i = endR ks f' i := by
  intro f
  induction f with
  | zero =>
    intro f' i h _
    cases f' with
    | zero => rfl
    | succ f' => unfold endR; rw [if_neg (by omega)]
  | succ f ih =>
    intro f' i h h'
    cases f' with
    | zero => unfold endR; rw [if_neg (by omega)]
    | succ f' =>
      unfold endR
      split
      · exact kidsR_congr (i := i) (fun a ha => ih f' a (by omega) (by omega)) (fun a e he => (endR_gt ks f a e he).1) _ _ (by omega)
      · rfl
def endD (ks : List (List Int)) (i : Nat) : Option Nat := endR ks ks.length i
theorem endD_eq (ks : List (List Int)) (i : Nat) : endD ks i = if i < ks.length then kidsR (endD ks) ks.length (ks.getD i []) (some (i + 1)) else none := by
  unfold endD
  rw [endR_fuel ks ks.length (ks.length + 1) i (by omega) (by omega)]
  rfl
theorem endR_endD (ks : List (List Int)) (f i : Nat) (h : ks.length - i ≤ f) : endR ks f i = endD ks i := endR_fuel ks _ _ _ h (by omega)
theorem endD_gt {ks : List (List Int)} {i e : Nat} (h : endD ks i = some e) : i < e ∧ e ≤ ks.length := endR_gt ks _ _ _ h
theorem endD_lt {ks : List (List Int)} {i e : Nat} (h : endD ks i = some e) : i < ks.length := by have := endD_gt h; omega
theorem kidsAt_eq {ks : List (List Int)} {Z : List Nat} {i : Nat} (hZ : ∀ a, i < a → a < ks.length → endD ks a = some (Z.getD a 0)) : ∀ (l : List Int) (a0 : Nat), i < a0 → kidsAt ks.length Z l a0 = kidsR (endD ks) ks.length l (some a0) := by
  intro l
  induction l with
  | nil => intro a0 _; rfl
  | cons k r ih =>
    intro a0 h0
    rw [kidsR_cons]
    unfold kidsAt
    by_cases hc : k = (a0 : Int) ∧ a0 < ks.length
    · have hz := hZ a0 h0 hc.2
      rw [if_pos hc, if_pos ⟨hc.2, hc.1⟩, hz]
      exact ih _ (by have := endD_gt hz; omega)
    · rw [if_neg hc, if_neg (fun h => hc ⟨h.2, h.1⟩)]
theorem endsTo_fwd (ks : List (List Int)) : ∀ (j : Nat) (Z : List Nat), j ≤ ks.length → endsTo ks j = some Z → Z.length = ks.length ∧ ∀ a, ks.length - j ≤ a → a < ks.length → endD ks a = some (Z.getD a 0) := by
  intro j
  induction j with
  | zero =>
    intro Z _ h
    injection h with h
    subst h
    exact ⟨by simp, fun a h1 h2 => by omega⟩
  | succ j ih =>
    intro Z hj h
    unfold endsTo at h
    split at h
    · cases h
    · rename_i Z0 h0
      obtain ⟨hl, hz⟩ := ih Z0 (by omega) h0
      split at h
      · cases h
      · rename_i a ha
        injection h with h
        subst h
        refine ⟨by simpa using hl, fun b h1 h2 => ?_⟩
        rw [kidsAt_eq (i := ks.length - 1 - j) (fun a h1 h2 => hz a (by omega) h2) _ _ (by omega)] at ha
        by_cases hb : b = ks.length - 1 - j
        · subst hb
          rw [endD_eq, if_pos h2, ha]
          simp [List.getD_eq_getElem?_getD, hl, h2]
        · rw [hz b (by omega) h2]
          simp [List.getD_eq_getElem?_getD, List.getElem?_set, Ne.symm hb]
theorem endsTo_bwd (ks : List (List Int)) : ∀ (j : Nat), j ≤ ks.length → (∀ a, ks.length - j ≤ a → a < ks.length → (endD ks a).isSome = true) → ∃ Z, endsTo ks j = some Z := by
  intro j
  induction j with
  | zero => intro _ _; exact ⟨_, rfl⟩
  | succ j ih =>
    intro hj h
    obtain ⟨Z0, h0⟩ := ih (by omega) (fun a h1 h2 => h a (by omega) h2)
    obtain ⟨hl, hz⟩ := endsTo_fwd ks j Z0 (by omega) h0
    have h1 := h (ks.length - 1 - j) (by omega) (by omega)
    rw [endD_eq, if_pos (by omega), ← kidsAt_eq (Z := Z0) (i := ks.length - 1 - j) (fun a h1 h2 => hz a (by omega) h2) _ _ (by omega)] at h1
    unfold endsTo
    rw [h0]
    simp only
    cases hk : kidsAt ks.length Z0 (ks.getD (ks.length - 1 - j) []) (ks.length - 1 - j + 1) with
    | none => rw [hk] at h1; cases h1
    | some a => exact ⟨_, rfl⟩
theorem kidsR_inner {ks : List (List Int)} {i : Nat} (hi : ∀ a1, i < a1 → ∀ e1, endD ks a1 = some e1 → ∀ a, a1 ≤ a → a < e1 → (endD ks a).isSome = true) : ∀ (l : List Int) (a0 e : Nat), i < a0 → kidsR (endD ks) ks.length l (some a0) = some e → ∀ a, a0 ≤ a → a < e → (endD ks a).isSome = true := by
  intro l
  induction l with
  | nil => intro a0 e h0 h a h1 h2; injection h with h; omega
  | cons k r ih =>
    intro a0 e h0 h a h1 h2
    rw [kidsR_cons] at h
    split at h
    · cases ha : endD ks a0 with
      | none => rw [ha, kidsR_none] at h; cases h
      | some a1 =>
        rw [ha] at h
        by_cases hlt : a < a1
        · exact hi a0 h0 a1 ha a h1 hlt
        · exact ih a1 e (by have := endD_gt ha; omega) h a (by omega) h2
    · cases h
theorem endD_inner (ks : List (List Int)) : ∀ (n i e : Nat), ks.length - i ≤ n → endD ks i = some e → ∀ a, i ≤ a → a < e → (endD ks a).isSome = true := by
  intro n
  induction n with
  | zero => intro i e h he; have := endD_gt he; omega
  | succ n ih =>
    intro i e h he a h1 h2
    by_cases hai : a = i
    · subst hai; rw [he]; rfl
    · have he' := he
      rw [endD_eq, if_pos (by have := endD_gt he; omega)] at he'
      exact kidsR_inner (i := i) (fun a1 ha1 e1 he1 => ih a1 e1 (by have := endD_gt he1; omega) he1) _ _ _ (by omega) he' a (by omega) h2
theorem ends_some {ks : List (List Int)} {Z : List Nat} (h : endsN ks = some Z) : Z.length = ks.length ∧ ks.length ≠ 0 ∧ endD ks 0 = some ks.length ∧ ∀ a, a < ks.length → endD ks a = some (Z.getD a 0) := by
  unfold endsN at h
  split at h
  · cases h
  · rename_i Z0 h0
    split at h
    · rename_i hc
      injection h with h
      subst h
      obtain ⟨hl, hz⟩ := endsTo_fwd ks ks.length Z0 (Nat.le_refl _) h0
      refine ⟨hl, hc.1, ?_, fun a ha => hz a (by omega) ha⟩
      rw [hz 0 (by omega) (by omega), hc.2]
    · cases h
theorem ends_none {ks : List (List Int)} (h : endsN ks = none) : endD ks 0 ≠ some ks.length := by
  intro he
  obtain ⟨Z, hZ⟩ := endsTo_bwd ks ks.length (Nat.le_refl _) (fun a _ h2 => endD_inner ks ks.length 0 ks.length (by omega) he a (Nat.zero_le _) h2)
  obtain ⟨hl, hz⟩ := endsTo_fwd ks ks.length Z (Nat.le_refl _) hZ
  have h0 := endD_gt he
  have := hz 0 (by omega) (by omega)
  rw [he] at this
  injection this with this
  unfold endsN at h
  rw [hZ] at h
  simp only at h
  rw [if_pos ⟨by omega, this.symm⟩] at h
  cases h
theorem kidsR_range {ks : List (List Int)} : ∀ (l : List Int) (a0 e : Nat), kidsR (endD ks) ks.length l (some a0) = some e → ∀ k ∈ l, ∃ a : Nat, k = (a : Int) ∧ a0 ≤ a ∧ a < ks.length := by
  intro l
  induction l with
  | nil => intro a0 e _ k hk; cases hk
  | cons x r ih =>
    intro a0 e h k hk
    rw [kidsR_cons] at h
    split at h
    · rename_i hc
      rcases List.mem_cons.1 hk with rfl | hk
      · exact ⟨a0, hc.2, Nat.le_refl _, hc.1⟩
      · cases ha : endD ks a0 with
        | none => rw [ha, kidsR_none] at h; cases h
        | some a1 =>
          rw [ha] at h
          obtain ⟨a, h1, h2, h3⟩ := ih a1 e h k hk
          have := endD_gt ha
          exact ⟨a, h1, by omega, h3⟩
    · cases h
theorem kids_range {ks : List (List Int)} {i e : Nat} (h : endD ks i = some e) : ∀ k ∈ ks.getD i [], ∃ a : Nat, k = (a : Int) ∧ i < a ∧ a < ks.length := by
  intro k hk
  have hl := endD_lt h
  rw [endD_eq, if_pos hl] at h
  obtain ⟨a, h1, h2, h3⟩ := kidsR_range _ _ _ h k hk
  exact ⟨a, h1, by omega, h3⟩
/-- Sizes add up. -/
theorem kidsR_sum {ks : List (List Int)} {Z : List Nat} (hz : ∀ a, a < ks.length → endD ks a = some (Z.getD a 0)) : ∀ (l : List Int) (a0 e : Nat), kidsR (endD ks) ks.length l (some a0) = some e → (l.map fun k => (Z.getD k.toNat 0 : Int) - k).sum = (e : Int) - (a0 : Int) := by
  intro l
  induction l with
  | nil => intro a0 e h; injection h with h; subst h; simp
  | cons x r ih =>
    intro a0 e h
    rw [kidsR_cons] at h
    split at h
    · rename_i hc
      rw [hz a0 hc.1] at h
      have := ih _ e h
      rw [List.map_cons, List.sum_cons, this, hc.2]
      simp only [Int.toNat_natCast]
      omega
    · cases h
end Go.Proofs.Ythofccoefiogiaa
