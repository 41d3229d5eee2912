/- Words again with blanks between them; names. Plain Lean. No condition. -/
import Derived.Test.YtcccnicldbpieaaGreatDoorLxL
namespace Go.Proofs.YtcccnicldbpieaaGreatDoor
set_option linter.unusedVariables false
set_option linter.unusedSimpArgs false
def IsSep (sp : Bs) : Prop := sp = [32] ∨ sp = [10] ∨ sp = [9, 13] ∨ sp = [35, 32, 97, 49, 32, 61, 61, 10]
theorem sep_skip {sp : Bs} (h : IsSep sp) (q : Nat) (b : Bs) : lexL q (sp ++ b) = lexL (q + sp.length) b := by
  rcases h with rfl | rfl | rfl | rfl
  · exact lexL_skip (k := 1) rfl
  · exact lexL_skip (k := 1) rfl
  · rw [show ([9, 13] : Bs) ++ b = 9 :: 13 :: b from rfl, lexL_skip (k := 1) (by rfl)]
    show lexL (q + 1) (13 :: b) = _
    rw [lexL_skip (k := 1) (by rfl)]
    rfl
  · rw [show ([35, 32, 97, 49, 32, 61, 61, 10] : Bs) ++ b = 35 :: 32 :: 97 :: 49 :: 32 :: 61 :: 61 :: 10 :: b from rfl, lexL_skip (k := 7) (by rfl)]
    show lexL (q + 7) (10 :: b) = _
    rw [lexL_skip (k := 1) (by rfl)]
    rfl
theorem sep_head {sp : Bs} (h : IsSep sp) : ∃ x r, sp = x :: r ∧ wordB x = false ∧ digitB x = false ∧ (x == 61) = false := by
  rcases h with rfl | rfl | rfl | rfl
  · exact ⟨_, _, rfl, by decide, by decide, by decide⟩
  · exact ⟨_, _, rfl, by decide, by decide, by decide⟩
  · exact ⟨_, _, rfl, by decide, by decide, by decide⟩
  · exact ⟨_, _, rfl, by decide, by decide, by decide⟩
theorem take_tw {p : UInt8 → Bool} (r : Bs) : r.take (r.takeWhile p).length = r.takeWhile p := by
  have h := List.takeWhile_prefix p (l := r)
  exact (List.prefix_iff_eq_take.1 h).symm
theorem tw_all {p : UInt8 → Bool} : ∀ (r : Bs), (∀ x ∈ r, p x = true) → r.takeWhile p = r
  | [], _ => rfl
  | c :: r, h => by rw [List.takeWhile_cons, if_pos (h c (List.mem_cons_self ..)), tw_all r fun x hx => h x (List.mem_cons_of_mem _ hx)]
theorem all_tw {p : UInt8 → Bool} : ∀ (r : Bs), r.takeWhile p = r → ∀ x ∈ r, p x = true
  | [], _, x, hx => by cases hx
  | c :: r, h, x, hx => by
    rw [List.takeWhile_cons] at h
    split at h
    · rename_i hc
      injection h with _ h
      rcases List.mem_cons.1 hx with rfl | hx
      · exact hc
      · exact all_tw r h x hx
    · cases h
theorem tw_tw {p : UInt8 → Bool} {x : UInt8} (hx : p x = false) (r b : Bs) : (r.takeWhile p ++ x :: b).takeWhile p = r.takeWhile p := by
  rw [tw_app hx]
  have h := tw_take (p := p) r _ (Nat.le_refl _)
  rw [take_tw] at h
  exact h
theorem tok_sep {s sp b : Bs} {kd k : Nat} {n : Int} (hs : step s = .tok kd k n) (hp : IsSep sp) : step (s.take k ++ (sp ++ b)) = .tok kd k n := by
  obtain ⟨x, sr, rfl, hx1, hx2, hx3⟩ := sep_head hp
  cases s with
  | nil => cases hs
  | cons c r =>
    have hs' : stepC c r = .tok kd k n := hs
    unfold stepC at hs'
    split at hs'
    · cases hs'
    · rename_i h1
      split at hs'
      · cases hs'
      · rename_i h2
        split at hs'
        · rename_i h3
          injection hs' with e1 e2 e3
          subst e1 e2 e3
          rw [Nat.add_comm 1, List.take_succ_cons, take_tw]
          show stepC c (r.takeWhile wordB ++ x :: (sr ++ b)) = _
          unfold stepC
          rw [if_neg h1, if_neg h2, if_pos h3, tw_tw hx1, Nat.add_comm]
        · rename_i h3
          split at hs'
          · rename_i h4
            unfold stepD at hs'
            split at hs'
            · cases hs'
            · rename_i v hv
              injection hs' with e1 e2 e3
              subst e1 e2 e3
              rw [Nat.add_comm 1, List.take_succ_cons, take_tw]
              show stepC c (r.takeWhile digitB ++ x :: (sr ++ b)) = _
              unfold stepC
              rw [if_neg h1, if_neg h2, if_neg h3, if_pos h4]
              unfold stepD
              rw [tw_tw hx2, hv, Nat.add_comm]
          · rename_i h4
            split at hs'
            · rename_i h5
              injection hs' with e1 e2 e3
              subst e1 e2 e3
              cases r with
              | nil => simp at h5
              | cons d r =>
                simp at h5
                obtain ⟨rfl, rfl⟩ := h5
                rfl
            · rename_i h5
              split at hs'
              · rename_i h6
                injection hs' with e1 e2 e3
                subst e1 e2 e3
                show stepC c (x :: (sr ++ b)) = _
                unfold stepC
                rw [if_neg h1, if_neg h2, if_neg h3, if_neg h4, if_neg (by simp only [List.head?_cons, Bool.and_eq_true, beq_iff_eq, Option.some.injEq, not_and]; intro _ e; subst e; simp at hx3), if_pos h6]
              · cases hs'
def Tok.word (t : Tok) : Nat × Bs × Int := (t.kind, t.text, t.n)
def again : List Tok → List Bs → Bs
  | t :: l, sp :: m => t.text ++ (sp ++ again l m)
  | _, _ => []
theorem lexL_again : ∀ (l : List Tok) (p q : Nat) (s : Bs) (seps : List Bs), lexL p s = .ok l → seps.length = l.length → (∀ sp ∈ seps, IsSep sp) → ∃ m, lexL q (again l seps) = .ok m ∧ m.map Tok.word = l.map Tok.word
  | [], p, q, s, seps, h, _, _ => absurd rfl (lexL_ne h)
  | t :: l, p, q, s, [], h, hl, _ => by simp at hl
  | t :: l, p, q, s, sp :: seps, h, hl, hsep => by
    have hsp := hsep sp (List.mem_cons_self ..)
    obtain ⟨m, a1, a2, a3, a4, a5, a6, a7⟩ := lexL_next 0 h
    rcases a7 with ⟨b1, b2, b3, b4, b5⟩ | ⟨b1, b2, b3, b4⟩
    · subst b2
      have hs0 : seps = [] := List.eq_nil_of_length_eq_zero (by simpa using hl)
      subst hs0
      refine ⟨[⟨4, q + sp.length, q + sp.length, [], 0⟩], ?_, ?_⟩
      · show lexL q (t.text ++ (sp ++ [])) = _
        rw [b4, List.nil_append, sep_skip hsp, lexL_fin]
      · simp [Tok.word, b1, b4, b5]
    · obtain ⟨m2, c1, c2⟩ := lexL_again l t.en (q + (t.en - t.at_) + sp.length) _ seps b3 (by simpa using hl) (fun x hx => hsep x (List.mem_cons_of_mem _ hx))
      have hst := tok_sep (b := again l seps) b4 hsp
      rw [← a5] at hst
      have htl : t.text.length = t.en - t.at_ := by
        have hw := step_wide (s.drop m)
        rw [b4] at hw
        have : t.en - t.at_ ≤ (s.drop m).length := hw.2
        rw [a5, List.length_take]
        omega
      refine ⟨⟨t.kind, q, q + (t.en - t.at_), t.text, t.n⟩ :: m2, ?_, ?_⟩
      · show lexL q (t.text ++ (sp ++ again l seps)) = _
        rw [lexL_tok hst, List.drop_append_of_le_length (by omega), List.drop_eq_nil_of_le (by omega), List.nil_append, sep_skip hsp, c1, List.take_append_of_le_length (by omega), List.take_of_length_le (by omega)]
        rfl
      · simp [c2, Tok.word]
/-- How long rows of tokens are, and their texts. -/
theorem lexL_size : ∀ (l : List Tok) (p : Nat) (s : Bs), lexL p s = .ok l → l.length ≤ s.length + 1 ∧ ∀ seps : List Bs, (∀ sp ∈ seps, sp.length ≤ 8) → (again l seps).length ≤ s.length + 8 * l.length
  | [], p, s, h => absurd rfl (lexL_ne h)
  | t :: l, p, s, h => by
    obtain ⟨m, a1, a2, a3, a4, a5, a6, a7⟩ := lexL_next 0 h
    rcases a7 with ⟨b1, b2, b3, b4, b5⟩ | ⟨b1, b2, b3, b4⟩
    · subst b2
      refine ⟨by simp, fun seps hs => ?_⟩
      cases seps with
      | nil => simp [again]
      | cons sp seps =>
        have := hs sp (List.mem_cons_self ..)
        simp [again, b4]
        omega
    · obtain ⟨c1, c2⟩ := lexL_size l t.en _ b3
      rw [List.length_drop] at c1 c2
      refine ⟨by simp; omega, fun seps hs => ?_⟩
      cases seps with
      | nil => simp [again]
      | cons sp seps =>
        have h8 := hs sp (List.mem_cons_self ..)
        have := c2 seps (fun x hx => hs x (List.mem_cons_of_mem _ hx))
        have ht : t.text.length ≤ t.en - t.at_ := by rw [a5, List.length_take]; omega
        simp [again]
        omega
/-! ### Names -/
def nameB : Bs → Bool
  | [] => false
  | c :: r => letterB c && r.all wordB
theorem letter_kinds {c : UInt8} (h : letterB c = true) : blankB c = false ∧ (c == 35) = false := by
  unfold letterB at h
  simp only [Bool.and_eq_true, decide_eq_true_eq] at h
  have hne : ∀ d : UInt8, d.toNat < 97 → (c == d) = false := fun d hd => by
    rw [beq_eq_false_iff_ne]; intro e; subst e; omega
  refine ⟨?_, hne 35 (by decide)⟩
  unfold blankB
  rw [hne 32 (by decide), hne 9 (by decide), hne 10 (by decide), hne 13 (by decide)]
  rfl
theorem lexL_name {s : Bs} (h : nameB s = true) (p : Nat) : lexL p s = .ok [⟨1, p, p + s.length, s, 0⟩, ⟨4, p + s.length, p + s.length, [], 0⟩] := by
  cases s with
  | nil => cases h
  | cons c r =>
    simp only [nameB, Bool.and_eq_true] at h
    obtain ⟨h1, h2⟩ := letter_kinds h.1
    have htw : r.takeWhile wordB = r := tw_all r (by simpa using h.2)
    have hst : step (c :: r) = .tok 1 (c :: r).length 0 := by
      show stepC c r = _
      unfold stepC
      rw [h1, h2, h.1, htw]
      simp [Nat.add_comm]
    rw [lexL_tok hst, List.drop_eq_nil_of_le (Nat.le_refl _), lexL_fin, List.take_of_length_le (Nat.le_refl _)]
    rfl
theorem name_of_lex {s : Bs} {t : Tok} {l : List Tok} {p : Nat} (h : lexL p s = .ok (t :: l)) (hk : t.kind = 1) (ht : t.text = s) : nameB s = true := by
  obtain ⟨m, a1, a2, a3, a4, a5, a6, a7⟩ := lexL_next 0 h
  rcases a7 with ⟨b1, _⟩ | ⟨b1, b2, b3, b4⟩
  · omega
  · have hw := step_wide (s.drop m)
    rw [b4] at hw
    have h1 : 1 ≤ t.en - t.at_ := hw.1
    have h2 : t.en - t.at_ ≤ (s.drop m).length := hw.2
    rw [List.length_drop] at h2
    have hl : s.length = t.en - t.at_ := by rw [← ht, a5, List.length_take, List.length_drop]; omega
    have hm : m = 0 := by omega
    subst hm
    rw [List.drop_zero, hk, ← hl] at b4
    cases s with
    | nil => cases b4
    | cons c r =>
      have hs' : stepC c r = .tok 1 (r.length + 1) t.n := b4
      unfold stepC at hs'
      split at hs'
      · cases hs'
      · split at hs'
        · cases hs'
        · split at hs'
          · rename_i h3
            injection hs' with e1 e2 e3
            have hlen : (r.takeWhile wordB).length = r.length := by omega
            have htw : r.takeWhile wordB = r := by rw [← take_tw, hlen, List.take_length]
            have hall := all_tw r htw
            simp only [nameB, h3, Bool.true_and, List.all_eq_true]
            exact hall
          · split at hs'
            · unfold stepD at hs'
              split at hs'
              · cases hs'
              · cases hs'
            · split at hs'
              · cases hs'
              · split at hs' <;> cases hs'
end Go.Proofs.YtcccnicldbpieaaGreatDoor
