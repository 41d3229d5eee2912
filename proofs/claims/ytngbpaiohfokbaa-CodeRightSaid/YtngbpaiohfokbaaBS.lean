/- slices.BinarySearch over a rising row of integers. -/
import Derived.Test.YtngbpaiohfokbaaFind
namespace Go.Proofs.Ytngbpaiohfokbaa
open Go Go.RowKit
set_option linter.unusedVariables false
set_option linter.unusedSimpArgs false
def lbN (x : Int) (l : List Int) : Nat := (l.filter fun y => decide (y < x)).length
theorem lbN_at (x : Int) (l : List Int) (i : Nat) (hi : i ≤ l.length) (h1 : ∀ k (h : k < l.length), k < i → l[k] < x) (h2 : ∀ k (h : k < l.length), i ≤ k → x ≤ l[k]) : lbN x l = i := by
  unfold lbN
  rw [← List.take_append_drop i l, List.filter_append, List.length_append]
  have a : (l.take i).filter (fun y => decide (y < x)) = l.take i := by
    rw [List.filter_eq_self]
    intro y hy
    obtain ⟨k, hk, rfl⟩ := List.mem_iff_getElem.1 hy
    rw [List.length_take] at hk
    rw [List.getElem_take]
    exact decide_eq_true (h1 k (by omega) (by omega))
  have b : (l.drop i).filter (fun y => decide (y < x)) = [] := by
    rw [List.filter_eq_nil_iff]
    intro y hy
    obtain ⟨k, hk, rfl⟩ := List.mem_iff_getElem.1 hy
    rw [List.length_drop] at hk
    rw [List.getElem_drop]
    have := h2 (i + k) (by omega) (by omega)
    simp; omega
  rw [a, b, List.length_take]
  simp; omega
set_option maxHeartbeats 4000000 in
theorem bs_any (A : Option Addr) (l : List Int) (c : Nat) (x : Int) (hlen : l.length ≤ 2000) (hs : l.Pairwise (· < ·)) (w : World) (hc : Cells w A (ncells l)) :
    Calls Try.prog 26 #[.slice A l.length c, .int .i64 x] w fun e w' => e = .returned (.tuple #[.int .i64 (lbN x l : Int), .bool (decide (x ∈ l))]) ∧ w = w' := by
  have HC := Lib.hid hc
  have HS := Lib.hid hs
  clear hc hs
  go_enter Try.func26, Try.ntmps26
  go_wp2_with fail
  go_loop [7, 8] (fun i j => ∃ a b : Nat, a ≤ b ∧ b ≤ l.length ∧ i = .int .i64 a ∧ j = .int .i64 b ∧ Hid (∀ k (h : k < l.length), k < a → l[k] < x) ∧ Hid (∀ k (h : k < l.length), b ≤ k → x ≤ l[k])) (fun i j => (intOf j).toNat - (intOf i).toNat)
  case atStart => exact ⟨0, l.length, Nat.zero_le _, Nat.le_refl _, rfl, rfl, Lib.hid (fun k h hk => by omega), Lib.hid (fun k h hk => by omega)⟩
  case round =>
    obtain ⟨a, b, hab, hbl, rfl, rfl, H1, H2⟩ := hrel
    by_cases hlt : a < b
    · have e1 : decide ((a : Int) < (b : Int)) = true := by simp; exact hlt
      obtain ⟨m, HM⟩ : ∃ m, Hid (m = (a + b) / 2) := ⟨_, Lib.hid rfl⟩
      have hma : a ≤ m := by have := HM.out; omega
      have hmb : m < b := by have := HM.out; omega
      have hml : m < l.length := by omega
      obtain ⟨g, off, rfl, hb, hcc⟩ := HC.out.at_ (by rw [ncells_len']; omega)
      have c1 : w.cell? ⟨g, off + (a + b) / 2, none⟩ = some (.int .i64 l[m]) := by rw [← HM.out]; exact (hcc _ (by rw [ncells_len']; omega)).trans (ncells_at' l m (by omega))
      have hup : Hid (∀ k (h : k < l.length), m ≤ k → l[m] ≤ l[k]) := Lib.hid fun k h hk => by
        rcases Nat.lt_or_eq_of_le hk with h' | h'
        · exact Int.le_of_lt (List.pairwise_iff_getElem.1 HS.out m k (by omega) h h')
        · subst h'; exact Int.le_refl _
      have hdn : Hid (∀ k (h : k < l.length), k ≤ m → l[k] ≤ l[m]) := Lib.hid fun k h hk => by
        rcases Nat.lt_or_eq_of_le hk with h' | h'
        · exact Int.le_of_lt (List.pairwise_iff_getElem.1 HS.out k m h (by omega) h')
        · subst h'; exact Int.le_refl _
      generalize l[m] = y at *
      clear hcc
      by_cases hyx : y < x
      · go_wp2_with fail
        refine (less_any y x true (decide_eq_true hyx) w).mono ?_
        rintro e w1 ⟨rfl, rfl⟩
        go_wp2_with fail
        go_round
        case rel => exact ⟨m + 1, b, by omega, hbl, (by have := HM.out; refine congrArg _ ?_; omega), rfl, Lib.hid (fun k h hk => by have := hdn.out k h (by omega); omega), H2⟩
        case measure => simp [intOf]; have := HM.out; omega
      · go_wp2_with fail
        refine (less_any y x false (decide_eq_false (by omega)) w).mono ?_
        rintro e w1 ⟨rfl, rfl⟩
        go_wp2_with fail
        go_round
        case rel => exact ⟨a, m, hma, by omega, rfl, (by have := HM.out; refine congrArg _ ?_; omega), H1, Lib.hid (fun k h hk => by have := hup.out k h hk; omega)⟩
        case measure => simp [intOf]; have := HM.out; omega
    · obtain rfl : a = b := by omega
      have e1 : decide ((a : Int) < (a : Int)) = false := by simp
      have HL := Lib.hid (lbN_at x l a hbl H1.out H2.out)
      by_cases han : a < l.length
      · have e2 : decide ((a : Int) < (l.length : Int)) = true := by simp; exact han
        obtain ⟨g, off, rfl, hb, hcc⟩ := HC.out.at_ (by rw [ncells_len']; omega)
        have c1 : w.cell? ⟨g, off + a, none⟩ = some (.int .i64 l[a]) := (hcc _ (by rw [ncells_len']; omega)).trans (ncells_at' l a han)
        have hmem : x ∈ l ↔ l[a] = x := by
          constructor
          · intro hx
            obtain ⟨k, hk, rfl⟩ := List.mem_iff_getElem.1 hx
            have h1 := H2.out a han (Nat.le_refl _)
            rcases Nat.lt_trichotomy k a with h | h | h
            · have := H1.out k hk h; omega
            · subst h; rfl
            · have := List.pairwise_iff_getElem.1 HS.out a k han hk h; omega
          · intro h; rw [← h]; exact List.getElem_mem han
        generalize l[a] = y at *
        clear hcc
        by_cases hyx : y = x
        · subst hyx
          have HD : Hid (decide (y ∈ l) = true) := Lib.hid (decide_eq_true (hmem.2 rfl))
          clear hmem
          go_wp2_with fail
          go_ret2
          exact ⟨by rw [HL.out, HD.out]; try rfl, rfl⟩
        · have HD : Hid (decide (x ∈ l) = false) := Lib.hid (decide_eq_false (fun h => hyx (hmem.1 h)))
          have e3 : (y == x) = false := beq_eq_false_iff_ne.2 hyx
          clear hmem
          go_wp2_with fail
          refine (nan1_any y w).mono ?_
          rintro e w1 ⟨rfl, rfl⟩
          go_wp2_with fail
          go_ret2
          exact ⟨by rw [HL.out, HD.out]; try rfl, rfl⟩
      · have e2 : decide ((a : Int) < (l.length : Int)) = false := by simp; omega
        have HD : Hid (decide (x ∈ l) = false) := Lib.hid (decide_eq_false (fun hx => by
          obtain ⟨k, hk, rfl⟩ := List.mem_iff_getElem.1 hx
          have := H1.out k hk (by omega)
          omega))
        go_wp2_with fail
        go_ret2
        exact ⟨by rw [HL.out, HD.out]; try rfl, rfl⟩
end Go.Proofs.Ytngbpaiohfokbaa
