/- What the standard library's slices do for pieces.Without: Contains, BinarySearch, Clone of nothing. No condition. -/
import Derived.Test.YtngbpaiohfokbaaUnitsB
import Derived.Test.YtngbpaiohfokbaaEvalB
import Derived.Lib.SliceRun
namespace Go.Proofs.Ytngbpaiohfokbaa
open Go Go.RowKit
set_option linter.unusedVariables false
set_option linter.unusedSimpArgs false
theorem ncells_len' (l : List Int) : (ncells l).length = l.length := by simp [ncells]
theorem ncells_at' (l : List Int) (k : Nat) (h : k < l.length) : (ncells l)[k]? = some (.int .i64 l[k]) := by simp [ncells, h]
def ixA (x : Int) : List Int → Nat → Int
  | [], _ => -1
  | u :: l, k => if x = u then (k : Int) else ixA x l (k + 1)
theorem ixA_mem (x : Int) (l : List Int) : ∀ k, (0 ≤ ixA x l k) ↔ x ∈ l := by
  induction l with
  | nil => intro k; simp [ixA]
  | cons u l ih =>
    intro k
    unfold ixA
    by_cases h : x = u
    · rw [if_pos h]; simp [h]
    · rw [if_neg h, ih (k + 1)]; simp [h]
set_option maxHeartbeats 4000000 in
theorem indexI_any (A : Option Addr) (ds : List Int) (c : Nat) (x : Int) (hlen : ds.length ≤ 2000) (w : World) (hc : Cells w A (ncells ds)) :
    Calls Try.prog 42 #[.slice A ds.length c, .int .i64 x] w fun e w' => e = .returned (.int .i64 (ixA x ds 0)) ∧ w = w' := by
  have HC := Lib.hid hc
  clear hc
  go_enter Try.func42, Try.ntmps42
  go_wp2_with fail
  go_loop [8] (fun i => ∃ k : Nat, k ≤ ds.length ∧ i = .int .i64 k ∧ Hid (ixA x ds 0 = ixA x (ds.drop k) k)) (fun i => ds.length - (intOf i).toNat)
  case atStart => exact ⟨0, Nat.zero_le _, rfl, rfl⟩
  case round =>
    obtain ⟨k, hk, rfl, HO⟩ := hrel
    by_cases hlt : k < ds.length
    · obtain ⟨b, off, rfl, hb, hcc⟩ := HC.out.at_ (by rw [ncells_len']; omega)
      have c1 : w.cell? ⟨b, off + k, none⟩ = some (.int .i64 ds[k]) := (hcc _ (by rw [ncells_len']; omega)).trans (ncells_at' ds k hlt)
      have hdr := List.drop_eq_getElem_cons hlt
      generalize ds[k] = u at *
      have hof : ixA x ds 0 = if x = u then (k : Int) else ixA x (ds.drop (k + 1)) (k + 1) := by rw [HO.out, hdr]; rfl
      have HOF := Lib.hid hof
      clear hof hdr hcc HO
      by_cases hxu : x = u
      · subst hxu
        have hre := HOF.out
        rw [if_pos rfl] at hre
        have HRE := Lib.hid hre
        clear hre HOF
        go_wp2_with fail
        go_ret
        exact ⟨by rw [HRE.out]; rfl, rfl⟩
      · have hre := HOF.out
        rw [if_neg hxu] at hre
        have HRE := Lib.hid hre
        have exu : (x == u) = false := beq_eq_false_iff_ne.2 hxu
        clear hre HOF
        go_wp2_with fail
        go_round
        case rel => exact ⟨k + 1, by omega, by go_num, HRE⟩
        case measure => simp [intOf]; omega
    · obtain rfl : k = ds.length := by omega
      have hre := HO.out
      rw [List.drop_length] at hre
      have HRE := Lib.hid hre
      clear hre HO
      have e1 : decide ((ds.length : Int) < (ds.length : Int)) = false := by simp
      go_wp2_with fail
      go_ret
      exact ⟨by rw [HRE.out]; rfl, rfl⟩
set_option maxHeartbeats 1000000 in
theorem contains_any (A : Option Addr) (ds : List Int) (c : Nat) (x : Int) (hlen : ds.length ≤ 2000) (w : World) (hc : Cells w A (ncells ds)) :
    Calls Try.prog 25 #[.slice A ds.length c, .int .i64 x] w fun e w' => e = .returned (.bool (decide (x ∈ ds))) ∧ w = w' := by
  obtain ⟨r, HR⟩ : ∃ r, Hid (ixA x ds 0 = r) := ⟨_, Lib.hid rfl⟩
  have hm := ixA_mem x ds 0
  rw [HR.out] at hm
  have HM : Hid (decide (0 ≤ r) = decide (x ∈ ds)) := Lib.hid (by rw [decide_eq_decide]; exact hm)
  clear hm
  go_enter Try.func25, Try.ntmps25
  go_wp2_with fail
  refine (indexI_any A ds c x hlen w hc).mono ?_
  rintro e w1 ⟨rfl, rfl⟩
  rw [HR.out]
  go_wp2_with fail
  go_ret
  exact ⟨by rw [← HM.out]; rfl, rfl⟩
theorem nan1_any (x : Int) (w : World) : Calls Try.prog 44 #[.int .i64 x] w fun e w' => e = .returned (.bool false) ∧ w = w' := by
  go_enter Try.func44, Try.ntmps44
  go_wp2
  go_ret
  exact ⟨rfl, rfl⟩
theorem nan2_any (x : Int) (w : World) : Calls Try.prog 57 #[.int .i64 x] w fun e w' => e = .returned (.bool false) ∧ w = w' := by
  go_enter Try.func57, Try.ntmps57
  go_wp2
  go_ret
  exact ⟨rfl, rfl⟩
theorem less_any (x y : Int) (r : Bool) (hr : decide (x < y) = r) (w : World) : Calls Try.prog 43 #[.int .i64 x, .int .i64 y] w fun e w' => e = .returned (.bool r) ∧ w = w' := by
  go_enter Try.func43, Try.ntmps43
  go_wp2_with fail
  refine (nan2_any x w).mono ?_
  rintro e w1 ⟨rfl, rfl⟩
  go_wp2_with fail
  go_ret
  exact ⟨by first | rfl | simp, rfl⟩
theorem clone1_nil (w : World) : Calls Try.prog 45 #[.slice none 0 0] w fun e w' => e = .returned (.slice none 0 0) ∧ w = w' := by
  have q := fun w : World => Lib.run_eql_slice_nil (P := Try.prog) w 46 _ none 0 0 0 0 Try.underlying46
  go_enter Try.func45, Try.ntmps45
  go_wp2
  go_ret
  exact ⟨rfl, rfl⟩
theorem clone2_nil (w : World) : Calls Try.prog 28 #[.slice none 0 0] w fun e w' => e = .returned (.slice none 0 0) ∧ w = w' := by
  have q := fun w : World => Lib.run_eql_slice_nil (P := Try.prog) w 47 _ none 0 0 0 0 Try.underlying47
  go_enter Try.func28, Try.ntmps28
  go_wp2
  go_ret
  exact ⟨rfl, rfl⟩
theorem own_nil (w : World) : Calls Try.prog 27 #[.slice none 0 0] w fun e w' => e = .returned (.slice none 0 0) ∧ w = w' := by
  go_enter Try.func27, Try.ntmps27
  go_wp2_with fail
  refine (clone1_nil w).mono ?_
  rintro e w1 ⟨rfl, rfl⟩
  go_wp2
  go_ret
  exact ⟨rfl, rfl⟩
end Go.Proofs.Ytngbpaiohfokbaa
