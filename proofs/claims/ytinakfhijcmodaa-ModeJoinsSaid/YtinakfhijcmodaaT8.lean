/- Chapter 01, modes: walks of the program and of its reference, function by function: what each call returns, for every input of its kind and in whatever memory; what was in memory stays. -/
import Derived.Test.YtinakfhijcmodaaT7
namespace Go.Proofs.Ytinakfhijcmodaa
open Go.RowKit
set_option linter.unusedVariables false
set_option linter.unusedSimpArgs false
def rowN (x : Int) : Int := if x = 5 then 5 else if x = 4 then 3 else if x = 3 then 3 else 0
theorem refrow_any (m x : Int) (w : World) (h0 : 0 ≤ m) (h1 : m < 256) (h : Hid (ofM m = x)) :
    Calls Try.prog 25 #[.int .u8 m] w fun e w' => e = .returned (.int .u8 (rowN x)) ∧ Below w.heap.size w w' := by
  have hb := ofM_bd m h0 h1
  rw [h.out] at hb
  rcases six hb with rfl | rfl | rfl | rfl | rfl | rfl
  all_goals
    clear hb
    go_enter Try.func25, Try.ntmps25
    go_wp2_with (go_at_call 33; refine (of_at _ _ _ (by omega) (by omega) h).mono ?_; rintro e w' ⟨rfl, rfl⟩)
    go_ret
    exact ⟨rfl, by go_grown⟩
def aheadN (x : Int) : Int := if x = 5 then 2 else if x = 4 then 2 else if x = 3 then 1 else x
theorem refahead_any (m x : Int) (w : World) (h0 : 0 ≤ m) (h1 : m < 256) (h : Hid (ofM m = x)) :
    Calls Try.prog 23 #[.int .u8 m] w fun e w' => e = .returned (.int .u8 (aheadN x)) ∧ Below w.heap.size w w' := by
  have hb := ofM_bd m h0 h1
  rw [h.out] at hb
  rcases six hb with rfl | rfl | rfl | rfl | rfl | rfl
  all_goals
    clear hb
    go_enter Try.func23, Try.ntmps23
    go_wp2_with (go_at_call 33; refine (of_at _ _ _ (by omega) (by omega) h).mono ?_; rintro e w' ⟨rfl, rfl⟩)
    go_ret
    exact ⟨rfl, by go_grown⟩
def textN (x : Int) : ByteArray := if x = 5 then ⟨#[88]⟩ else if x = 4 then ⟨#[83, 73, 88]⟩ else if x = 3 then ⟨#[83]⟩ else if x = 2 then ⟨#[73, 88]⟩ else if x = 1 then ⟨#[73, 83]⟩ else ⟨#[]⟩
theorem reftext_any (m x : Int) (w : World) (h0 : 0 ≤ m) (h1 : m < 256) (h : Hid (ofM m = x)) :
    Calls Try.prog 27 #[.int .u8 m] w fun e w' => e = .returned (.string (textN x)) ∧ Below w.heap.size w w' := by
  have hb := ofM_bd m h0 h1
  rw [h.out] at hb
  rcases six hb with rfl | rfl | rfl | rfl | rfl | rfl
  all_goals
    clear hb
    go_enter Try.func27, Try.ntmps27
    go_wp2_with (go_at_call 33; refine (of_at _ _ _ (by omega) (by omega) h).mono ?_; rintro e w' ⟨rfl, rfl⟩)
    go_ret
    exact ⟨rfl, by go_grown⟩
theorem text_any (m : Int) (w : World) (h0 : 0 ≤ m) (h1 : m < 256) :
    Calls Try.prog 26 #[.int .u8 m] w fun e w' => e = .returned (.string (textN (ofM m))) ∧ w = w' := by
  by_cases h : m < 6
  · rcases six ⟨h0, h⟩ with rfl | rfl | rfl | rfl | rfl | rfl
    · have i0 : ∀ w, (Instr.index 50 (.agg #[.string ⟨#[]⟩, .string ⟨#[73, 83]⟩, .string ⟨#[73, 88]⟩, .string ⟨#[83]⟩, .string ⟨#[83, 73, 88]⟩, .string ⟨#[88]⟩]) (.int .u8 0)).run Try.prog w = .ok (.string (textN 0)) w := fun _ => by kernel_rfl
      clear h0 h1 h
      go_enter Try.func26, Try.ntmps26
      go_wp2
      go_ret
      exact ⟨rfl, rfl⟩
    · have i0 : ∀ w, (Instr.index 50 (.agg #[.string ⟨#[]⟩, .string ⟨#[73, 83]⟩, .string ⟨#[73, 88]⟩, .string ⟨#[83]⟩, .string ⟨#[83, 73, 88]⟩, .string ⟨#[88]⟩]) (.int .u8 1)).run Try.prog w = .ok (.string (textN 1)) w := fun _ => by kernel_rfl
      clear h0 h1 h
      go_enter Try.func26, Try.ntmps26
      go_wp2
      go_ret
      exact ⟨rfl, rfl⟩
    · have i0 : ∀ w, (Instr.index 50 (.agg #[.string ⟨#[]⟩, .string ⟨#[73, 83]⟩, .string ⟨#[73, 88]⟩, .string ⟨#[83]⟩, .string ⟨#[83, 73, 88]⟩, .string ⟨#[88]⟩]) (.int .u8 2)).run Try.prog w = .ok (.string (textN 2)) w := fun _ => by kernel_rfl
      clear h0 h1 h
      go_enter Try.func26, Try.ntmps26
      go_wp2
      go_ret
      exact ⟨rfl, rfl⟩
    · have i0 : ∀ w, (Instr.index 50 (.agg #[.string ⟨#[]⟩, .string ⟨#[73, 83]⟩, .string ⟨#[73, 88]⟩, .string ⟨#[83]⟩, .string ⟨#[83, 73, 88]⟩, .string ⟨#[88]⟩]) (.int .u8 3)).run Try.prog w = .ok (.string (textN 3)) w := fun _ => by kernel_rfl
      clear h0 h1 h
      go_enter Try.func26, Try.ntmps26
      go_wp2
      go_ret
      exact ⟨rfl, rfl⟩
    · have i0 : ∀ w, (Instr.index 50 (.agg #[.string ⟨#[]⟩, .string ⟨#[73, 83]⟩, .string ⟨#[73, 88]⟩, .string ⟨#[83]⟩, .string ⟨#[83, 73, 88]⟩, .string ⟨#[88]⟩]) (.int .u8 4)).run Try.prog w = .ok (.string (textN 4)) w := fun _ => by kernel_rfl
      clear h0 h1 h
      go_enter Try.func26, Try.ntmps26
      go_wp2
      go_ret
      exact ⟨rfl, rfl⟩
    · have i0 : ∀ w, (Instr.index 50 (.agg #[.string ⟨#[]⟩, .string ⟨#[73, 83]⟩, .string ⟨#[73, 88]⟩, .string ⟨#[83]⟩, .string ⟨#[83, 73, 88]⟩, .string ⟨#[88]⟩]) (.int .u8 5)).run Try.prog w = .ok (.string (textN 5)) w := fun _ => by kernel_rfl
      clear h0 h1 h
      go_enter Try.func26, Try.ntmps26
      go_wp2
      go_ret
      exact ⟨rfl, rfl⟩
  · have hd : decide (m ≤ 5) = false := by simp; omega
    have ho : Hid (ofM m = 0) := by unfold ofM; rw [if_neg (by omega)]; exact Lib.hid rfl
    go_enter Try.func26, Try.ntmps26
    go_wp2
    go_ret
    exact ⟨by rw [ho.out]; rfl, rfl⟩
def refMeetN (a b : Int) : Int := (((List.range 5).find? fun m => coversN a (5 - m : Nat) && coversN b (5 - m : Nat)).map fun m => ((5 - m : Nat) : Int)).getD 0
set_option maxHeartbeats 2000000 in
theorem refmeet_any (a b : Int) (w : World) (h0 : 0 ≤ a) (h1 : a < 256) (h2 : 0 ≤ b) (h3 : b < 256) :
    Calls Try.prog 19 #[.int .u8 a, .int .u8 b] w fun e w' => e = .returned (.int .u8 (refMeetN a b)) ∧ Below w.heap.size w w' := by
  go_enter Try.func19, Try.ntmps19
  go_wp2_with fail
  have hx := Ext.alloc w (.cells #[.int .u8 5, .int .u8 4, .int .u8 3, .int .u8 2, .int .u8 1] 31)
  have hcs : ∀ m, m < 5 → (w.alloc (.cells #[.int .u8 5, .int .u8 4, .int .u8 3, .int .u8 2, .int .u8 1] 31)).cell? ⟨w.heap.size, m, none⟩ = some (.int .u8 (5 - m : Nat)) := by
    intro m hm
    rw [(Blk.new w 31 _).cell]
    match m, hm with
    | 0, _ => rfl
    | 1, _ => rfl
    | 2, _ => rfl
    | 3, _ => rfl
    | 4, _ => rfl
  have hbel : Hid (Below w.heap.size w (w.alloc (.cells #[.int .u8 5, .int .u8 4, .int .u8 3, .int .u8 2, .int .u8 1] 31))) := hx
  clear hx
  generalize w.alloc (.cells #[.int .u8 5, .int .u8 4, .int .u8 3, .int .u8 2, .int .u8 1] 31) = w1 at *
  go_loop [9] (fun i => ∃ m : Nat, m ≤ 5 ∧ i = .int .i64 m ∧ Hid (∀ j, j < m → (coversN a (5 - j : Nat) && coversN b (5 - j : Nat)) = false)) (fun i => 5 - (intOf i).toNat)
  case atStart => exact ⟨0, by omega, rfl, fun j hj => by omega⟩
  case round =>
    obtain ⟨m, hm5, rfl, HM⟩ := hrel
    by_cases hmlt : m < 5
    · have hcm := hcs m hmlt
      have hq : 5 - m < 256 := by omega
      obtain ⟨q, HQ⟩ : ∃ q, Hid (5 - m = q) := ⟨_, Lib.hid rfl⟩
      rw [HQ.out] at hcm hq
      clear hcs
      cases ha : coversN a (q : Nat)
      · have HA := Lib.hid ha
        clear ha
        go_wp2_with fail
        refine (refcovers_at _ _ _ _ (by omega) (by omega) (by omega) (by omega) HA).mono ?_
        rintro e w' ⟨rfl, rfl⟩
        go_wp2_with fail
        go_round
        case rel => exact ⟨m + 1, by omega, by go_num, fun j hj => by
          by_cases hjm : j = m
          · rw [hjm, HQ.out, HA.out]; rfl
          · exact HM.out j (by omega)⟩
        case measure => simp [intOf]; omega
      · have HA := Lib.hid ha
        clear ha
        cases hb : coversN b (q : Nat)
        all_goals
          have HB := Lib.hid hb
          clear hb
          go_wp2_with fail
          refine (refcovers_at _ _ _ _ (by omega) (by omega) (by omega) (by omega) HA).mono ?_
          rintro e w' ⟨rfl, rfl⟩
          go_wp2_with fail
          refine (refcovers_at _ _ _ _ (by omega) (by omega) (by omega) (by omega) HB).mono ?_
          rintro e w' ⟨rfl, rfl⟩
          go_wp2_with fail
        · go_round
          case rel => exact ⟨m + 1, by omega, by go_num, fun j hj => by
            by_cases hjm : j = m
            · rw [hjm, HQ.out, HA.out, HB.out]; rfl
            · exact HM.out j (by omega)⟩
          case measure => simp [intOf]; omega
        · go_ret
          exact ⟨ret_int (by unfold refMeetN; rw [find_hit _ 5 m hmlt (by rw [HQ.out, HA.out, HB.out]; rfl) HM.out]; show ((q : Nat) : Int) = ((5 - m : Nat) : Int); rw [HQ.out]), hbel⟩
    · have h5 : m = 5 := by omega
      subst h5
      clear hcs
      go_wp2_with fail
      go_ret
      exact ⟨ret_int (by unfold refMeetN; rw [find_miss _ 5 HM.out]; rfl), hbel⟩
end Go.Proofs.Ytinakfhijcmodaa
