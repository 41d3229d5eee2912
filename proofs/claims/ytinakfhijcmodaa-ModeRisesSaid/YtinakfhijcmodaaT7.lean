/- Chapter 01, modes: walks of the program and of its reference, function by function: what each call returns, for every input of its kind and in whatever memory; what was in memory stays. -/
import Derived.Test.YtinakfhijcmodaaT6
namespace Go.Proofs.Ytinakfhijcmodaa
open Go.RowKit
set_option linter.unusedVariables false
set_option linter.unusedSimpArgs false
theorem ext_alloc (w : World) (o : Obj) : Ext w (w.alloc o) := Ext.alloc w o
def allC (m : Int) (l : List Int) : Bool := l.all fun i => coversN m i
theorem allC_snoc (m : Int) (l : List Int) (k : Nat) (h : k < l.length) : allC m (l.take (k + 1)) = (allC m (l.take k) && coversN m (l.getD k 0)) := by
  unfold allC
  rw [List.take_succ_eq_append_getElem h, List.all_append]
  simp [List.getD, h]
def refJoinN (l : List Int) : Int := (((List.range 5).find? fun m => allC (m : Nat) l).getD 5 : Nat)
theorem find_hit (p : Nat → Bool) (n m : Nat) (hm : m < n) (hp : p m = true) (hn : ∀ j, j < m → p j = false) : (List.range n).find? p = some m := by
  rw [List.find?_eq_some_iff_getElem]
  refine ⟨hp, m, by simpa using hm, by simp, fun j hj => ?_⟩
  simp [hn j hj]
theorem find_miss (p : Nat → Bool) (n : Nat) (hn : ∀ j, j < n → p j = false) : (List.range n).find? p = none := by
  rw [List.find?_eq_none]
  intro x hx
  rw [hn x (List.mem_range.1 hx)]; simp
set_option maxHeartbeats 2000000 in
theorem refjoin_any (A : Option Addr) (l : List Int) (c : Nat) (w : World) (hl : l.length ≤ 1000) (hr : Row8 w A l) (hm : ∀ k, 0 ≤ l.getD k 0 ∧ l.getD k 0 < 256) :
    Calls Try.prog 17 #[.slice A l.length c] w fun e w' => e = .returned (.int .u8 (refJoinN l)) ∧ Below w.heap.size w w' := by
  go_enter Try.func17, Try.ntmps17
  go_wp2_with fail
  have hx := Ext.alloc w (.cells #[.int .u8 0, .int .u8 1, .int .u8 2, .int .u8 3, .int .u8 4] 31)
  have hr1 := Lib.hid (hr.ext hx)
  have hcs : ∀ m, m < 5 → (w.alloc (.cells #[.int .u8 0, .int .u8 1, .int .u8 2, .int .u8 3, .int .u8 4] 31)).cell? ⟨w.heap.size, m, none⟩ = some (.int .u8 (m : Nat)) := by
    intro m hm
    rw [(Blk.new w 31 _).cell]
    match m, hm with
    | 0, _ => rfl
    | 1, _ => rfl
    | 2, _ => rfl
    | 3, _ => rfl
    | 4, _ => rfl
  have hbel : Hid (Below w.heap.size w (w.alloc (.cells #[.int .u8 0, .int .u8 1, .int .u8 2, .int .u8 3, .int .u8 4] 31))) := hx
  clear hx hr
  generalize w.alloc (.cells #[.int .u8 0, .int .u8 1, .int .u8 2, .int .u8 3, .int .u8 4] 31) = w1 at *
  go_loop [9] (fun i => ∃ m : Nat, m ≤ 5 ∧ i = .int .i64 m ∧ Hid (∀ j, j < m → allC (j : Nat) l = false)) (fun i => 5 - (intOf i).toNat)
  case atStart => exact ⟨0, by omega, rfl, fun j hj => by omega⟩
  case round =>
    obtain ⟨m, hm5, rfl, HM⟩ := hrel
    by_cases hmlt : m < 5
    · have hcm := hcs m hmlt
      clear hcs
      go_wp2_with fail
      go_loop [5, 6] (fun a i => ∃ k : Nat, k ≤ l.length ∧ i = .int .i64 k ∧ a = .bool (allC (m : Nat) (l.take k))) (fun _ i => l.length - (intOf i).toNat)
      case atStart => exact ⟨0, Nat.zero_le _, rfl, rfl⟩
      case round =>
        obtain ⟨k, hk, rfl, rfl⟩ := hrel
        by_cases hklt : k < l.length
        · rcases hr1.out with hnil | ⟨b, off, rfl, hblt, hc⟩
          · rw [hnil] at hklt; simp at hklt
          have hcell := hc k hklt
          have hmk := hm k
          have hsn := Lib.hid (allC_snoc (m : Nat) l k hklt)
          clear hc hm hcm
          cases ha : allC (m : Nat) (l.take k)
          · rw [ha] at hsn
            generalize l.getD k 0 = x at *
            have HA := Lib.hid ha
            clear ha
            go_wp2_with fail
            go_round
            case rel => exact ⟨k + 1, by omega, by go_num, by rw [hsn.out]; rfl⟩
            case measure => simp [intOf]; omega
          · rw [ha] at hsn
            generalize l.getD k 0 = x at *
            have HA := Lib.hid ha
            clear ha
            go_wp2_with fail
            refine (refcovers_at _ _ _ _ (by omega) (by omega) (by omega) (by omega) (Lib.hid rfl)).mono ?_
            rintro e w' ⟨rfl, rfl⟩
            go_wp2_with fail
            go_round
            case rel => exact ⟨k + 1, by omega, by go_num, by rw [hsn.out]; rfl⟩
            case measure => simp [intOf]; omega
        · have hkk : k = l.length := by omega
          have HJ : Hid (allC (m : Nat) (l.take k) = allC (m : Nat) l) := by rw [hkk, List.take_length]; exact Lib.hid rfl
          clear hm hkk
          generalize allC (m : Nat) (l.take k) = j at *
          cases j
          · go_wp2_with fail
            go_round
            case rel => exact ⟨m + 1, by omega, by go_num, fun j hj => by
              by_cases hjm : j = m
              · rw [hjm]; exact HJ.out.symm
              · exact HM.out j (by omega)⟩
            case measure => simp [intOf]; omega
          · go_wp2_with fail
            go_ret
            exact ⟨ret_int (by unfold refJoinN; rw [find_hit _ 5 m hmlt HJ.out.symm HM.out]; rfl), hbel⟩
    · have h5 : m = 5 := by omega
      subst h5
      clear hcs
      go_wp2_with fail
      go_ret
      exact ⟨ret_int (by unfold refJoinN; rw [find_miss _ 5 HM.out]; rfl), hbel⟩
end Go.Proofs.Ytinakfhijcmodaa
