/- The document's tests of bytes, and its numbers, walked. Condition: number's text is of digits. -/
import Derived.Test.YtcccnicldbpieaaGreatDoorLxF
namespace Go.Proofs.YtcccnicldbpieaaGreatDoor
open Go Go.RowKit
set_option linter.unusedVariables false
set_option linter.unusedSimpArgs false
theorem toNat_ne {x y : UInt8} (h : x ≠ y) : ((x.toNat : Int) == (y.toNat : Int)) = false := by
  rw [beq_eq_false_iff_ne]
  intro e
  exact h (UInt8.toNat_inj.1 (by omega))
set_option maxHeartbeats 1000000 in
theorem letter_v (x : UInt8) (b : Bool) (hb : Hid (letterB x = b)) (w : World) : Calls Tryz.prog 48 #[.int .u8 (x.toNat : Int)] w fun e w' => e = .returned (.bool b) ∧ w = w' := by
  have HB := hb
  go_enter Tryz.func48, Tryz.ntmps48
  by_cases h1 : 97 ≤ x.toNat
  · have d1 : decide ((97 : Int) ≤ (x.toNat : Int)) = true := decide_eq_true (by omega)
    by_cases h2 : x.toNat ≤ 122
    · have d2 : decide ((x.toNat : Int) ≤ 122) = true := decide_eq_true (by omega)
      have HR : Hid (b = true) := Lib.hid (by rw [← HB.out]; unfold letterB; rw [decide_eq_true h1, decide_eq_true h2]; rfl)
      go_wp2_with fail
      go_ret
      exact ⟨ret_bool HR.out.symm, rfl⟩
    · have d2 : decide ((x.toNat : Int) ≤ 122) = false := decide_eq_false (by omega)
      have HR : Hid (b = false) := Lib.hid (by rw [← HB.out]; unfold letterB; rw [decide_eq_false h2, Bool.and_false])
      go_wp2_with fail
      go_ret
      exact ⟨ret_bool HR.out.symm, rfl⟩
  · have d1 : decide ((97 : Int) ≤ (x.toNat : Int)) = false := decide_eq_false (by omega)
    have HR : Hid (b = false) := Lib.hid (by rw [← HB.out]; unfold letterB; rw [decide_eq_false h1, Bool.false_and])
    go_wp2_with fail
    go_ret
    exact ⟨ret_bool HR.out.symm, rfl⟩
set_option maxHeartbeats 1000000 in
theorem digit_v (x : UInt8) (b : Bool) (hb : Hid (digitB x = b)) (w : World) : Calls Tryz.prog 49 #[.int .u8 (x.toNat : Int)] w fun e w' => e = .returned (.bool b) ∧ w = w' := by
  have HB := hb
  go_enter Tryz.func49, Tryz.ntmps49
  by_cases h1 : 48 ≤ x.toNat
  · have d1 : decide ((48 : Int) ≤ (x.toNat : Int)) = true := decide_eq_true (by omega)
    by_cases h2 : x.toNat ≤ 57
    · have d2 : decide ((x.toNat : Int) ≤ 57) = true := decide_eq_true (by omega)
      have HR : Hid (b = true) := Lib.hid (by rw [← HB.out]; unfold digitB; rw [decide_eq_true h1, decide_eq_true h2]; rfl)
      go_wp2_with fail
      go_ret
      exact ⟨ret_bool HR.out.symm, rfl⟩
    · have d2 : decide ((x.toNat : Int) ≤ 57) = false := decide_eq_false (by omega)
      have HR : Hid (b = false) := Lib.hid (by rw [← HB.out]; unfold digitB; rw [decide_eq_false h2, Bool.and_false])
      go_wp2_with fail
      go_ret
      exact ⟨ret_bool HR.out.symm, rfl⟩
  · have d1 : decide ((48 : Int) ≤ (x.toNat : Int)) = false := decide_eq_false (by omega)
    have HR : Hid (b = false) := Lib.hid (by rw [← HB.out]; unfold digitB; rw [decide_eq_false h1, Bool.false_and])
    go_wp2_with fail
    go_ret
    exact ⟨ret_bool HR.out.symm, rfl⟩
set_option maxHeartbeats 1000000 in
theorem blank_v (x : UInt8) (b : Bool) (hb : Hid (blankB x = b)) (w : World) : Calls Tryz.prog 47 #[.int .u8 (x.toNat : Int)] w fun e w' => e = .returned (.bool b) ∧ w = w' := by
  have key : blankB x = (((x.toNat : Int) == 32) || (((x.toNat : Int) == 9) || (((x.toNat : Int) == 10) || ((x.toNat : Int) == 13)))) := by
    have h : ∀ (y : UInt8) (n : Int), (y.toNat : Int) = n → ((x.toNat : Int) == n) = (x == y) := by
      intro y n hn
      subst hn
      rw [Bool.eq_iff_iff, beq_iff_eq, beq_iff_eq, ← UInt8.toNat_inj]
      omega
    rw [h 32 32 rfl, h 9 9 rfl, h 10 10 rfl, h 13 13 rfl]
    unfold blankB
    simp only [Bool.or_assoc]
  rw [key] at hb
  clear key
  have HB := hb
  clear hb
  go_enter Tryz.func47, Tryz.ntmps47
  cases h1 : ((x.toNat : Int) == 32) with
  | true =>
    rw [h1] at HB
    have HR : Hid (b = true) := Lib.hid (by rw [← HB.out]; rfl)
    go_wp2_with fail
    go_ret
    exact ⟨ret_bool HR.out.symm, rfl⟩
  | false =>
    rw [h1] at HB
    cases h2 : ((x.toNat : Int) == 9) with
    | true =>
      rw [h2] at HB
      have HR : Hid (b = true) := Lib.hid (by rw [← HB.out]; rfl)
      go_wp2_with fail
      go_ret
      exact ⟨ret_bool HR.out.symm, rfl⟩
    | false =>
      rw [h2] at HB
      cases h3 : ((x.toNat : Int) == 10) with
      | true =>
        rw [h3] at HB
        have HR : Hid (b = true) := Lib.hid (by rw [← HB.out]; rfl)
        go_wp2_with fail
        go_ret
        exact ⟨ret_bool HR.out.symm, rfl⟩
      | false =>
        rw [h3] at HB
        have HR : Hid (((x.toNat : Int) == 13) = b) := HB
        go_wp2_with fail
        go_ret
        exact ⟨ret_bool HR.out, rfl⟩
set_option maxHeartbeats 4000000 in
set_option maxRecDepth 100000 in
theorem one_v (x : UInt8) (b : Bool) (hb : Hid (markB x = b)) (w : World) : Calls Tryz.prog 51 #[.int .u8 (x.toNat : Int)] w fun e w' => e = .returned (.bool b) ∧ Ext w w' := by
  have HB := hb
  clear hb
  have hcs := run_convert_mark (P := Tryz.prog) (w.alloc (.cells #[.int .u8 123, .int .u8 125, .int .u8 40, .int .u8 41, .int .u8 91, .int .u8 93, .int .u8 59, .int .u8 44, .int .u8 46, .int .u8 43, .int .u8 45, .int .u8 42, .int .u8 60, .int .u8 61] 5)) 22 5 Tryz.underlying22 Tryz.underlying5 w.heap.size 14 14 (heap_alloc_new _ _)
  obtain ⟨fr, hfr⟩ := heap_freeze_at (w.alloc (.cells #[.int .u8 123, .int .u8 125, .int .u8 40, .int .u8 41, .int .u8 91, .int .u8 93, .int .u8 59, .int .u8 44, .int .u8 46, .int .u8 43, .int .u8 45, .int .u8 42, .int .u8 60, .int .u8 61] 5)) w.heap.size 14 (heap_alloc_new _ _)
  have hx : Ext w ((w.alloc (.cells #[.int .u8 123, .int .u8 125, .int .u8 40, .int .u8 41, .int .u8 91, .int .u8 93, .int .u8 59, .int .u8 44, .int .u8 46, .int .u8 43, .int .u8 45, .int .u8 42, .int .u8 60, .int .u8 61] 5)).freeze ⟨w.heap.size, 14, none⟩ 1) :=
    ⟨rfl, rfl, rfl, by simp [World.freeze], fun k hk => (heap_freeze _ _ _ _ (by omega)).trans ((Ext.alloc w _).block k hk)⟩
  rw [show (#[.int .u8 123, .int .u8 125, .int .u8 40, .int .u8 41, .int .u8 91, .int .u8 93, .int .u8 59, .int .u8 44, .int .u8 46, .int .u8 43, .int .u8 45, .int .u8 42, .int .u8 60, .int .u8 61] : Array Value).size = 14 from rfl] at hcs
  generalize ((w.alloc (.cells #[.int .u8 123, .int .u8 125, .int .u8 40, .int .u8 41, .int .u8 91, .int .u8 93, .int .u8 59, .int .u8 44, .int .u8 46, .int .u8 43, .int .u8 45, .int .u8 42, .int .u8 60, .int .u8 61] 5)).freeze ⟨w.heap.size, 14, none⟩ 1) = w2 at *
  have hcell : ∀ k (h : k < markL.length), w2.cell? ⟨w.heap.size, k, none⟩ = some (.int .u8 (markL[k].toNat : Int)) := fun k h => by
    rw [cell_of_row w2 w.heap.size k _ _ fr hfr]
    have hk : k < 14 := h
    have : k = 0 ∨ k = 1 ∨ k = 2 ∨ k = 3 ∨ k = 4 ∨ k = 5 ∨ k = 6 ∨ k = 7 ∨ k = 8 ∨ k = 9 ∨ k = 10 ∨ k = 11 ∨ k = 12 ∨ k = 13 := by omega
    rcases this with rfl | rfl | rfl | rfl | rfl | rfl | rfl | rfl | rfl | rfl | rfl | rfl | rfl | rfl <;> rfl
  have HX := Lib.hid hx
  have HC := Lib.hid hcell
  clear hx hcell hfr
  go_enter Tryz.func51, Tryz.ntmps51
  go_wp2_with fail
  go_loop [8] (fun i => ∃ k : Nat, k ≤ 14 ∧ i = .int .i64 k ∧ Hid ((markL.drop k).contains x = b)) (fun i => 14 - (intOf i).toNat)
  case atStart => exact ⟨0, Nat.zero_le _, rfl, HB⟩
  case round =>
    obtain ⟨k, hk, rfl, HK⟩ := hrel
    by_cases hlt : k < 14
    · have hlm : k < markL.length := hlt
      have e0 := HC.out k hlm
      have hcc := HK.out
      rw [List.drop_eq_getElem_cons hlm, List.contains_cons] at hcc
      have HCC := Lib.hid hcc
      clear hcc HK
      have q0 : (k : Int) < 14 := by omega
      generalize markL[k] = y at *
      by_cases hxy : y = x
      · subst hxy
        have HR : Hid (b = true) := Lib.hid (by rw [← HCC.out]; simp)
        have d1 : ((y.toNat : Int) == (y.toNat : Int)) = true := by simp
        go_wp2_with fail
        go_ret
        exact ⟨ret_bool HR.out.symm, HX.out⟩
      · have d1 := toNat_ne hxy
        have HR : Hid ((markL.drop (k + 1)).contains x = b) := Lib.hid (by rw [← HCC.out]; simp [Ne.symm hxy])
        go_wp2_with fail
        go_round
        case rel => exact ⟨k + 1, by omega, by go_num, HR⟩
        case measure => simp [intOf]; omega
    · obtain rfl : k = 14 := by omega
      have HR : Hid (b = false) := Lib.hid (by rw [← HK.out]; rfl)
      rw [show ((14 : Nat) : Int) = 14 from rfl]
      go_wp2_with fail
      go_ret
      exact ⟨ret_bool HR.out.symm, HX.out⟩
def rnumRet : Option Int → Value
  | some n => .tuple #[.int .i64 n, .bool true]
  | none => .tuple #[.int .i64 0, .bool false]
theorem ret_rnum {r r' : Option Int} {v : Value} (h : r = r') (hv : rnumRet r' = v) : Ending.returned v = .returned (rnumRet r) := by rw [h, hv]
set_option maxHeartbeats 2000000 in
set_option maxRecDepth 100000 in
theorem rnumber_any (l : Bs) (hd : ∀ c ∈ l, digitB c = true) (hl : l.length ≤ 140737488355328) (w : World) (r : Option Int) (hr : Hid (numTo 0 l = r)) :
    Calls Tryz.prog 50 #[.string (bstr l)] w fun e w' => e = .returned (rnumRet r) ∧ w = w' := by
  have hsz : (bstr l).size = l.length := by simp [bstr, ByteArray.size]
  have hat : ∀ k (h : k < l.length), (bstr l)[k]'(by rw [hsz]; exact h) = l[k] := fun k h => by
    show (l.toArray)[k] = l[k]
    simp
  have HD := Lib.hid hd
  have HAT := Lib.hid hat
  clear hd hat
  go_enter Tryz.func50, Tryz.ntmps50
  go_wp2_with fail
  go_loop [4, 5] (fun n i => ∃ (k : Nat) (m : Int), k ≤ l.length ∧ i = .int .i64 k ∧ n = .int .i64 m ∧ 0 ≤ m ∧ m ≤ 2147483647 ∧ Hid (numTo m (l.drop k) = r)) (fun _ i => l.length - (intOf i).toNat)
  case atStart => exact ⟨0, 0, Nat.zero_le _, rfl, rfl, by omega, by omega, hr⟩
  case round =>
    obtain ⟨k, m, hk, rfl, rfl, hm0, hm1, HN⟩ := hrel
    by_cases hlt : k < l.length
    · have e0 := HAT.out k hlt
      have hdg := HD.out _ (List.getElem_mem hlt)
      have hnt := HN.out
      rw [List.drop_eq_getElem_cons hlt] at hnt
      have HNT := Lib.hid hnt
      clear hnt
      generalize l[k] = c at *
      have hc : 48 ≤ c.toNat ∧ c.toNat ≤ 57 := by simpa [digitB] using hdg
      obtain ⟨hc1, hc2⟩ := hc
      clear hdg
      have q0 : (k : Int) < (l.length : Int) := by omega
      by_cases hbig : 2147483647 < m * 10 + ((c.toNat : Int) - 48)
      · have HR : Hid (r = none) := Lib.hid (by rw [← HNT.out]; unfold numTo; rw [if_pos hbig])
        go_wp2_with fail
        go_ret2
        exact ⟨ret_rnum HR.out rfl, rfl⟩
      · have HR : Hid (numTo (m * 10 + ((c.toNat : Int) - 48)) (l.drop (k + 1)) = r) := Lib.hid (by rw [← HNT.out]; conv => rhs; unfold numTo; rw [if_neg hbig])
        go_wp2_with fail
        go_round
        case rel => exact ⟨k + 1, m * 10 + ((c.toNat : Int) - 48), by omega, by go_num, by go_num, by omega, by omega, HR⟩
        case measure => simp [intOf]; omega
    · obtain rfl : k = l.length := by omega
      have HR : Hid (r = some m) := Lib.hid (by rw [← HN.out, List.drop_eq_nil_of_le (Nat.le_refl _)]; rfl)
      go_wp2_with fail
      go_ret2
      exact ⟨ret_rnum HR.out rfl, rfl⟩
end Go.Proofs.YtcccnicldbpieaaGreatDoor
