/- lex.number, bytes.Equal, bytes.HasPrefix, walked. Condition: number's text is of digits. -/
import Derived.Test.YtcccnicldbpieaaGreatDoorLxD
import Derived.Lib.ConvBytes
namespace Go.Proofs.YtcccnicldbpieaaGreatDoor
open Go Go.RowKit
set_option linter.unusedVariables false
set_option linter.unusedSimpArgs false
theorem Ext.bytesWorld (w : World) (e : TypeId) (s : ByteArray) : Ext w (Lib.bytesWorld w e s) :=
  ⟨rfl, rfl, rfl, by rw [Lib.bytesWorld_size]; omega, fun k hk => Lib.bytesWorld_at_old w e s k hk⟩
theorem numTo_le : ∀ (l : Bs) (n : Int) (m : Int), 0 ≤ n → (∀ c ∈ l, digitB c = true) → numTo n l = some m → 0 ≤ m
  | [], n, m, h, _, e => by injection e with e; omega
  | c :: r, n, m, h, hd, e => by
    unfold numTo at e
    split at e
    · cases e
    · have hc := hd c (List.mem_cons_self ..)
      simp [digitB] at hc
      exact numTo_le r _ m (by omega) (fun x hx => hd x (List.mem_cons_of_mem _ hx)) e
def numRet : Option Int → Value
  | some n => .tuple #[.int .i64 n, .int .i64 0]
  | none => .tuple #[.int .i64 0, .int .i64 31]
theorem ret_num {r r' : Option Int} {v : Value} (h : r = r') (hv : numRet r' = v) : Ending.returned v = .returned (numRet r) := by rw [h, hv]
theorem bstr_toList (l : Bs) : (bstr l).toList = l := by
  rw [← strOfNums_bnums, Lib.strOfNums_toList, bytesOf_bnums]
set_option maxHeartbeats 2000000 in
set_option maxRecDepth 100000 in
theorem number_any (l : Bs) (hd : ∀ c ∈ l, digitB c = true) (hl : l.length ≤ 140737488355328) (w : World) (r : Option Int) (hr : Hid (numTo 0 l = r)) :
    Calls Tryz.prog 66 #[.string (bstr l)] w fun e w' => e = .returned (numRet r) ∧ Ext w w' := by
  have hcv := Lib.run_convert_string_bytes (P := Tryz.prog) w 9 22 5 (bstr l) Tryz.underlying9 Tryz.underlying22 Tryz.underlying5
  have hsz : (bstr l).size = l.length := by simp [bstr, ByteArray.size]
  have hcell : ∀ j (h : j < l.length), (Lib.bytesWorld w 5 (bstr l)).cell? ⟨w.heap.size, j, none⟩ = some (.int .u8 (l[j].toNat : Int)) := fun j h => by
    rw [Lib.bytesWorld_cell w 5 (bstr l) j (by rw [hsz]; exact h)]
    simp [bstr, h]
  have HX := Lib.hid (Ext.bytesWorld w 5 (bstr l))
  have HC := Lib.hid hcell
  have HD := Lib.hid hd
  rw [hsz] at hcv
  clear hcell hsz hd
  generalize Lib.bytesWorld w 5 (bstr l) = w1 at *
  generalize grownCap w l.length 0 5 = cp at *
  generalize w.heap.size = gs at *
  go_enter Tryz.func66, Tryz.ntmps66
  go_wp2_with fail
  go_loop [2, 9] (fun n i => ∃ (k : Nat) (m : Int), k ≤ l.length ∧ i = .int .i64 k ∧ n = .int .i64 m ∧ 0 ≤ m ∧ m ≤ 2147483647 ∧ Hid (numTo m (l.drop k) = r)) (fun _ i => l.length - (intOf i).toNat)
  case atStart => exact ⟨0, 0, Nat.zero_le _, rfl, rfl, by omega, by omega, hr⟩
  case round =>
    obtain ⟨k, m, hk, rfl, rfl, hm0, hm1, HN⟩ := hrel
    by_cases hlt : k < l.length
    · have e0 := HC.out k hlt
      have hdg := HD.out _ (List.getElem_mem hlt)
      have hnt := HN.out
      rw [List.drop_eq_getElem_cons hlt] at hnt
      have HNT := Lib.hid hnt
      clear hnt
      generalize l[k] = c at *
      have hc : 48 ≤ c.toNat ∧ c.toNat ≤ 57 := by simpa [digitB] using hdg
      obtain ⟨hc1, hc2⟩ := hc
      clear hdg
      have q0 : (k : Int) < (l.length : Int) := by omega
      by_cases hbig : 2147483647 < m * 10 + ((c.toNat : Int) - 48)
      · have HR : Hid (r = none) := Lib.hid (by rw [← HNT.out]; unfold numTo; rw [if_pos hbig])
        go_wp2_with fail
        go_ret2
        exact ⟨ret_num HR.out rfl, HX.out⟩
      · have HR : Hid (numTo (m * 10 + ((c.toNat : Int) - 48)) (l.drop (k + 1)) = r) := Lib.hid (by rw [← HNT.out]; conv => rhs; unfold numTo; rw [if_neg hbig])
        go_wp2_with fail
        go_round
        case rel => exact ⟨k + 1, m * 10 + ((c.toNat : Int) - 48), by omega, by go_num, by go_num, by omega, by omega, HR⟩
        case measure => simp [intOf]; omega
    · obtain rfl : k = l.length := by omega
      have HR : Hid (r = some m) := Lib.hid (by rw [← HN.out, List.drop_eq_nil_of_le (Nat.le_refl _)]; rfl)
      go_wp2_with fail
      go_ret2
      exact ⟨ret_num HR.out rfl, HX.out⟩
set_option maxHeartbeats 1000000 in
theorem equal_any (v1 v2 : Value) (a b : Bs) (w : World)
    (h1 : (convert 22 9 v1).run Tryz.prog w = .ok (.string (bstr a)) w) (h2 : (convert 22 9 v2).run Tryz.prog w = .ok (.string (bstr b)) w) :
    Calls Tryz.prog 93 #[v1, v2] w fun e w' => e = .returned (.bool (a == b)) ∧ w' = w := by
  have HE := Lib.hid (show ((bstr a).toList == (bstr b).toList) = (a == b) by rw [bstr_toList, bstr_toList])
  go_enter Tryz.func93, Tryz.ntmps93
  go_wp2_with fail
  go_ret
  exact ⟨ret_bool HE.out, rfl⟩
set_option maxHeartbeats 1000000 in
theorem hasPrefix_any (A B : Option Addr) (a b : Bs) (n m c d : Nat) (w : World) (hn : n = a.length) (hm : m = b.length) (hc : n ≤ c) (hA : Cells w A (bcells a)) (hB : Cells w B (bcells b)) :
    Calls Tryz.prog 67 #[.slice A n c, .slice B m d] w fun e w' => e = .returned (.bool (decide (b.length ≤ a.length) && (a.take b.length == b))) ∧ w' = w := by
  subst hn hm
  have h2 := run_bytes_str (P := Tryz.prog) (n := b.length) (c := d) Tryz.underlying22 Tryz.underlying5 Tryz.underlying9 rfl hB
  have HA := Lib.hid hA
  clear hA hB
  by_cases hle : b.length ≤ a.length
  · have d0 : decide (b.length ≤ a.length) = true := decide_eq_true hle
    have h1 := run_bytes_str (P := Tryz.prog) (w := w) (A := A) (l := a.take b.length) (n := b.length) (c := c) Tryz.underlying22 Tryz.underlying5 Tryz.underlying9 (by simp; omega) (by
      have h := cells_cut HA.out hc 0 b.length
      rw [List.drop_zero] at h
      unfold cutA at h
      split at h
      · exact h
      · cases A with
        | none => exact h
        | some x => exact h)
    have H := Lib.hid (equal_any _ _ _ _ _ h1 h2)
    have HD : Hid ((a.take b.length == b) = (decide (b.length ≤ a.length) && (a.take b.length == b))) := Lib.hid (by rw [d0, Bool.true_and])
    clear h1 h2
    go_enter Tryz.func67, Tryz.ntmps67
    go_wp2_with fail
    refine H.out.mono ?_
    rintro e w' ⟨rfl, rfl⟩
    go_wp2_with fail
    go_ret
    exact ⟨ret_bool HD.out, rfl⟩
  · have d0 : decide (b.length ≤ a.length) = false := decide_eq_false hle
    have HD : Hid (false = (decide (b.length ≤ a.length) && (a.take b.length == b))) := Lib.hid (by rw [d0, Bool.false_and])
    go_enter Tryz.func67, Tryz.ntmps67
    go_wp2_with fail
    go_ret
    exact ⟨ret_bool HD.out, rfl⟩
end Go.Proofs.YtcccnicldbpieaaGreatDoor
