/- Of what kind a word is by its first byte (next's inner function), walked. No condition. -/
import Derived.Test.YtcccnicldbpieaaGreatDoorLxC
import Derived.Test.YtcccnicldbpieaaGreatDoorLxT
import Derived.Laws.IdiomRangeMap
namespace Go.Proofs.YtcccnicldbpieaaGreatDoor
open Go Go.RowKit
set_option linter.unusedVariables false
set_option linter.unusedSimpArgs false
def kindB (c : UInt8) : Nat := if letterB c then 1 else if digitB c then 2 else if markB c then 3 else 0
def lettersS : ByteArray := ⟨#[97, 98, 99, 100, 101, 102, 103, 104, 105, 106, 107, 108, 109, 110, 111, 112, 113, 114, 115, 116, 117, 118, 119, 120, 121, 122]⟩
def digitsS : ByteArray := ⟨#[48, 49, 50, 51, 52, 53, 54, 55, 56, 57]⟩
def marksS : ByteArray := ⟨#[123, 125, 40, 41, 91, 93, 59, 44, 46, 43, 45, 42, 60, 61]⟩
theorem letters_set : IsSet lettersS letterB := by unfold IsSet; decide +kernel
theorem digits_set : IsSet digitsS digitB := by unfold IsSet; decide +kernel
theorem marks_set : IsSet marksS markB := by unfold IsSet; decide +kernel
def kindEs : Array MapEntry := #[{ key := .int .u8 1, val := .string lettersS, born := 0 }, { key := .int .u8 2, val := .string digitsS, born := 1 }, { key := .int .u8 3, val := .string marksS, born := 2 }]
theorem kinds_apart : ∀ n : Nat, n < 256 → (letterB n.toUInt8 = true → kindB n.toUInt8 = 1) ∧ (digitB n.toUInt8 = true → kindB n.toUInt8 = 2) ∧ (markB n.toUInt8 = true → kindB n.toUInt8 = 3) ∧ (letterB n.toUInt8 = false → digitB n.toUInt8 = false → markB n.toUInt8 = false → kindB n.toUInt8 = 0) := by decide +kernel
/-- Whether an entry has the byte. -/
def entryHas (c : UInt8) (x : MapEntry) : Bool := match x.val with | .string s => decide (0 ≤ Lib.indexByte s.data.toList c) | _ => false
theorem entries_of (c : UInt8) (e : MapEntry) (he : e ∈ kindEs.toList) : ∃ (k : Int) (s : ByteArray), e.key = .int .u8 k ∧ e.val = .string s ∧ (decide (0 ≤ Lib.indexByte s.data.toList c) = true → (kindB c : Int) = k) := by
  have h := kinds_apart c.toNat c.toNat_lt
  rw [show c.toNat.toUInt8 = c from by simp] at h
  have he' : e = { key := .int .u8 1, val := .string lettersS, born := 0 } ∨ e = { key := .int .u8 2, val := .string digitsS, born := 1 } ∨ e = { key := .int .u8 3, val := .string marksS, born := 2 } := by simpa [kindEs] using he
  rcases he' with rfl | rfl | rfl
  · exact ⟨1, lettersS, rfl, rfl, fun hh => by rw [letters_set.at_] at hh; rw [h.1 hh]; rfl⟩
  · exact ⟨2, digitsS, rfl, rfl, fun hh => by rw [digits_set.at_] at hh; rw [h.2.1 hh]; rfl⟩
  · exact ⟨3, marksS, rfl, rfl, fun hh => by rw [marks_set.at_] at hh; rw [h.2.2.1 hh]; rfl⟩
theorem none_of (c : UInt8) (h : ∀ x ∈ kindEs.toList, entryHas c x = false) : (kindB c : Int) = 0 := by
  have hk := kinds_apart c.toNat c.toNat_lt
  rw [show c.toNat.toUInt8 = c from by simp] at hk
  have h1 := h { key := .int .u8 1, val := .string lettersS, born := 0 } (by simp [kindEs])
  have h2 := h { key := .int .u8 2, val := .string digitsS, born := 1 } (by simp [kindEs])
  have h3 := h { key := .int .u8 3, val := .string marksS, born := 2 } (by simp [kindEs])
  simp only [entryHas, letters_set.at_, digits_set.at_, marks_set.at_] at h1 h2 h3
  rw [hk.2.2.2 h1 h2 h3]
  rfl
theorem kindEs_stamped : MapKept.Stamped kindEs 3 := by
  refine ⟨?_, ?_, ?_⟩
  · intro x hx
    have he' : x = { key := .int .u8 1, val := .string lettersS, born := 0 } ∨ x = { key := .int .u8 2, val := .string digitsS, born := 1 } ∨ x = { key := .int .u8 3, val := .string marksS, born := 2 } := by simpa [kindEs] using hx
    rcases he' with rfl | rfl | rfl <;> decide
  · simp [kindEs]
  · simp [kindEs]
theorem Ext.alike {w w1 w2 : World} (h : Ext w w1) (ha : w2.Alike w1) (ht : w2.tape = w1.tape) : Ext w w2 := by
  obtain ⟨a, b, c⟩ := ha
  exact ⟨b.trans h.os, ht.trans h.tape, c.trans h.output, by rw [a]; exact h.size, fun k hk => by rw [a]; exact h.block k hk⟩
set_option maxHeartbeats 2000000 in
set_option maxRecDepth 100000 in
theorem kind_any (c : UInt8) (w : World) :
    Calls Tryz.prog 64 #[.int .u8 (c.toNat : Int)] w fun e w' => e = .returned (.int .u8 (kindB c : Int)) ∧ Ext w w' := by
  go_enter Tryz.func64, Tryz.ntmps64
  go_wp2_with (refine wpList_makeMap rfl 109 rfl ?_)
  intro w1 hx1 hm0 hs1
  refine wpList_insert rfl 109 (.tmp 6) (.const (.int .u8 1)) (.const (.string lettersS)) rfl Tryz.underlying109 Tryz.underlying5 w.heap.size 0 #[] 1 (.string lettersS) rfl rfl rfl hm0 rfl ?_
  intro w2 ht2 hm2
  refine wpList_insert rfl 109 (.tmp 6) (.const (.int .u8 2)) (.const (.string digitsS)) rfl Tryz.underlying109 Tryz.underlying5 w.heap.size 1 _ 2 (.string digitsS) rfl rfl rfl hm2 rfl ?_
  intro w3 ht3 hm3
  refine wpList_insert rfl 109 (.tmp 6) (.const (.int .u8 3)) (.const (.string marksS)) rfl Tryz.underlying109 Tryz.underlying5 w.heap.size 2 _ 3 (.string marksS) rfl rfl rfl hm3 rfl ?_
  intro w4 ht4 hm4
  have hx4 : Ext w w4 := ht4.ext (ht3.ext (ht2.ext hx1 (Nat.le_refl _)) (Nat.le_refl _)) (Nat.le_refl _)
  have hm4' : w4.heap[w.heap.size]? = some (.map kindEs 3) := hm4
  have hs4 : w4.heap.size = w.heap.size + 1 := by rw [ht4.size, ht3.size, ht2.size, hs1]
  have HX4 := Lib.hid hx4
  have HS4 := Lib.hid hs4
  clear hx1 hm0 hs1 ht2 hm2 ht3 hm3 ht4 hm4 hx4 hs4
  have hrg := run_range_map (P := Tryz.prog) w4 109 5 9 w.heap.size kindEs 3 Tryz.underlying109 hm4'
  have HM4 := Lib.hid hm4'
  clear hm4'
  go_wp2_with fail
  go_loopw [] (fun wr => ∃ (w5 : World) (seen : Array Nat), w5.Alike w4 ∧ Hid (w5.tape = w4.tape) ∧ wr = w5.alloc (.mapIter (some w.heap.size) 3 seen 3) ∧ Hid (∀ x ∈ kindEs.toList, seen.contains x.born = true → entryHas c x = false)) (fun wr => (leftOf kindEs (wr.iterSeen w4.heap.size)).size)
  case atStart => exact ⟨w4, #[], ⟨rfl, rfl, rfl⟩, Lib.hid rfl, rfl, Lib.hid fun x _ h => by simp at h⟩
  case round =>
    obtain ⟨w5, seen, hal, HT, rfl, HNO⟩ := hrel
    have hsz : w5.heap.size = w4.heap.size := by rw [hal.1]
    have hb5 : w5.heap[w.heap.size]? = some (.map kindEs 3) := by rw [hal.1]; exact HM4.out
    have law := run_next_map (P := Tryz.prog) w5 0 w.heap.size 3 3 seen kindEs 3 hb5 kindEs_stamped.1 (Nat.le_refl _)
    rw [hsz] at law
    have HSZ := Lib.hid hsz
    have HAL := Lib.hid hal
    clear hal hsz
    rcases law with ⟨h0, hrun⟩ | ⟨e, he, w6, hal2, hrun⟩
    · have hnx : ∀ ty, (Instr.next (.pointer (some ⟨w4.heap.size, 0, none⟩)) false ty).run Tryz.prog (w5.alloc (.mapIter (some w.heap.size) 3 seen 3)) = _ := fun _ => hrun
      have hk := none_of c fun x hx => HNO.out x hx (all_seen kindEs seen h0 x hx)
      have HK := Lib.hid hk
      have HX : Hid (Ext w (w5.alloc (.mapIter (some w.heap.size) 3 seen 3))) := Lib.hid (((HX4.out).alike HAL.out HT.out).trans (Ext.alloc _ _))
      clear hk h0 hrun hb5
      go_wp2_with fail
      go_ret
      exact ⟨ret_int HK.out.symm, HX.out⟩
    · obtain ⟨kk, s, hkey, hval, himp⟩ := entries_of c e (mem_left he).1
      have htp0 := next_tape hrun
      have htp : w6.tape = w5.tape := htp0
      clear htp0
      rw [hval, hkey] at hrun
      have hnx : ∀ ty, (Instr.next (.pointer (some ⟨w4.heap.size, 0, none⟩)) false ty).run Tryz.prog (w5.alloc (.mapIter (some w.heap.size) 3 seen 3)) = _ := fun _ => hrun
      have hsz6 : w6.heap.size = w4.heap.size := by rw [hal2.1]; exact HSZ.out
      have hb6 : w6.heap[w.heap.size]? = some (.map kindEs 3) := by rw [hal2.1]; exact hb5
      have hen := run_entry_map (P := Tryz.prog) w6 w.heap.size 3 seen kindEs 3 e hb6 (mem_left he).1 kindEs_stamped.2.1
      rw [hsz6, hval, hkey] at hen
      have HAL3 : Hid (w6.Alike w4) := Lib.hid ⟨hal2.1.trans HAL.out.1, hal2.2.1.trans HAL.out.2.1, hal2.2.2.trans HAL.out.2.2⟩
      have HT3 : Hid (w6.tape = w4.tape) := Lib.hid (htp.trans HT.out)
      have HX : Hid (Ext w (w6.alloc (.mapIter (some w.heap.size) 3 (seen.push e.born) 3))) := Lib.hid (((HX4.out).alike HAL3.out HT3.out).trans (Ext.alloc _ _))
      have HIM := Lib.hid himp
      have hEH : entryHas c e = decide (0 ≤ Lib.indexByte s.data.toList c) := by unfold entryHas; rw [hval]
      have HEH := Lib.hid hEH
      have HE := Lib.hid he
      have HS6 := Lib.hid hsz6
      have hcall : ∀ W : World, Calls Tryz.prog 65 #[.string s, .int .u8 (c.toNat : Int)] W fun e w' => e = .returned (.int .i64 (Lib.indexByte s.data.toList c)) ∧ w' = W := fun W => by
        have h := sIndexByte_any s (c.toNat : Int) W
        rw [show ((c.toNat : Int).toNat).toUInt8 = c from by simp] at h
        exact h
      have HCL := Lib.hid hcall
      clear himp hEH he hsz6 hrun hcall hkey hval hal2 htp hb5 hb6
      obtain ⟨t, ht⟩ : ∃ t, decide (0 ≤ Lib.indexByte s.data.toList c) = t := ⟨_, rfl⟩
      rw [ht] at HIM HEH
      generalize Lib.indexByte s.data.toList c = z at *
      cases t with
      | true =>
        have hz : 0 ≤ z := of_decide_eq_true ht
        go_wp2_with ((go_at_call 65; refine (HCL.out _).mono ?_; rintro e' w' ⟨rfl, rfl⟩))
        go_ret
        exact ⟨ret_int (HIM.out (by trivial)).symm, HX.out⟩
      | false =>
        have hz : ¬ 0 ≤ z := of_decide_eq_false ht
        have hz' : z < 0 := by omega
        go_wp2_with ((go_at_call 65; refine (HCL.out _).mono ?_; rintro e' w' ⟨rfl, rfl⟩))
        go_roundw
        case rel =>
          refine ⟨w6, seen.push e.born, HAL3.out, HT3, rfl, Lib.hid fun x hx hc => ?_⟩
          rw [contains_push] at hc
          rcases Bool.or_eq_true _ _ ▸ hc with h1 | h1
          · exact HNO.out x hx h1
          · have : x = e := born_inj kindEs_stamped.2.1 hx (mem_left HE.out).1 (beq_iff_eq.1 h1)
            subst this
            exact HEH.out
        case measure =>
          rw [← HS6.out, World.iterSeen_alloc, HS6.out, ← HSZ.out, World.iterSeen_alloc]
          exact left_shrinks kindEs seen e HE.out
end Go.Proofs.YtcccnicldbpieaaGreatDoor
