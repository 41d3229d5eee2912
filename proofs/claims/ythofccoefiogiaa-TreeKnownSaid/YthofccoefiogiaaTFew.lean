/- The law's few and plain, walked. -/
import Derived.Test.YthofccoefiogiaaTProg
namespace Go.Proofs.Ythofccoefiogiaa
open Go Go.RowKit
set_option linter.unusedVariables false
set_option linter.unusedSimpArgs false
theorem infoNodeR : (Try.prog.info? 76).map (fun i => (i.zero, i.size, i.bytes)) = some (some (.agg #[.int .u8 0, .int .i64 0, .string ⟨#[]⟩, .int .i64 0, .slice none 0 0]), 5, 64) := by kernel_rfl
theorem few_yes {l : List NodeM} {top : Int} (h : fewM l top = true) : (l.length : Int) ≤ top ∧ ∀ x ∈ l, (x.kids.length : Int) ≤ top ∧ x.text.size ≤ 100 := by
  unfold fewM at h
  simp only [Bool.and_eq_true, decide_eq_true_eq, List.all_eq_true] at h
  exact h
theorem few_sm {l : List NodeM} {top : Int} (h : fewM l top = true) (ht : top ≤ 1000) : l.length ≤ 1000 ∧ ∀ x ∈ l, NodeSm x := by
  have := few_yes h
  exact ⟨by omega, fun x hx => ⟨by have := (this.2 x hx).2; omega, by have := (this.2 x hx).1; omega⟩⟩
set_option maxRecDepth 100000 in
set_option maxHeartbeats 8000000 in
theorem few_any (l : List NodeM) (A : Option Addr) (n c : Nat) (top : Int) (w : World) (hn : n = l.length) (ht : TreeM w A l) (htop : top ≤ 1000) (b : Bool) (hb : Hid (fewM l top = b)) :
    Calls Try.prog 29 #[.agg #[.slice A n c], .int .i64 top] w fun e w' => e = .returned (.bool b) ∧ Ext w w' := by
  subst hn
  have HT := Lib.hid ht
  clear ht
  have HB0 : Hid (Blk (w.alloc (.cells #[.slice A l.length c] 62)) w.heap.size 62 #[.slice A l.length c]) := Lib.hid (Blk.new _ _ _)
  have HX0 : Hid (Ext w (w.alloc (.cells #[.slice A l.length c] 62))) := Lib.hid (Ext.alloc _ _)
  have y0 := HB0.out.cell 0
  by_cases h1 : (l.length : Int) ≤ top
  · have d1 : decide ((l.length : Int) > top) = false := decide_eq_false (by omega)
    have d1' : decide (top < (l.length : Int)) = false := decide_eq_false (by omega)
    have HLL : Hid (l.all (fun x => decide ((x.kids.length : Int) ≤ top) && decide (x.text.size ≤ 100)) = b) := Lib.hid (by rw [← hb.out]; unfold fewM; rw [decide_eq_true h1, Bool.true_and])
    go_enter Try.func29, Try.ntmps29
    go_wp2_with fail
    clear y0
    generalize w.alloc (.cells #[.slice A l.length c] 62) = w1 at *
    generalize w.heap.size = gt at *
    have y0 := HB0.out.cell 0
    go_loop [5] (fun i => ∃ k : Nat, k ≤ l.length ∧ i = .int .i64 k ∧ Hid (∀ j (hj : j < l.length), j < k → (decide ((l[j].kids.length : Int) ≤ top) && decide (l[j].text.size ≤ 100)) = true)) (fun i => l.length - (intOf i).toNat)
    case atStart => exact ⟨0, Nat.zero_le _, rfl, Lib.hid fun j hj h => by omega⟩
    case round =>
      obtain ⟨k, hk, rfl, HR⟩ := hrel
      by_cases hlt : k < l.length
      · have d0 : decide ((k : Int) < (l.length : Int)) = true := decide_eq_true (by omega)
        have q1 : (k : Int) < (l.length : Int) := by omega
        obtain ⟨bb, off, rfl, hbb, hcell⟩ := (HT.out.ext HX0.out).at_ k hlt
        obtain ⟨t, ht⟩ : ∃ t, (decide ((l[k].kids.length : Int) ≤ top) && decide (l[k].text.size ≤ 100)) = t := ⟨_, rfl⟩
        have HYES : Hid (t = true → ∀ j (hj : j < l.length), j < k + 1 → (decide ((l[j].kids.length : Int) ≤ top) && decide (l[j].text.size ≤ 100)) = true) := Lib.hid (by
          intro h j hj h2
          by_cases hjk : j = k
          · subst hjk; rw [ht]; exact h
          · exact HR.out j hj (by omega))
        have HNO : Hid (t = false → b = false) := Lib.hid (by
          intro h
          rw [← HLL.out, Bool.eq_false_iff]
          intro hh
          have := List.all_eq_true.1 hh l[k] (List.getElem_mem hlt)
          rw [ht, h] at this
          cases this)
        generalize l[k] = x at *
        obtain ⟨kind, pos, text, num, kA, kc, kids⟩ := x
        have c2 : w1.cell? ⟨bb, off + k * 5 + 2, none⟩ = some (.string text) := hcell 2 (by omega)
        have c4 : w1.cell? ⟨bb, off + k * 5 + 4, none⟩ = some (.slice kA kids.length kc) := hcell 4 (by omega)
        clear hcell
        simp only at ht
        by_cases h2 : (kids.length : Int) ≤ top
        · have f1 : decide ((kids.length : Int) > top) = false := decide_eq_false (by omega)
          have f1' : decide (top < (kids.length : Int)) = false := decide_eq_false (by omega)
          rw [decide_eq_true h2, Bool.true_and] at ht
          by_cases h3 : text.size ≤ 100
          · have f2 : decide ((text.size : Int) > 100) = false := decide_eq_false (by omega)
            have f3 : decide ((100 : Int) < (text.size : Int)) = false := decide_eq_false (by omega)
            have f4 : decide (100 < text.size) = false := decide_eq_false (by omega)
            have HY := Lib.hid (HYES.out (by rw [← ht]; exact decide_eq_true h3))
            clear ht h2 h3
            go_wp2_with fail
            go_round
            case rel => exact ⟨k + 1, by omega, by go_num, HY⟩
            case measure => simp [intOf]; omega
          · have f2 : decide ((text.size : Int) > 100) = true := decide_eq_true (by omega)
            have f3 : decide ((100 : Int) < (text.size : Int)) = true := decide_eq_true (by omega)
            have f4 : decide (100 < text.size) = true := decide_eq_true (by omega)
            have HB := Lib.hid (HNO.out (by rw [← ht]; exact decide_eq_false h3))
            clear ht h2 h3
            go_wp2_with fail
            go_ret
            exact ⟨ret_b HB.out.symm, HX0.out⟩
        · have f1 : decide ((kids.length : Int) > top) = true := decide_eq_true (by omega)
          have f1' : decide (top < (kids.length : Int)) = true := decide_eq_true (by omega)
          have HB := Lib.hid (HNO.out (by rw [← ht, decide_eq_false h2, Bool.false_and]))
          clear ht h2
          go_wp2_with fail
          go_ret
          exact ⟨ret_b HB.out.symm, HX0.out⟩
      · obtain rfl : k = l.length := by omega
        have d0 : decide ((l.length : Int) < (l.length : Int)) = false := by simp
        have HB : Hid (b = true) := Lib.hid (by
          rw [← HLL.out, List.all_eq_true]
          intro x hx
          obtain ⟨i, hi, rfl⟩ := List.getElem_of_mem hx
          exact HR.out i hi hi)
        go_wp2_with fail
        go_ret
        exact ⟨ret_b HB.out.symm, HX0.out⟩
  · have d1 : decide ((l.length : Int) > top) = true := decide_eq_true (by omega)
    have d1' : decide (top < (l.length : Int)) = true := decide_eq_true (by omega)
    have HB : Hid (b = false) := Lib.hid (by rw [← hb.out]; unfold fewM; rw [decide_eq_false h1, Bool.false_and])
    go_enter Try.func29, Try.ntmps29
    go_wp2_with fail
    go_ret
    exact ⟨ret_b HB.out.symm, HX0.out⟩
set_option maxRecDepth 100000 in
set_option maxHeartbeats 8000000 in
theorem plain_any (l : List NodeM) (A : Option Addr) (n c : Nat) (w : World) (hn : n = l.length) (ht : TreeM w A l) (hlen : l.length ≤ 1000) :
    Calls Try.prog 31 #[.agg #[.slice A n c]] w fun e w' => ∃ A' c', e = .returned (.slice A' l.length c') ∧ TreeM w' A' l ∧ Ext w w' := by
  subst hn
  obtain ⟨i0, hi, hz0, hz1, hz2⟩ := info_parts infoNodeR
  have HT := Lib.hid ht
  clear ht
  have HB0 : Hid (Blk (w.alloc (.cells #[.slice A l.length c] 62)) w.heap.size 62 #[.slice A l.length c]) := Lib.hid (Blk.new _ _ _)
  have HX0 : Hid (Ext w (w.alloc (.cells #[.slice A l.length c] 62))) := Lib.hid (Ext.alloc _ _)
  go_enter Try.func31, Try.ntmps31
  go_wp2_with fail
  generalize w.alloc (.cells #[.slice A l.length c] 62) = w1 at *
  generalize w.heap.size = gt at *
  go_loopw [3, 4] (fun out i wr => ∃ (k : Nat) (A' : Option Addr) (c' : Nat), k ≤ l.length ∧ i = .int .i64 k ∧ out = .slice A' k c' ∧ (A' = none → c' = 0) ∧ Hid (wr.ownsRow w1.heap.size 76 5 (.slice A' k c') k (trcells (l.take k))) ∧ Hid (Ext w1 wr)) (fun _ i _ => l.length - (intOf i).toNat)
  case atStart => exact ⟨0, none, 0, Nat.zero_le _, rfl, rfl, fun _ => rfl, Lib.hid (World.ownsRow_nil _ _ _ _), Lib.hid (Ext.refl _)⟩
  case round =>
    obtain ⟨k, A', c', hk, rfl, rfl, hz, HO, HX⟩ := hrel
    obtain ⟨wa, rfl⟩ : ∃ wa : World, wa = wr := ⟨_, rfl⟩
    have y0 := (HB0.out.ext HX.out).cell 0
    by_cases hlt : k < l.length
    · have d0 : decide ((k : Int) < (l.length : Int)) = true := decide_eq_true (by omega)
      have q1 : (k : Int) < (l.length : Int) := by omega
      have HT1 := Lib.hid (HT.out.ext (HX0.out.trans HX.out))
      obtain ⟨b1, off1, rfl, hb1, hc1⟩ := HT1.out.at_ k hlt
      have HTK : Hid (trcells (l.take (k + 1)) = trcells (l.take k) ++ l[k].cells) := Lib.hid (by rw [List.take_succ_eq_append_getElem hlt, trcells_snoc])
      generalize trcells (l.take k) = cs at *
      generalize l[k] = x at *
      obtain ⟨kind, pos, text, num, kA, kc, kids⟩ := x
      have x0 : wa.cell? ⟨b1, off1 + k * 5, none⟩ = some (.int .u8 kind) := hc1 0 (by omega)
      have x1 : wa.cell? ⟨b1, off1 + k * 5 + 1, none⟩ = some (.int .i64 pos) := hc1 1 (by omega)
      have x2 : wa.cell? ⟨b1, off1 + k * 5 + 2, none⟩ = some (.string text) := hc1 2 (by omega)
      have x3 : wa.cell? ⟨b1, off1 + k * 5 + 3, none⟩ = some (.int .i64 num) := hc1 3 (by omega)
      have x4 : wa.cell? ⟨b1, off1 + k * 5 + 4, none⟩ = some (.slice kA kids.length kc) := hc1 4 (by omega)
      clear hc1
      go_upto_region 6 with fail
      have HXA : Hid (Ext wa (wa.alloc (.cells #[.int .u8 kind, .int .i64 pos, .string text, .int .i64 num, .slice kA kids.length kc] 73))) := Lib.hid (Ext.alloc _ _)
      have HBX : Hid (Blk (wa.alloc (.cells #[.int .u8 kind, .int .i64 pos, .string text, .int .i64 num, .slice kA kids.length kc] 73)) wa.heap.size 73 #[.int .u8 kind, .int .i64 pos, .string text, .int .i64 num, .slice kA kids.length kc]) := Lib.hid (Blk.new _ _ _)
      have HXW := Lib.hid (HX.out.trans HXA.out)
      have HOW := Lib.hid (own_ext HO.out HXA.out)
      clear x0 x1 x2 x3 x4 y0 HXA HO
      generalize wa.alloc (.cells #[.int .u8 kind, .int .i64 pos, .string text, .int .i64 num, .slice kA kids.length kc] 73) = wb at *
      generalize wa.heap.size = gx at *
      have x0 := HBX.out.cell 0
      have x1 := HBX.out.cell 1
      have x2 := HBX.out.cell 2
      have x3 := HBX.out.cell 3
      have x4 := HBX.out.cell 4
      have HOA := Lib.hid (HOW.out.alloc (.cells #[.int .u8 kind, .int .i64 pos, .string text, .int .i64 num, .slice kA kids.length kc] 76))
      have HXN : Hid (Ext w1 (wb.alloc (.cells #[.int .u8 kind, .int .i64 pos, .string text, .int .i64 num, .slice kA kids.length kc] 76))) := Lib.hid (HXW.out.trans (Ext.alloc _ _))
      have HCA : Hid (Cells (wb.alloc (.cells #[.int .u8 kind, .int .i64 pos, .string text, .int .i64 num, .slice kA kids.length kc] 76)) (some ⟨wb.heap.size, 0, none⟩) [.int .u8 kind, .int .i64 pos, .string text, .int .i64 num, .slice kA kids.length kc]) := Lib.hid (Cells.new _ 76 #[.int .u8 kind, .int .i64 pos, .string text, .int .i64 num, .slice kA kids.length kc])
      go_wp2_with (at_builtin; refine wpList_grow rfl _ _ 64 rfl w1.heap.size 76 i0 _ 5 64 Try.underlying64 hi hz0 hz1 hz2 rfl (by decide) _ _ _ rfl HOA.out _ 1 1 [.int .u8 kind, .int .i64 pos, .string text, .int .i64 num, .slice kA kids.length kc] rfl (fun h => by cases h) rfl HCA.out ?c2 ?c3 ?c4 HXN.out.size ?_)
      case c2 => first | (intro u hu; simp at hu; rcases hu with rfl | rfl | rfl | rfl | rfl <;> rfl) | exact ⟨rfl, rfl, rfl, rfl, rfl⟩
      case c3 => unfold maxLen; omega
      case c4 => omega
      intro A3 c3 w3 hn3 ho3 hg3
      have HO3 : Hid (w3.ownsRow w1.heap.size 76 5 (.slice A3 (k + 1) c3) (k + 1) (trcells (l.take (k + 1)))) := Lib.hid (by rw [HTK.out]; exact ho3)
      have HX3 : Hid (Ext w1 w3) := Lib.hid (Below.grown HXN.out hg3 HXN.out.size (own_base HOA.out))
      clear ho3 hg3 x0 x1 x2 x3 x4
      go_wp2_with fail
      go_roundw
      case rel => exact ⟨k + 1, A3, c3, by omega, by go_num, rfl, hn3, HO3, HX3⟩
      case measure => simp [intOf]; omega
    · obtain rfl : k = l.length := by omega
      have d0 : decide ((l.length : Int) < (l.length : Int)) = false := by simp
      go_wp2_with fail
      go_ret
      have h1 := HO.out
      rw [List.take_length] at h1
      have hx := HX0.out.trans HX.out
      exact ⟨A', c', rfl, ⟨Cells.own h1, fun x hx1 => (HT.out.ok x hx1).ext hx⟩, hx⟩
end Go.Proofs.Ythofccoefiogiaa
