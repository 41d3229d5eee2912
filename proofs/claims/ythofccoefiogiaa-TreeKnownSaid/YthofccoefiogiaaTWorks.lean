/- The law's works, walked. -/
import Derived.Test.YthofccoefiogiaaTLines
import Derived.Test.YthofccoefiogiaaTDeepP
namespace Go.Proofs.Ythofccoefiogiaa
open Go Go.RowKit
set_option linter.unusedVariables false
set_option linter.unusedSimpArgs false
def oneL : List NodeM := [nd 1 ⟨#[]⟩ 0 none 0 []]
def twoL (k : Nat) : List NodeM := [nd 1 ⟨#[]⟩ 0 (some ⟨k, 0, none⟩) 1 [1], nd 6 ⟨#[]⟩ 0 none 0 []]
theorem one_right : rightN oneL = true := by kernel_rfl
theorem one_deep : deepM oneL = 0 := by kernel_rfl
theorem one_size : sizeM oneL 0 = 1 := by kernel_rfl
theorem two_right (k : Nat) : rightN (twoL k) = false := by kernel_rfl
theorem lines_right (k1 k2 k3 k4 k5 k6 : Nat) : rightN (linesL 2 k1 k2 k3 k4 k5 k6) = true := by kernel_rfl
theorem lines_deep (k1 k2 k3 k4 k5 k6 : Nat) : deepM (linesL 2 k1 k2 k3 k4 k5 k6) = 2 := by kernel_rfl
theorem lines_size (k1 k2 k3 k4 k5 k6 : Nat) : sizeM (linesL 2 k1 k2 k3 k4 k5 k6) 3 = 7 := by kernel_rfl
theorem nd_sm {kind num : Int} {text : ByteArray} {A : Option Addr} {c : Nat} {kids : List Int} (h1 : text.size ≤ 1000) (h2 : kids.length ≤ 1000) : NodeSm (nd kind text num A c kids) := ⟨h1, h2⟩
theorem one_sm : ∀ x ∈ oneL, NodeSm x := by
  intro x hx
  unfold oneL at hx
  rw [List.mem_singleton.1 hx]
  exact ⟨by decide, by decide⟩
theorem two_sm (k : Nat) : ∀ x ∈ twoL k, NodeSm x := by
  intro x hx
  unfold twoL at hx
  simp only [List.mem_cons, List.not_mem_nil, or_false] at hx
  rcases hx with rfl | rfl
  · exact ⟨by show (0 : Nat) ≤ 1000; omega, by show (1 : Nat) ≤ 1000; omega⟩
  · exact ⟨by show (0 : Nat) ≤ 1000; omega, by show (0 : Nat) ≤ 1000; omega⟩
theorem lines_sm (n : Int) (k1 k2 k3 k4 k5 k6 : Nat) : ∀ x ∈ linesL n k1 k2 k3 k4 k5 k6, NodeSm x := by
  intro x hx
  unfold linesL at hx
  simp only [List.mem_cons, List.not_mem_nil, or_false] at hx
  rcases hx with rfl | rfl | rfl | rfl | rfl | rfl | rfl | rfl | rfl | rfl
  all_goals exact nd_sm (by decide) (by decide)
set_option maxRecDepth 100000 in
set_option maxHeartbeats 8000000 in
theorem works4_any (w : World) : Calls Try.prog 30 #[] w fun e w' => e = .returned (.bool true) ∧ Ext w w' := by
  have HN1 : Hid (Blk (((((w.alloc (.cells #[.int .u8 1, .int .i64 0, .string ⟨#[]⟩, .int .i64 0, .slice none 0 0] 73)).alloc (.cells #[.slice (some ⟨w.heap.size, 0, none⟩) 1 1] 62)).alloc (.cells #[.int .i64 1] 3)).alloc (.cells #[.int .u8 1, .int .i64 0, .string ⟨#[]⟩, .int .i64 0, .slice (some ⟨w.heap.size + 1 + 1, 0, none⟩) 1 1, .int .u8 6, .int .i64 0, .string ⟨#[]⟩, .int .i64 0, .slice none 0 0] 73)).alloc (.cells #[.slice (some ⟨w.heap.size + 1 + 1 + 1, 0, none⟩) 2 2] 62)) (w.heap.size) 73 #[.int .u8 1, .int .i64 0, .string ⟨#[]⟩, .int .i64 0, .slice none 0 0]) := Lib.hid (by repeat (first | exact Blk.newAt (by simp) | refine Blk.alloc ?_ _))
  have HT1 : Hid (Blk (((((w.alloc (.cells #[.int .u8 1, .int .i64 0, .string ⟨#[]⟩, .int .i64 0, .slice none 0 0] 73)).alloc (.cells #[.slice (some ⟨w.heap.size, 0, none⟩) 1 1] 62)).alloc (.cells #[.int .i64 1] 3)).alloc (.cells #[.int .u8 1, .int .i64 0, .string ⟨#[]⟩, .int .i64 0, .slice (some ⟨w.heap.size + 1 + 1, 0, none⟩) 1 1, .int .u8 6, .int .i64 0, .string ⟨#[]⟩, .int .i64 0, .slice none 0 0] 73)).alloc (.cells #[.slice (some ⟨w.heap.size + 1 + 1 + 1, 0, none⟩) 2 2] 62)) (w.heap.size + 1) 62 #[.slice (some ⟨w.heap.size, 0, none⟩) 1 1]) := Lib.hid (by repeat (first | exact Blk.newAt (by simp) | refine Blk.alloc ?_ _))
  have HK : Hid (Blk (((((w.alloc (.cells #[.int .u8 1, .int .i64 0, .string ⟨#[]⟩, .int .i64 0, .slice none 0 0] 73)).alloc (.cells #[.slice (some ⟨w.heap.size, 0, none⟩) 1 1] 62)).alloc (.cells #[.int .i64 1] 3)).alloc (.cells #[.int .u8 1, .int .i64 0, .string ⟨#[]⟩, .int .i64 0, .slice (some ⟨w.heap.size + 1 + 1, 0, none⟩) 1 1, .int .u8 6, .int .i64 0, .string ⟨#[]⟩, .int .i64 0, .slice none 0 0] 73)).alloc (.cells #[.slice (some ⟨w.heap.size + 1 + 1 + 1, 0, none⟩) 2 2] 62)) (w.heap.size + 1 + 1) 3 (kcells [1]).toArray) := Lib.hid (by repeat (first | exact Blk.newAt (by simp) | refine Blk.alloc ?_ _))
  have HN2 : Hid (Blk (((((w.alloc (.cells #[.int .u8 1, .int .i64 0, .string ⟨#[]⟩, .int .i64 0, .slice none 0 0] 73)).alloc (.cells #[.slice (some ⟨w.heap.size, 0, none⟩) 1 1] 62)).alloc (.cells #[.int .i64 1] 3)).alloc (.cells #[.int .u8 1, .int .i64 0, .string ⟨#[]⟩, .int .i64 0, .slice (some ⟨w.heap.size + 1 + 1, 0, none⟩) 1 1, .int .u8 6, .int .i64 0, .string ⟨#[]⟩, .int .i64 0, .slice none 0 0] 73)).alloc (.cells #[.slice (some ⟨w.heap.size + 1 + 1 + 1, 0, none⟩) 2 2] 62)) (w.heap.size + 1 + 1 + 1) 73 #[.int .u8 1, .int .i64 0, .string ⟨#[]⟩, .int .i64 0, .slice (some ⟨w.heap.size + 1 + 1, 0, none⟩) 1 1, .int .u8 6, .int .i64 0, .string ⟨#[]⟩, .int .i64 0, .slice none 0 0]) := Lib.hid (by repeat (first | exact Blk.newAt (by simp) | refine Blk.alloc ?_ _))
  have HT2 : Hid (Blk (((((w.alloc (.cells #[.int .u8 1, .int .i64 0, .string ⟨#[]⟩, .int .i64 0, .slice none 0 0] 73)).alloc (.cells #[.slice (some ⟨w.heap.size, 0, none⟩) 1 1] 62)).alloc (.cells #[.int .i64 1] 3)).alloc (.cells #[.int .u8 1, .int .i64 0, .string ⟨#[]⟩, .int .i64 0, .slice (some ⟨w.heap.size + 1 + 1, 0, none⟩) 1 1, .int .u8 6, .int .i64 0, .string ⟨#[]⟩, .int .i64 0, .slice none 0 0] 73)).alloc (.cells #[.slice (some ⟨w.heap.size + 1 + 1 + 1, 0, none⟩) 2 2] 62)) (w.heap.size + 1 + 1 + 1 + 1) 62 #[.slice (some ⟨w.heap.size + 1 + 1 + 1, 0, none⟩) 2 2]) := Lib.hid (by repeat (first | exact Blk.newAt (by simp) | refine Blk.alloc ?_ _))
  have HX : Hid (Ext w (((((w.alloc (.cells #[.int .u8 1, .int .i64 0, .string ⟨#[]⟩, .int .i64 0, .slice none 0 0] 73)).alloc (.cells #[.slice (some ⟨w.heap.size, 0, none⟩) 1 1] 62)).alloc (.cells #[.int .i64 1] 3)).alloc (.cells #[.int .u8 1, .int .i64 0, .string ⟨#[]⟩, .int .i64 0, .slice (some ⟨w.heap.size + 1 + 1, 0, none⟩) 1 1, .int .u8 6, .int .i64 0, .string ⟨#[]⟩, .int .i64 0, .slice none 0 0] 73)).alloc (.cells #[.slice (some ⟨w.heap.size + 1 + 1 + 1, 0, none⟩) 2 2] 62))) := Lib.hid (by repeat (first | exact Ext.refl _ | refine Ext.trans ?_ (Ext.alloc _ _)))
  go_enter Try.func30, Try.ntmps30
  go_upto_region 3 with fail
  generalize (((((w.alloc (.cells #[.int .u8 1, .int .i64 0, .string ⟨#[]⟩, .int .i64 0, .slice none 0 0] 73)).alloc (.cells #[.slice (some ⟨w.heap.size, 0, none⟩) 1 1] 62)).alloc (.cells #[.int .i64 1] 3)).alloc (.cells #[.int .u8 1, .int .i64 0, .string ⟨#[]⟩, .int .i64 0, .slice (some ⟨w.heap.size + 1 + 1, 0, none⟩) 1 1, .int .u8 6, .int .i64 0, .string ⟨#[]⟩, .int .i64 0, .slice none 0 0] 73)).alloc (.cells #[.slice (some ⟨w.heap.size + 1 + 1 + 1, 0, none⟩) 2 2] 62)) = w1 at *
  generalize w.heap.size + 1 + 1 + 1 + 1 = g4 at *
  generalize w.heap.size + 1 + 1 + 1 = g3 at *
  generalize w.heap.size + 1 + 1 = g2 at *
  generalize w.heap.size + 1 = g1 at *
  generalize w.heap.size = g0 at *
  go_wp2_with fail
  refine (lines_any 2 (by decide) w1).mono ?_
  rintro e w2 ⟨g5, k1, k2, k3, k4, k5, k6, rfl, ht3, hx2⟩
  have HX2 := Lib.hid hx2
  have HTL3 := Lib.hid ht3
  clear hx2 ht3
  go_upto_region 4 with fail
  have HT3 : Hid (Blk (w2.alloc (.cells #[.slice (some ⟨g5, 0, none⟩) 10 10] 62)) w2.heap.size 62 #[.slice (some ⟨g5, 0, none⟩) 10 10]) := Lib.hid (Blk.new _ _ _)
  have HXA : Hid (Ext w1 (w2.alloc (.cells #[.slice (some ⟨g5, 0, none⟩) 10 10] 62))) := Lib.hid (HX2.out.trans (Ext.alloc _ _))
  have HTR3 : Hid (TreeM (w2.alloc (.cells #[.slice (some ⟨g5, 0, none⟩) 10 10] 62)) (some ⟨g5, 0, none⟩) (linesL 2 k1 k2 k3 k4 k5 k6)) := Lib.hid (HTL3.out.ext (Ext.alloc _ _))
  generalize w2.alloc (.cells #[.slice (some ⟨g5, 0, none⟩) 10 10] 62) = w3 at *
  generalize w2.heap.size = g6 at *
  have HM1 : Hid (TreeM w3 (some ⟨g0, 0, none⟩) oneL) := Lib.hid ⟨blkCellsT (t := 73) (cs := trcells oneL) (HN1.out.ext HXA.out), fun x hx => by
    unfold oneL at hx
    rw [List.mem_singleton.1 hx]
    exact nd_ok0 (by decide) (by decide)⟩
  have HM2 : Hid (TreeM w3 (some ⟨g3, 0, none⟩) (twoL g2)) := Lib.hid ⟨blkCellsT (t := 73) (cs := trcells (twoL g2)) (HN2.out.ext HXA.out), fun x hx => by
    unfold twoL at hx
    simp only [List.mem_cons, List.not_mem_nil, or_false] at hx
    rcases hx with rfl | rfl
    · exact nd_ok (by decide) (by decide) (HK.out.ext HXA.out)
    · exact nd_ok0 (by decide) (by decide)⟩
  have HB1 := Lib.hid (HT1.out.ext HXA.out)
  have HB2 := Lib.hid (HT2.out.ext HXA.out)
  have HXW := Lib.hid (HX.out.trans HXA.out)
  clear HN1 HT1 HK HN2 HT2 HX HX2 HTL3 HXA
  have HE : Hid (Ext w3 w3) := Lib.hid (Ext.refl _)
  obtain ⟨wj, hwj⟩ : ∃ wj, wj = w3 := ⟨_, rfl⟩
  have HEJ : Hid (Ext w3 wj) := Lib.hid (by rw [hwj]; exact Ext.refl _)
  rw [← hwj]
  clear hwj HE
  have y1 := (HB1.out.ext HEJ.out).cell 0
  have y2 := (HB2.out.ext HEJ.out).cell 0
  have y3 := (HT3.out.ext HEJ.out).cell 0
  go_wp2_with fail
  refine (right_any oneL _ 1 1 wj rfl (HM1.out.ext HEJ.out) (by decide) one_sm true (Lib.hid one_right)).mono ?_
  rintro e v0 ⟨rfl, hxj⟩
  replace HEJ : Hid (Ext w3 v0) := Lib.hid (HEJ.out.trans hxj)
  clear hxj y1 y2 y3
  have y1 := (HB1.out.ext HEJ.out).cell 0
  have y2 := (HB2.out.ext HEJ.out).cell 0
  have y3 := (HT3.out.ext HEJ.out).cell 0
  go_wp2_with fail
  refine (tdeep_any oneL _ 1 1 v0 rfl (HM1.out.ext HEJ.out) (by decide) one_sm 0 (Lib.hid one_deep)).mono ?_
  rintro e v1 ⟨rfl, hxj⟩
  replace HEJ : Hid (Ext w3 v1) := Lib.hid (HEJ.out.trans hxj)
  clear hxj y1 y2 y3
  have y1 := (HB1.out.ext HEJ.out).cell 0
  have y2 := (HB2.out.ext HEJ.out).cell 0
  have y3 := (HT3.out.ext HEJ.out).cell 0
  go_wp2_with fail
  refine (size_any oneL _ 1 1 0 v1 rfl (HM1.out.ext HEJ.out) (by decide) one_sm 1 (Lib.hid one_size)).mono ?_
  rintro e v2 ⟨rfl, hxj⟩
  replace HEJ : Hid (Ext w3 v2) := Lib.hid (HEJ.out.trans hxj)
  clear hxj y1 y2 y3
  have y1 := (HB1.out.ext HEJ.out).cell 0
  have y2 := (HB2.out.ext HEJ.out).cell 0
  have y3 := (HT3.out.ext HEJ.out).cell 0
  go_wp2_with fail
  refine (right_any (twoL g2) _ 2 2 v2 rfl (HM2.out.ext HEJ.out) (by show (2 : Nat) ≤ 1000; decide) (two_sm g2) false (Lib.hid (two_right g2))).mono ?_
  rintro e v3 ⟨rfl, hxj⟩
  replace HEJ : Hid (Ext w3 v3) := Lib.hid (HEJ.out.trans hxj)
  clear hxj y1 y2 y3
  have y1 := (HB1.out.ext HEJ.out).cell 0
  have y2 := (HB2.out.ext HEJ.out).cell 0
  have y3 := (HT3.out.ext HEJ.out).cell 0
  go_wp2_with fail
  refine (right_any (linesL 2 k1 k2 k3 k4 k5 k6) _ 10 10 v3 rfl (HTR3.out.ext HEJ.out) (by show (10 : Nat) ≤ 1000; decide) (lines_sm 2 k1 k2 k3 k4 k5 k6) true (Lib.hid (lines_right _ _ _ _ _ _))).mono ?_
  rintro e v4 ⟨rfl, hxj⟩
  replace HEJ : Hid (Ext w3 v4) := Lib.hid (HEJ.out.trans hxj)
  clear hxj y1 y2 y3
  have y1 := (HB1.out.ext HEJ.out).cell 0
  have y2 := (HB2.out.ext HEJ.out).cell 0
  have y3 := (HT3.out.ext HEJ.out).cell 0
  go_wp2_with fail
  refine (tdeep_any (linesL 2 k1 k2 k3 k4 k5 k6) _ 10 10 v4 rfl (HTR3.out.ext HEJ.out) (by show (10 : Nat) ≤ 1000; decide) (lines_sm 2 k1 k2 k3 k4 k5 k6) 2 (Lib.hid (lines_deep _ _ _ _ _ _))).mono ?_
  rintro e v5 ⟨rfl, hxj⟩
  replace HEJ : Hid (Ext w3 v5) := Lib.hid (HEJ.out.trans hxj)
  clear hxj y1 y2 y3
  have y1 := (HB1.out.ext HEJ.out).cell 0
  have y2 := (HB2.out.ext HEJ.out).cell 0
  have y3 := (HT3.out.ext HEJ.out).cell 0
  go_wp2_with fail
  refine (size_any (linesL 2 k1 k2 k3 k4 k5 k6) _ 10 10 3 v5 rfl (HTR3.out.ext HEJ.out) (by show (10 : Nat) ≤ 1000; decide) (lines_sm 2 k1 k2 k3 k4 k5 k6) 7 (Lib.hid (lines_size _ _ _ _ _ _))).mono ?_
  rintro e v6 ⟨rfl, hxj⟩
  replace HEJ : Hid (Ext w3 v6) := Lib.hid (HEJ.out.trans hxj)
  clear hxj y1 y2 y3
  go_wp2_with fail
  go_ret
  exact ⟨rfl, HXW.out.trans HEJ.out⟩
end Go.Proofs.Ythofccoefiogiaa
