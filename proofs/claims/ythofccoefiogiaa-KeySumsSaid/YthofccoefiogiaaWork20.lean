/- The chapter's examples of the keys (interlocklaw20.works), walked. -/
import Derived.Test.YthofccoefiogiaaOfB
namespace Go.Proofs.Ythofccoefiogiaa
open Go Go.RowKit
set_option linter.unusedVariables false
set_option linter.unusedSimpArgs false
theorem of_v (A V : Option Addr) (l : List TermD) (ps : List KindD) (n m c d : Nat) (r : KindD) (w : World) (hn : n = l.length) (hm : m = ps.length) (hl : l.length ≤ 900) (hv : ps.length ≤ 900) (hA : Cells w A (tcells l)) (hV : Cells w V (tcells ps)) (hok : ∀ t ∈ l, t.ok) (h : Hid (ofR ps l = r)) :
    Calls Try.prog 28 #[.slice A n c, .slice V m d] w fun e w' => e = .returned r.val ∧ Ext w w' := by
  subst hn hm
  rw [← h.out]
  exact of_any A V l ps c d w hl hv hA hV hok
theorem cellsNew (w : World) (g : Nat) (t : TypeId) (cs : Array Value) (hg : g = w.heap.size) : Cells (w.alloc (.cells cs t)) (some ⟨g, 0, none⟩) cs.toList := by
  subst hg; exact Cells.new w t cs
theorem allOk {l : List TermD} (h : l.all (fun t => decide (0 ≤ t.1 ∧ t.1 < 256) && decide (-9223372036854775808 ≤ t.2.1 ∧ t.2.1 ≤ 9223372036854775807) && decide (-9223372036854775808 ≤ t.2.2 ∧ t.2.2 ≤ 9223372036854775807)) = true) : ∀ t ∈ l, t.ok := by
  intro t ht
  have := List.all_eq_true.1 h t ht
  simp only [Bool.and_eq_true, decide_eq_true_eq] at this
  exact ⟨this.1.1, this.1.2, this.2⟩
theorem mayV (a b : KindD) (own r : Bool) (w : World) (h : Hid (mayN a b own = r)) :
    Calls Try.prog 15 #[a.val, b.val, .bool own] w fun e w' => e = .returned (.bool r) ∧ Ext w w' := by
  rw [← h.out]; exact may_any a b own w
theorem mustV (a b : KindD) (own r : Bool) (w : World) (h : Hid (mustN a b own = r)) :
    Calls Try.prog 49 #[a.val, b.val, .bool own] w fun e w' => e = .returned (.bool r) ∧ Ext w w' := by
  rw [← h.out]; exact must_any a b own w
theorem blkNew {w : World} {g : Nat} (t : TypeId) (cs : Array Value) (hg : g = w.heap.size) : Blk (w.alloc (.cells cs t)) g t cs := by
  subst hg; exact Blk.new w t cs
set_option maxHeartbeats 8000000 in
theorem works20 (w : World) : Calls Try.prog 16 #[] w fun e w' => e = .returned (.bool true) ∧ Ext w w' := by
  go_enter Try.func16, Try.ntmps16
  go_wp2_with fail
  have HE : Hid (Blk (((w.alloc (.cells #[.int .u8 2, .int .i64 0, .int .i64 0] 23)).alloc (.cells #[.int .u8 2, .int .i64 0, .int .i64 0] 57)).alloc (.cells #[.int .u8 1, .int .i64 2, .int .i64 0] 57)) w.heap.size 23 #[.int .u8 2, .int .i64 0, .int .i64 0]) := ((Blk.new w _ _).alloc _).alloc _
  have HT1 : Hid (Blk (((w.alloc (.cells #[.int .u8 2, .int .i64 0, .int .i64 0] 23)).alloc (.cells #[.int .u8 2, .int .i64 0, .int .i64 0] 57)).alloc (.cells #[.int .u8 1, .int .i64 2, .int .i64 0] 57)) (w.heap.size + 1) 57 #[.int .u8 2, .int .i64 0, .int .i64 0]) := (blkNew (w := w.alloc (.cells #[.int .u8 2, .int .i64 0, .int .i64 0] 23)) 57 #[.int .u8 2, .int .i64 0, .int .i64 0] (by simp)).alloc _
  have HT2 : Hid (Blk (((w.alloc (.cells #[.int .u8 2, .int .i64 0, .int .i64 0] 23)).alloc (.cells #[.int .u8 2, .int .i64 0, .int .i64 0] 57)).alloc (.cells #[.int .u8 1, .int .i64 2, .int .i64 0] 57)) (w.heap.size + 1 + 1) 57 #[.int .u8 1, .int .i64 2, .int .i64 0]) := blkNew (w := (w.alloc (.cells #[.int .u8 2, .int .i64 0, .int .i64 0] 23)).alloc (.cells #[.int .u8 2, .int .i64 0, .int .i64 0] 57)) 57 #[.int .u8 1, .int .i64 2, .int .i64 0] (by simp)
  have HX0 : Hid (Ext w (((w.alloc (.cells #[.int .u8 2, .int .i64 0, .int .i64 0] 23)).alloc (.cells #[.int .u8 2, .int .i64 0, .int .i64 0] 57)).alloc (.cells #[.int .u8 1, .int .i64 2, .int .i64 0] 57))) := Ext.trans (Ext.trans (Ext.alloc _ _) (Ext.alloc _ _)) (Ext.alloc _ _)
  rw [show w.heap.size + 1 + 1 + 1 = (((w.alloc (.cells #[.int .u8 2, .int .i64 0, .int .i64 0] 23)).alloc (.cells #[.int .u8 2, .int .i64 0, .int .i64 0] 57)).alloc (.cells #[.int .u8 1, .int .i64 2, .int .i64 0] 57)).heap.size from by simp]
  generalize ((w.alloc (.cells #[.int .u8 2, .int .i64 0, .int .i64 0] 23)).alloc (.cells #[.int .u8 2, .int .i64 0, .int .i64 0] 57)).alloc (.cells #[.int .u8 1, .int .i64 2, .int .i64 0] 57) = w0 at *
  generalize w.heap.size = g at *
  refine (of_v _ _ [(2, 0, 0), (1, 2, 0), (3, 0, 0)] [(2, 0, 0)] _ _ _ _ (2, 2, 0) _ rfl rfl (by decide) (by decide) (cellsNew w0 _ 57 _ rfl) (blk_cells (HE.out.alloc _)) (allOk (by decide)) (Lib.hid (by decide +kernel))).mono ?_
  rintro e w1 ⟨rfl, hx1⟩
  simp only [KindD.val]
  have HX1 : Hid (Ext w0 w1) := Ext.trans (Ext.alloc _ _) hx1
  clear hx1
  go_upto_region 4 with fail
  have HE4 : Hid (Blk (w1.alloc (.cells #[.int .u8 2, .int .i64 2, .int .i64 0] 23)) g 23 #[.int .u8 2, .int .i64 0, .int .i64 0]) := (HE.out.ext HX1.out).alloc _
  have HU1 : Hid (Blk (w1.alloc (.cells #[.int .u8 2, .int .i64 2, .int .i64 0] 23)) (g + 1) 57 #[.int .u8 2, .int .i64 0, .int .i64 0]) := (HT1.out.ext HX1.out).alloc _
  have HU2 : Hid (Blk (w1.alloc (.cells #[.int .u8 2, .int .i64 2, .int .i64 0] 23)) (g + 1 + 1) 57 #[.int .u8 1, .int .i64 2, .int .i64 0]) := (HT2.out.ext HX1.out).alloc _
  have HK4 : Hid (Blk (w1.alloc (.cells #[.int .u8 2, .int .i64 2, .int .i64 0] 23)) w1.heap.size 23 #[.int .u8 2, .int .i64 2, .int .i64 0]) := Blk.new _ _ _
  have HX2 : Hid (Ext w (w1.alloc (.cells #[.int .u8 2, .int .i64 2, .int .i64 0] 23))) := Ext.trans HX0.out (Ext.trans HX1.out (Ext.alloc _ _))
  clear HE HT1 HT2 HX0 HX1
  generalize w1.alloc (.cells #[.int .u8 2, .int .i64 2, .int .i64 0] 23) = w2 at *
  generalize w1.heap.size = g4 at *
  have a0 := HU1.out.cell 0
  have a1 := HU1.out.cell 1
  have a2 := HU1.out.cell 2
  have b0 := HU2.out.cell 0
  have b1 := HU2.out.cell 1
  have b2 := HU2.out.cell 2
  go_wp2_with fail
  refine (of_v _ _ [(1, 2, 0), (2, 0, 0), (4, 0, 0)] [(2, 0, 0)] _ _ _ _ (3, 0, 0) _ rfl rfl (by decide) (by decide) (cellsNew w2 _ 57 _ rfl) (blk_cells (HE4.out.alloc _)) (allOk (by decide)) (Lib.hid (by decide +kernel))).mono ?_
  rintro e w3 ⟨rfl, hx3⟩
  simp only [KindD.val]
  have HX3 : Hid (Ext w2 w3) := Ext.trans (Ext.alloc _ _) hx3
  clear hx3 a0 a1 a2 b0 b1 b2 HU1 HU2 HE4
  go_upto_region 5 with fail
  have HL4 : Hid (Blk (w3.alloc (.cells #[.int .u8 3, .int .i64 0, .int .i64 0] 23)) g4 23 #[.int .u8 2, .int .i64 2, .int .i64 0]) := (HK4.out.ext HX3.out).alloc _
  have HL5 : Hid (Blk (w3.alloc (.cells #[.int .u8 3, .int .i64 0, .int .i64 0] 23)) w3.heap.size 23 #[.int .u8 3, .int .i64 0, .int .i64 0]) := Blk.new _ _ _
  have HX4 : Hid (Ext w (w3.alloc (.cells #[.int .u8 3, .int .i64 0, .int .i64 0] 23))) := Ext.trans HX2.out (Ext.trans HX3.out (Ext.alloc _ _))
  clear HK4 HX2 HX3
  generalize w3.alloc (.cells #[.int .u8 3, .int .i64 0, .int .i64 0] 23) = w5 at *
  generalize w3.heap.size = g5 at *
  go_upto_region 6 with fail
  have HM4 : Hid (Blk (w5.alloc (.cells #[.int .u8 2, .int .i64 0, .int .i64 0] 23)) g4 23 #[.int .u8 2, .int .i64 2, .int .i64 0]) := HL4.out.alloc _
  have HM5 : Hid (Blk (w5.alloc (.cells #[.int .u8 2, .int .i64 0, .int .i64 0] 23)) g5 23 #[.int .u8 3, .int .i64 0, .int .i64 0]) := HL5.out.alloc _
  have HM6 : Hid (Blk (w5.alloc (.cells #[.int .u8 2, .int .i64 0, .int .i64 0] 23)) w5.heap.size 23 #[.int .u8 2, .int .i64 0, .int .i64 0]) := Blk.new _ _ _
  have HX6 : Hid (Ext w (w5.alloc (.cells #[.int .u8 2, .int .i64 0, .int .i64 0] 23))) := Ext.trans HX4.out (Ext.alloc _ _)
  clear HL4 HL5 HX4
  generalize w5.alloc (.cells #[.int .u8 2, .int .i64 0, .int .i64 0] 23) = w6 at *
  generalize w5.heap.size = g6 at *
  go_upto_region 7 with fail
  have HN4 : Hid (Blk (w6.alloc (.cells #[.int .u8 1, .int .i64 1, .int .i64 0] 23)) g4 23 #[.int .u8 2, .int .i64 2, .int .i64 0]) := HM4.out.alloc _
  have HN5 : Hid (Blk (w6.alloc (.cells #[.int .u8 1, .int .i64 1, .int .i64 0] 23)) g5 23 #[.int .u8 3, .int .i64 0, .int .i64 0]) := HM5.out.alloc _
  have HN6 : Hid (Blk (w6.alloc (.cells #[.int .u8 1, .int .i64 1, .int .i64 0] 23)) g6 23 #[.int .u8 2, .int .i64 0, .int .i64 0]) := HM6.out.alloc _
  have HN7 : Hid (Blk (w6.alloc (.cells #[.int .u8 1, .int .i64 1, .int .i64 0] 23)) w6.heap.size 23 #[.int .u8 1, .int .i64 1, .int .i64 0]) := Blk.new _ _ _
  have HX7 : Hid (Ext w (w6.alloc (.cells #[.int .u8 1, .int .i64 1, .int .i64 0] 23))) := Ext.trans HX6.out (Ext.alloc _ _)
  clear HM4 HM5 HM6 HX6
  generalize w6.alloc (.cells #[.int .u8 1, .int .i64 1, .int .i64 0] 23) = w7 at *
  generalize w6.heap.size = g7 at *
  have a0 := HN4.out.cell 0
  have a1 := HN4.out.cell 1
  have a2 := HN4.out.cell 2
  have b0 := HN5.out.cell 0
  have b1 := HN5.out.cell 1
  have b2 := HN5.out.cell 2
  have c0 := HN7.out.cell 0
  have c1 := HN7.out.cell 1
  have c2 := HN7.out.cell 2
  go_wp2_with fail
  refine (mayV (1, 1, 0) (1, 2, 0) false false _ (Lib.hid (by decide +kernel))).mono ?_
  rintro e w8 ⟨rfl, hx8⟩
  have HP6 := Lib.hid (HN6.out.ext hx8)
  have HP7 := Lib.hid (HN7.out.ext hx8)
  have HX8 : Hid (Ext w w8) := Ext.trans HX7.out hx8
  clear hx8 a0 a1 a2 b0 b1 b2 c0 c1 c2 HN4 HN5 HN6 HN7 HX7
  have a0 := HP6.out.cell 0
  have a1 := HP6.out.cell 1
  have a2 := HP6.out.cell 2
  have c0 := HP7.out.cell 0
  have c1 := HP7.out.cell 1
  have c2 := HP7.out.cell 2
  go_wp2_with fail
  refine (mayV (2, 0, 0) (1, 1, 0) true true _ (Lib.hid (by decide +kernel))).mono ?_
  rintro e w9 ⟨rfl, hx9⟩
  have HQ6 := Lib.hid (HP6.out.ext hx9)
  have HX9 : Hid (Ext w w9) := Ext.trans HX8.out hx9
  clear hx9 a0 a1 a2 c0 c1 c2 HP6 HP7 HX8
  have a0 := HQ6.out.cell 0
  have a1 := HQ6.out.cell 1
  have a2 := HQ6.out.cell 2
  go_wp2_with fail
  refine (mustV (2, 0, 0) (2, 0, 0) true true _ (Lib.hid (by decide +kernel))).mono ?_
  rintro e w10 ⟨rfl, hx10⟩
  have HR6 := Lib.hid (HQ6.out.ext hx10)
  have HX10 : Hid (Ext w w10) := Ext.trans HX9.out hx10
  clear hx10 a0 a1 a2 HQ6 HX9
  have a0 := HR6.out.cell 0
  have a1 := HR6.out.cell 1
  have a2 := HR6.out.cell 2
  go_wp2_with fail
  refine (mustV (2, 0, 0) (2, 0, 0) false false _ (Lib.hid (by decide +kernel))).mono ?_
  rintro e w11 ⟨rfl, hx11⟩
  have HX11 : Hid (Ext w w11) := Ext.trans HX10.out hx11
  clear hx11
  go_wp2_with fail
  go_ret
  exact ⟨rfl, HX11.out⟩
end Go.Proofs.Ythofccoefiogiaa
