/- TreeRight, walked: always true. -/
import Derived.Test.YthofccoefiogiaaTWorks
import Derived.Test.YthofccoefiogiaaTRefS
namespace Go.Proofs.Ythofccoefiogiaa
open Go Go.RowKit
set_option linter.unusedVariables false
set_option linter.unusedSimpArgs false
set_option maxRecDepth 100000 in
set_option maxHeartbeats 8000000 in
theorem treeRight_any (l : List NodeM) (A : Option Addr) (c : Nat) (i : Int) (w : World) (ht : TreeM w A l) :
    Calls Try.prog 8 #[.agg #[.slice A l.length c], .int .i64 i] w fun e w' => e = .returned (.bool true) ∧ Ext w w' := by
  have HT := Lib.hid ht
  clear ht
  obtain ⟨f, HF⟩ : ∃ f, Hid (fewM l 200 = f) := ⟨_, Lib.hid rfl⟩
  have HB0 : Hid (Blk (w.alloc (.cells #[.slice A l.length c] 62)) w.heap.size 62 #[.slice A l.length c]) := Lib.hid (Blk.new _ _ _)
  have HX0 : Hid (Ext w (w.alloc (.cells #[.slice A l.length c] 62))) := Lib.hid (Ext.alloc _ _)
  go_enter Try.func8, Try.ntmps8
  have y0 := HB0.out.cell 0
  go_wp2_with fail
  refine (few_any l A l.length c 200 _ rfl (HT.out.ext HX0.out) (by decide) f HF).mono ?_
  rintro e w1 ⟨rfl, hx1⟩
  have HB1 := Lib.hid (HB0.out.ext hx1)
  have HX1 := Lib.hid (HX0.out.trans hx1)
  clear hx1 y0 HB0 HX0
  generalize w.heap.size = gt at *
  cases f with
  | false =>
    go_wp2_with fail
    refine (works4_any w1).mono ?_
    rintro e w2 ⟨rfl, hx2⟩
    have HX2 := Lib.hid (HX1.out.trans hx2)
    clear hx2
    go_wp2_with fail
    go_ret
    exact ⟨rfl, HX2.out⟩
  | true =>
    have hsm := few_sm HF.out (by decide)
    have hlen := hsm.1
    have HSM := Lib.hid hsm.2
    clear hsm
    have y0 := HB1.out.cell 0
    go_wp2_with fail
    refine (plain_any l A l.length c w1 rfl (HT.out.ext HX1.out) hlen).mono ?_
    rintro e w2 ⟨A', c', rfl, ht2, hx2⟩
    have HX2 := Lib.hid (HX1.out.trans hx2)
    have HT2 := Lib.hid (HT.out.ext HX2.out)
    have HB2 := Lib.hid (HB1.out.ext hx2)
    have HTR := Lib.hid ht2
    clear hx2 ht2 y0 HX1 HB1
    obtain ⟨r1, HR1⟩ : ∃ r, Hid (rightN l = r) := ⟨_, Lib.hid rfl⟩
    have HR2 : Hid (rightR l = r1) := Lib.hid (by rw [← right_law]; exact HR1.out)
    obtain ⟨r3, HR3⟩ : ∃ r, Hid (deepM l = r) := ⟨_, Lib.hid rfl⟩
    have HR4 : Hid (deepRM l = r3) := Lib.hid (by rw [← deepM_law]; exact HR3.out)
    obtain ⟨r5, HR5⟩ : ∃ r, Hid (sizeM l i = r) := ⟨_, Lib.hid rfl⟩
    have HE : Hid (Ext w2 w2) := Lib.hid (Ext.refl _)
    obtain ⟨wj, hwj⟩ : ∃ wj, wj = w2 := ⟨_, rfl⟩
    have HEJ : Hid (Ext w2 wj) := Lib.hid (by rw [hwj]; exact Ext.refl _)
    rw [← hwj]
    clear hwj HE
    have y0 := (HB2.out.ext HEJ.out).cell 0
    go_wp2_with fail
    refine (right_any l A l.length c wj rfl (HT2.out.ext HEJ.out) hlen HSM.out r1 HR1).mono ?_
    rintro e v1 ⟨rfl, hxj⟩
    replace HEJ : Hid (Ext w2 v1) := Lib.hid (HEJ.out.trans hxj)
    clear hxj y0
    have y0 := (HB2.out.ext HEJ.out).cell 0
    go_wp2_with fail
    refine (rRight_any l A' l.length c' v1 rfl (HTR.out.ext HEJ.out) hlen HSM.out r1 HR2).mono ?_
    rintro e v2 ⟨rfl, hxj⟩
    replace HEJ : Hid (Ext w2 v2) := Lib.hid (HEJ.out.trans hxj)
    clear hxj y0
    have e1 : (r1 == r1) = true := by simp
    have y0 := (HB2.out.ext HEJ.out).cell 0
    go_wp2_with fail
    refine (tdeep_any l A l.length c v2 rfl (HT2.out.ext HEJ.out) hlen HSM.out r3 HR3).mono ?_
    rintro e v3 ⟨rfl, hxj⟩
    replace HEJ : Hid (Ext w2 v3) := Lib.hid (HEJ.out.trans hxj)
    clear hxj y0
    have y0 := (HB2.out.ext HEJ.out).cell 0
    go_wp2_with fail
    refine (rDeep_any l A' l.length c' v3 rfl (HTR.out.ext HEJ.out) hlen HSM.out r3 HR4).mono ?_
    rintro e v4 ⟨rfl, hxj⟩
    replace HEJ : Hid (Ext w2 v4) := Lib.hid (HEJ.out.trans hxj)
    clear hxj y0
    have e2 : (r3 == r3) = true := by simp
    have y0 := (HB2.out.ext HEJ.out).cell 0
    go_wp2_with fail
    refine (size_any l A l.length c i v4 rfl (HT2.out.ext HEJ.out) hlen HSM.out r5 HR5).mono ?_
    rintro e v5 ⟨rfl, hxj⟩
    replace HEJ : Hid (Ext w2 v5) := Lib.hid (HEJ.out.trans hxj)
    clear hxj y0
    have y0 := (HB2.out.ext HEJ.out).cell 0
    go_wp2_with fail
    refine (rSize_any l A' l.length c' i v5 rfl (HTR.out.ext HEJ.out) hlen HSM.out r5 HR5).mono ?_
    rintro e v6 ⟨rfl, hxj⟩
    replace HEJ : Hid (Ext w2 v6) := Lib.hid (HEJ.out.trans hxj)
    clear hxj y0
    have e3 : (r5 == r5) = true := by simp
    have y0 := (HB2.out.ext HEJ.out).cell 0
    go_wp2_with fail
    refine (works4_any v6).mono ?_
    rintro e v7 ⟨rfl, hxj⟩
    replace HEJ : Hid (Ext w2 v7) := Lib.hid (HEJ.out.trans hxj)
    clear hxj y0
    go_wp2_with fail
    go_ret
    exact ⟨rfl, HX2.out.trans HEJ.out⟩
end Go.Proofs.Ythofccoefiogiaa
