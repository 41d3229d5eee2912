/- TreePlaces, walked: always true. -/
import Derived.Test.YthofccoefiogiaaTStrip
import Derived.Test.YthofccoefiogiaaTSame
import Derived.Test.YthofccoefiogiaaTRefT
namespace Go.Proofs.Ythofccoefiogiaa
open Go Go.RowKit
set_option linter.unusedVariables false
set_option linter.unusedSimpArgs false
theorem pos_any {w : World} {A : Option Addr} {l : List NodeM} (h : TreeM w A l) (k : Nat) (hk : k < l.length) : ∃ b off, A = some ⟨b, off, none⟩ ∧ b < w.heap.size ∧ w.cell? ⟨b, off + k * 5 + 1, none⟩ = some (.int .i64 l[k].pos) := by
  obtain ⟨b, off, h1, h2, h3⟩ := h.at_ k hk
  exact ⟨b, off, h1, h2, h3 1 (by omega)⟩
set_option maxRecDepth 100000 in
set_option maxHeartbeats 16000000 in
theorem treePlaces_any (l : List NodeM) (A : Option Addr) (c : Nat) (ds : List Int) (D : Option Addr) (dc : Nat) (i : Int) (w : World) (ht : TreeM w A l) (hd : Cells w D (kcells ds)) :
    Calls Try.prog 10 #[.agg #[.slice A l.length c], .slice D ds.length dc, .int .i64 i] w fun e w' => e = .returned (.bool true) ∧ Ext w w' := by
  obtain ⟨i0, hi, hz0, hz1, hz2⟩ := info_parts infoNode
  have HT := Lib.hid ht
  have HD := Lib.hid hd
  clear ht hd
  obtain ⟨f, HF⟩ : ∃ f, Hid (fewM l 200 = f) := ⟨_, Lib.hid rfl⟩
  have HB0 : Hid (Blk (w.alloc (.cells #[.slice A l.length c] 62)) w.heap.size 62 #[.slice A l.length c]) := Lib.hid (Blk.new _ _ _)
  have HX0 : Hid (Ext w (w.alloc (.cells #[.slice A l.length c] 62))) := Lib.hid (Ext.alloc _ _)
  go_enter Try.func10, Try.ntmps10
  have y0 := HB0.out.cell 0
  go_wp2_with fail
  refine (few_any l A l.length c 200 _ rfl (HT.out.ext HX0.out) (by decide) f HF).mono ?_
  rintro e w1 ⟨rfl, hx1⟩
  have HB1 := Lib.hid (HB0.out.ext hx1)
  have HX1 := Lib.hid (HX0.out.trans hx1)
  clear hx1 y0 HB0 HX0
  obtain ⟨gt, hgt⟩ : ∃ gt, gt = w.heap.size := ⟨_, rfl⟩
  rw [← hgt] at HB1 ⊢
  have HGW := Lib.hid hgt
  clear hgt
  cases f with
  | false =>
    go_wp2_with fail
    refine (works4_any w1).mono ?_
    rintro e w2 ⟨rfl, hx2⟩
    have HX2 := Lib.hid (HX1.out.trans hx2)
    clear hx2
    go_wp2_with fail
    go_ret
    exact ⟨rfl, HX2.out⟩
  | true =>
    have hsm := few_sm HF.out (by decide)
    have hlen := hsm.1
    have HSM := Lib.hid hsm.2
    clear hsm
    have y0 := HB1.out.cell 0
    go_wp2_with fail
    refine (plain_any l A l.length c w1 rfl (HT.out.ext HX1.out) hlen).mono ?_
    rintro e w2 ⟨A', c', rfl, ht2, hx2⟩
    have HX2 := Lib.hid (HX1.out.trans hx2)
    have HB2 := Lib.hid (HB1.out.ext hx2)
    have HTR := Lib.hid ht2
    clear hx2 ht2 y0 HX1 HB1
    go_upto_region 5 with fail
    have HU0 : Hid (USt w2 (w2.alloc (.cells #[.slice none 0 0] 62)) gt gt w2.heap.size (.slice A l.length c) (.slice A l.length c) l [] 0 none 0) :=
      Lib.hid ⟨HB2.out.ext (Ext.alloc _ _), HB2.out.ext (Ext.alloc _ _), Blk.new _ _ _, World.ownsRow_nil _ _ _ _, Ext.alloc _ _, Nat.le_refl _, fun _ => rfl, rfl, rfl, by have := HB2.out.lt; omega, by have := HB2.out.lt; omega⟩
    have HT2 := Lib.hid (HT.out.ext HX2.out)
    have HD2 := Lib.hid (HD.out.ext HX2.out)
    clear HB2 HT HD
    generalize w2.alloc (.cells #[.slice none 0 0] 62) = w3 at *
    obtain ⟨gu, hgu⟩ : ∃ gu, gu = w2.heap.size := ⟨_, rfl⟩
    rw [← hgu] at HU0 ⊢
    clear hgu
    go_wp2_with fail
    go_loopw [9] (fun i wr => ∃ (k : Nat) (lu : List NodeM) (B : Option Addr) (bc : Nat), k ≤ l.length ∧ i = .int .i64 k ∧ Hid (USt w2 wr gt gt gu (.slice A l.length c) (.slice A l.length c) l lu k B bc)) (fun i _ => l.length - (intOf i).toNat)
    case atStart => exact ⟨0, [], none, 0, Nat.zero_le _, rfl, HU0⟩
    case round =>
      clear HU0
      obtain ⟨k, lu, B, bc, hk, rfl, HU⟩ := hrel
      obtain ⟨wa, rfl⟩ : ∃ wa : World, wa = wr := ⟨_, rfl⟩
      have y0 := HU.out.t1.cell 0
      by_cases hlt : k < l.length
      · have d0 : decide ((k : Int) < (l.length : Int)) = true := decide_eq_true (by omega)
        have q1 : (k : Int) < (l.length : Int) := by omega
        obtain ⟨bb, off, rfl, hbb, hcell⟩ := (HT2.out.ext HU.out.ext).at_ k hlt
        have HSTP : Hid (∀ pp : Int, ∀ W W' B' bc' bc2, ∀ x : NodeM, x = { l[k] with pos := pp } → USt w2 W gt gt gu (.slice (some ⟨bb, off, none⟩) l.length c) (.slice (some ⟨bb, off, none⟩) l.length c) l lu k B bc2 → W'.ownsRow w2.heap.size 73 5 (.slice B' (k + 1) bc') (k + 1) (trcells lu ++ x.cells) → W.grownBy W' (Value.slice B k bc2).ownBlock → (B' = none → bc' = 0) →
            USt w2 (W'.setCell ⟨gu, 0, none⟩ (.slice B' (k + 1) bc')) gt gt gu (.slice (some ⟨bb, off, none⟩) l.length c) (.slice (some ⟨bb, off, none⟩) l.length c) l (lu ++ [x]) (k + 1) B' bc') := Lib.hid (fun pp W W' B' bc' bc2 x hx h ho hg hn => h.step hlt (by rw [hx]; rfl) ho hg hn)
        generalize l[k] = x at *
        obtain ⟨kind, pos, text, num, kA, kc, kids⟩ := x
        have x0 : wa.cell? ⟨bb, off + k * 5, none⟩ = some (.int .u8 kind) := hcell 0 (by omega)
        have x1 : wa.cell? ⟨bb, off + k * 5 + 1, none⟩ = some (.int .i64 pos) := hcell 1 (by omega)
        have x2 : wa.cell? ⟨bb, off + k * 5 + 2, none⟩ = some (.string text) := hcell 2 (by omega)
        have x3 : wa.cell? ⟨bb, off + k * 5 + 3, none⟩ = some (.int .i64 num) := hcell 3 (by omega)
        have x4 : wa.cell? ⟨bb, off + k * 5 + 4, none⟩ = some (.slice kA kids.length kc) := hcell 4 (by omega)
        clear hcell
        go_upto_region 9 with fail
        have HXA : Hid (Ext wa (wa.alloc (.cells #[.int .u8 kind, .int .i64 pos, .string text, .int .i64 num, .slice kA kids.length kc] 73))) := Lib.hid (Ext.alloc _ _)
        have HBX : Hid (Blk (wa.alloc (.cells #[.int .u8 kind, .int .i64 pos, .string text, .int .i64 num, .slice kA kids.length kc] 73)) wa.heap.size 73 #[.int .u8 kind, .int .i64 pos, .string text, .int .i64 num, .slice kA kids.length kc]) := Lib.hid (Blk.new _ _ _)
        have HU1 := Lib.hid (HU.out.mono HXA.out)
        have HGX : Hid (gt ≠ wa.heap.size ∧ gu ≠ wa.heap.size ∧ (Value.slice B k bc).ownBlock ≠ some wa.heap.size ∧ w2.heap.size ≤ wa.heap.size) := Lib.hid (by
          have h1 := HU.out.t1.lt
          have h2 := HU.out.u.lt
          refine ⟨by omega, by omega, ?_, HU.out.ext.size⟩
          intro h
          have := (HU.out.own.lt _ h).2
          omega)
        clear x0 x1 x2 x3 x4 y0 HU HXA
        generalize wa.alloc (.cells #[.int .u8 kind, .int .i64 pos, .string text, .int .i64 num, .slice kA kids.length kc] 73) = wb at *
        generalize wa.heap.size = gx at *
        by_cases hkd : k < ds.length
        · have d1 : decide ((k : Int) < (ds.length : Int)) = true := decide_eq_true (by omega)
          obtain ⟨b3, off3, rfl, hb3, hk3⟩ := kids_at (HD2.out.ext HU1.out.ext) k hkd
          have q3 : (k : Int) < (ds.length : Int) := by omega
          generalize ds[k] = pp at *
          have f0 : wb.frozen? ⟨gx, 1, none⟩ = false := HBX.out.frozen 1
          have x1 : wb.cell? ⟨gx, 1, none⟩ = some (.int .i64 pos) := HBX.out.cell 1
          have HBP : Hid (Blk (wb.setCell ⟨gx, 1, none⟩ (.int .i64 pp)) gx 73 #[.int .u8 kind, .int .i64 pp, .string text, .int .i64 num, .slice kA kids.length kc]) := Lib.hid (HBX.out.put 1 _)
          have HUP := Lib.hid (HU1.out.far (p := ⟨gx, 1, none⟩) HGX.out.1 HGX.out.1 HGX.out.2.1 HGX.out.2.2.1 HGX.out.2.2.2 (.int .i64 pp))
          go_upto_region 11 with fail
          clear f0 x1 hk3
          generalize wb.setCell ⟨gx, 1, none⟩ (.int .i64 pp) = we at *
          have u0 := HUP.out.u.cell 0
          have x0 := HBP.out.cell 0
          have x1 := HBP.out.cell 1
          have x2 := HBP.out.cell 2
          have x3 := HBP.out.cell 3
          have x4 := HBP.out.cell 4
          have HUN := Lib.hid (HUP.out.mono (Ext.alloc we (.cells #[.int .u8 kind, .int .i64 pp, .string text, .int .i64 num, .slice kA kids.length kc] 73)))
          have HCA : Hid (Cells (we.alloc (.cells #[.int .u8 kind, .int .i64 pp, .string text, .int .i64 num, .slice kA kids.length kc] 73)) (some ⟨we.heap.size, 0, none⟩) [.int .u8 kind, .int .i64 pp, .string text, .int .i64 num, .slice kA kids.length kc]) := Lib.hid (Cells.new _ 73 #[.int .u8 kind, .int .i64 pp, .string text, .int .i64 num, .slice kA kids.length kc])
          go_wp2_with (at_builtin; refine wpList_grow rfl _ _ 60 rfl w2.heap.size 73 i0 _ 5 64 Try.underlying60 hi hz0 hz1 hz2 rfl (by decide) _ _ _ rfl HUN.out.own _ 1 1 [.int .u8 kind, .int .i64 pp, .string text, .int .i64 num, .slice kA kids.length kc] rfl (fun h => by cases h) rfl HCA.out ?c2 ?c3 ?c4 HUN.out.ext.size ?_)
          case c2 => first | (intro u hu; simp at hu; rcases hu with rfl | rfl | rfl | rfl | rfl <;> rfl) | exact ⟨rfl, rfl, rfl, rfl, rfl⟩
          case c3 => unfold maxLen; omega
          case c4 => omega
          intro A3 c3 w4 hn3 ho3 hg3
          have HU4 := Lib.hid (HSTP.out (pp) _ w4 A3 c3 bc ⟨kind, pp, text, num, kA, kc, kids⟩ rfl HUN.out ho3 hg3 hn3)
          have u1 : Blk w4 gu 62 #[.slice B k bc] := HUN.out.u.grown hg3 (Ne.symm (own_differ HUN.out.own HUN.out.u (by decide)))
          have z0 := u1.cell 0
          have z1 := u1.frozen 0
          clear u1 ho3 hg3 hn3 x0 x1 x2 x3 x4 u0
          go_wp2_with fail
          go_roundw
          case rel => exact ⟨k + 1, lu ++ [⟨kind, pp, text, num, kA, kc, kids⟩], A3, c3, by omega, by go_num, HU4⟩
          case measure => simp [intOf]; omega
        · have d1 : decide ((k : Int) < (ds.length : Int)) = false := decide_eq_false (by omega)
          have u0 := HU1.out.u.cell 0
          have x0 := HBX.out.cell 0
          have x1 := HBX.out.cell 1
          have x2 := HBX.out.cell 2
          have x3 := HBX.out.cell 3
          have x4 := HBX.out.cell 4
          have HUN := Lib.hid (HU1.out.mono (Ext.alloc wb (.cells #[.int .u8 kind, .int .i64 pos, .string text, .int .i64 num, .slice kA kids.length kc] 73)))
          have HCA : Hid (Cells (wb.alloc (.cells #[.int .u8 kind, .int .i64 pos, .string text, .int .i64 num, .slice kA kids.length kc] 73)) (some ⟨wb.heap.size, 0, none⟩) [.int .u8 kind, .int .i64 pos, .string text, .int .i64 num, .slice kA kids.length kc]) := Lib.hid (Cells.new _ 73 #[.int .u8 kind, .int .i64 pos, .string text, .int .i64 num, .slice kA kids.length kc])
          go_wp2_with (at_builtin; refine wpList_grow rfl _ _ 60 rfl w2.heap.size 73 i0 _ 5 64 Try.underlying60 hi hz0 hz1 hz2 rfl (by decide) _ _ _ rfl HUN.out.own _ 1 1 [.int .u8 kind, .int .i64 pos, .string text, .int .i64 num, .slice kA kids.length kc] rfl (fun h => by cases h) rfl HCA.out ?c2 ?c3 ?c4 HUN.out.ext.size ?_)
          case c2 => first | (intro u hu; simp at hu; rcases hu with rfl | rfl | rfl | rfl | rfl <;> rfl) | exact ⟨rfl, rfl, rfl, rfl, rfl⟩
          case c3 => unfold maxLen; omega
          case c4 => omega
          intro A3 c3 w4 hn3 ho3 hg3
          have HU4 := Lib.hid (HSTP.out (pos) _ w4 A3 c3 bc ⟨kind, pos, text, num, kA, kc, kids⟩ rfl HUN.out ho3 hg3 hn3)
          have u1 : Blk w4 gu 62 #[.slice B k bc] := HUN.out.u.grown hg3 (Ne.symm (own_differ HUN.out.own HUN.out.u (by decide)))
          have z0 := u1.cell 0
          have z1 := u1.frozen 0
          clear u1 ho3 hg3 hn3 x0 x1 x2 x3 x4 u0
          go_wp2_with fail
          go_roundw
          case rel => exact ⟨k + 1, lu ++ [⟨kind, pos, text, num, kA, kc, kids⟩], A3, c3, by omega, by go_num, HU4⟩
          case measure => simp [intOf]; omega
      · obtain rfl : k = l.length := by omega
        have d0 : decide ((l.length : Int) < (l.length : Int)) = false := by simp
        obtain ⟨hst, htu⟩ := HU.out.done HT2.out
        have HST := Lib.hid hst
        have HTU := Lib.hid htu
        have HTA := Lib.hid (HT2.out.ext HU.out.ext)
        have HLU : Hid (lu.length = l.length) := Lib.hid (strip_len hst)
        have HSMU := Lib.hid (strip_sm hst HSM.out)
        clear hst htu
        have HLT : Hid (gt < wa.heap.size ∧ gu < wa.heap.size) := Lib.hid ⟨HU.out.t1.lt, HU.out.u.lt⟩
        have y1 := HU.out.u.cell 0
        obtain ⟨r1, HR1⟩ : ∃ r, Hid (rightN l = r) := ⟨_, Lib.hid rfl⟩
        have HR1' : Hid (rightN lu = r1) := Lib.hid (by rw [strip_right HST.out]; exact HR1.out)
        obtain ⟨r2, HR2⟩ : ∃ r, Hid (deepM l = r) := ⟨_, Lib.hid rfl⟩
        have HR2' : Hid (deepM lu = r2) := Lib.hid (by rw [strip_deep HST.out]; exact HR2.out)
        obtain ⟨r3, HR3⟩ : ∃ r, Hid (sizeM l i = r) := ⟨_, Lib.hid rfl⟩
        have HR3' : Hid (sizeM lu i = r3) := Lib.hid (by rw [strip_size HST.out]; exact HR3.out)
        have HR4 : Hid (sameM l lu = true) := Lib.hid (strip_same HST.out)
        go_upto_region 12 with fail
        apply wp_region_ext (by kernel_rfl) (by kernel_rfl) (by kernel_rfl)
        apply step_det (.agg #[.slice A l.length c]) rfl rfl rfl
        · intro w' hw' hH
          clear hH
          have z0 := (hw'.cell (p := ⟨gt, 0, none⟩) HLT.out.1).trans y0
          simp [YieldsF, go_sem, z0]
          exact Ext.refl _
        apply step_det (.bool r1) rfl rfl rfl
        · intro w' hw' hH
          clear hH
          simp [YieldsF, go_sem]
          refine (right_any l A l.length c w' rfl (HTA.out.ext hw') hlen HSM.out r1 HR1).mono ?_
          rintro e w2 ⟨rfl, hx⟩
          exact ⟨_, rfl, rfl, hx⟩
        apply step_det (.agg #[.slice B l.length bc]) rfl rfl rfl
        · intro w' hw' hH
          clear hH
          have z0 := (hw'.cell (p := ⟨gu, 0, none⟩) HLT.out.2).trans y1
          simp [YieldsF, go_sem, z0]
          exact Ext.refl _
        apply step_det (.bool r1) rfl rfl rfl
        · intro w' hw' hH
          clear hH
          simp [YieldsF, go_sem]
          refine (right_any lu B l.length bc w' HLU.out.symm (HTU.out.ext hw') (by rw [HLU.out]; exact hlen) HSMU.out r1 HR1').mono ?_
          rintro e w2 ⟨rfl, hx⟩
          exact ⟨_, rfl, rfl, hx⟩
        apply step_det (.bool false) rfl rfl rfl
        · intro w' hw' hH
          clear hH
          simp [YieldsF, go_sem]
          exact Ext.refl _
        apply step_det (.bool false) rfl rfl rfl
        · intro w' hw' hH
          clear hH
          simp [YieldsF, go_sem]
          exact Ext.refl _
        apply step_on (.agg #[.slice A l.length c]) (by kernel_rfl) rfl rfl
        · intro w' hw' hH
          clear hH
          have z0 := (hw'.cell (p := ⟨gt, 0, none⟩) HLT.out.1).trans y0
          simp [YieldsF, go_sem, z0]
          exact Ext.refl _
        apply step_on (.int .i64 r2) (by kernel_rfl) rfl rfl
        · intro w' hw' hH
          clear hH
          simp [YieldsF, go_sem]
          refine (tdeep_any l A l.length c w' rfl (HTA.out.ext hw') hlen HSM.out r2 HR2).mono ?_
          rintro e w2 ⟨rfl, hx⟩
          exact ⟨_, rfl, rfl, hx⟩
        apply step_on (.agg #[.slice B l.length bc]) (by kernel_rfl) rfl rfl
        · intro w' hw' hH
          clear hH
          have z0 := (hw'.cell (p := ⟨gu, 0, none⟩) HLT.out.2).trans y1
          simp [YieldsF, go_sem, z0]
          exact Ext.refl _
        apply step_on (.int .i64 r2) (by kernel_rfl) rfl rfl
        · intro w' hw' hH
          clear hH
          simp [YieldsF, go_sem]
          refine (tdeep_any lu B l.length bc w' HLU.out.symm (HTU.out.ext hw') (by rw [HLU.out]; exact hlen) HSMU.out r2 HR2').mono ?_
          rintro e w2 ⟨rfl, hx⟩
          exact ⟨_, rfl, rfl, hx⟩
        apply step_on (.bool false) (by kernel_rfl) rfl rfl
        · intro w' hw' hH
          clear hH
          simp [YieldsF, go_sem]
          exact Ext.refl _
        apply step_det (.bool false) rfl rfl rfl
        · intro w' hw' hH
          clear hH
          simp [YieldsF, go_sem]
          exact Ext.refl _
        apply step_det (.bool false) rfl rfl rfl
        · intro w' hw' hH
          clear hH
          simp [YieldsF, go_sem]
          exact Ext.refl _
        apply step_on (.agg #[.slice A l.length c]) (by kernel_rfl) rfl rfl
        · intro w' hw' hH
          clear hH
          have z0 := (hw'.cell (p := ⟨gt, 0, none⟩) HLT.out.1).trans y0
          simp [YieldsF, go_sem, z0]
          exact Ext.refl _
        apply step_on (.int .i64 i) (by kernel_rfl) rfl rfl
        · intro w' hw' hH
          clear hH
          simp [YieldsF, go_sem]
          exact Ext.refl _
        apply step_on (.int .i64 r3) (by kernel_rfl) rfl rfl
        · intro w' hw' hH
          clear hH
          simp [YieldsF, go_sem]
          refine (size_any l A l.length c i w' rfl (HTA.out.ext hw') hlen HSM.out r3 HR3).mono ?_
          rintro e w2 ⟨rfl, hx⟩
          exact ⟨_, rfl, rfl, hx⟩
        apply step_on (.agg #[.slice B l.length bc]) (by kernel_rfl) rfl rfl
        · intro w' hw' hH
          clear hH
          have z0 := (hw'.cell (p := ⟨gu, 0, none⟩) HLT.out.2).trans y1
          simp [YieldsF, go_sem, z0]
          exact Ext.refl _
        apply step_on (.int .i64 i) (by kernel_rfl) rfl rfl
        · intro w' hw' hH
          clear hH
          simp [YieldsF, go_sem]
          exact Ext.refl _
        apply step_on (.int .i64 r3) (by kernel_rfl) rfl rfl
        · intro w' hw' hH
          clear hH
          simp [YieldsF, go_sem]
          refine (size_any lu B l.length bc i w' HLU.out.symm (HTU.out.ext hw') (by rw [HLU.out]; exact hlen) HSMU.out r3 HR3').mono ?_
          rintro e w2 ⟨rfl, hx⟩
          exact ⟨_, rfl, rfl, hx⟩
        apply step_on (.bool false) (by kernel_rfl) rfl rfl
        · intro w' hw' hH
          clear hH
          simp [YieldsF, go_sem]
          exact Ext.refl _
        apply step_det (.bool false) rfl rfl rfl
        · intro w' hw' hH
          clear hH
          simp [YieldsF, go_sem]
          exact Ext.refl _
        apply step_det (.bool false) rfl rfl rfl
        · intro w' hw' hH
          clear hH
          simp [YieldsF, go_sem]
          exact Ext.refl _
        apply step_on (.agg #[.slice A l.length c]) (by kernel_rfl) rfl rfl
        · intro w' hw' hH
          clear hH
          have z0 := (hw'.cell (p := ⟨gt, 0, none⟩) HLT.out.1).trans y0
          simp [YieldsF, go_sem, z0]
          exact Ext.refl _
        apply step_on (.agg #[.slice B l.length bc]) (by kernel_rfl) rfl rfl
        · intro w' hw' hH
          clear hH
          have z0 := (hw'.cell (p := ⟨gu, 0, none⟩) HLT.out.2).trans y1
          simp [YieldsF, go_sem, z0]
          exact Ext.refl _
        apply step_on (.bool true) (by kernel_rfl) rfl rfl
        · intro w' hw' hH
          clear hH
          simp [YieldsF, go_sem]
          refine (same_any l lu A B l.length c l.length bc w' rfl HLU.out.symm (HTA.out.ext hw') (HTU.out.ext hw') hlen (by rw [HLU.out]; exact hlen) (fun x hx => (HSM.out x hx).kids) (fun x hx => (HSMU.out x hx).kids) true HR4).mono ?_
          rintro e w2 ⟨rfl, hx⟩
          exact ⟨_, rfl, rfl, hx⟩
        apply step_on (.bool false) (by kernel_rfl) rfl rfl
        · intro w' hw' hH
          clear hH
          simp [YieldsF, go_sem]
          exact Ext.refl _
        apply step_det (.bool false) rfl rfl rfl
        · intro w' hw' hH
          clear hH
          simp [YieldsF, go_sem]
          exact Ext.refl _
        apply WalkF_nil
        intro w5 hw5 hH
        clear hH
        have HXW5 : Hid (Ext w2 w5) := Lib.hid (HU.out.ext.trans hw5)
        have HX5 : Hid (Ext w w5) := Lib.hid (HX2.out.trans HXW5.out)
        have HB5 := Lib.hid (HU.out.t1.ext hw5)
        clear hw5 y0 y1
        try simp only [Act.put, List.setIfInBounds_toArray, List.set_cons_zero, List.set_cons_succ]
        have y0 := HB5.out.cell 0
        go_wp2_with fail
        refine (plain_any l A l.length c w5 rfl (HT2.out.ext HXW5.out) hlen).mono ?_
        rintro e w6 ⟨A6, c6, rfl, ht6, hx6⟩
        have HT6 := Lib.hid ht6
        have HX6 := Lib.hid (HX5.out.trans hx6)
        have HTR6 : Hid (TreeM w6 A' l) := Lib.hid (HTR.out.ext (HXW5.out.trans hx6))
        clear hx6 ht6 y0
        go_wp2_with fail
        refine (rSame_any l l A' A6 l.length c' l.length c6 w6 rfl rfl HTR6.out HT6.out hlen hlen (fun x hx => (HSM.out x hx).kids) (fun x hx => (HSM.out x hx).kids) true (Lib.hid (same_self l))).mono ?_
        rintro e w7 ⟨rfl, hx7⟩
        have HT7 := Lib.hid (HT6.out.ext hx7)
        have HTR7 := Lib.hid (HTR6.out.ext hx7)
        have HX7 := Lib.hid (HX6.out.trans hx7)
        clear hx7
        go_wp2_with fail
        go_loopw [12] (fun i wr => ∃ k : Nat, k ≤ l.length ∧ i = .int .i64 k ∧ Hid (Ext w7 wr)) (fun i _ => l.length - (intOf i).toNat)
        case atStart => exact ⟨0, Nat.zero_le _, rfl, Lib.hid (Ext.refl _)⟩
        case round =>
          obtain ⟨k, hk, rfl, HXK⟩ := hrel
          obtain ⟨wk, rfl⟩ : ∃ wk : World, wk = wr := ⟨_, rfl⟩
          by_cases hlt : k < l.length
          · have d1 : decide ((k : Int) < (l.length : Int)) = true := decide_eq_true (by omega)
            have q1 : (k : Int) < (l.length : Int) := by omega
            obtain ⟨b1, off1, rfl, hb1, hp1⟩ := pos_any (HTR7.out.ext HXK.out) k hlt
            obtain ⟨b2, off2, rfl, hb2, hp2⟩ := pos_any (HT7.out.ext HXK.out) k hlt
            generalize l[k].pos = ps at *
            have e5 : (ps == ps) = true := by simp
            have e6 : (ps != ps) = false := by simp
            go_wp2_with fail
            go_quiet (fail)
            have HXQ := Lib.hid (HXK.out.drewN nq)
            go_wp2_with fail
            go_roundw
            case rel => exact ⟨k + 1, by omega, by go_num, HXQ⟩
            case measure => simp [intOf]; omega
          · obtain rfl : k = l.length := by omega
            have d1 : decide ((l.length : Int) < (l.length : Int)) = false := by simp
            go_wp2_with fail
            refine (works4_any wk).mono ?_
            rintro e w8 ⟨rfl, hx8⟩
            have HX8 := Lib.hid ((HX7.out.trans HXK.out).trans hx8)
            clear hx8
            go_wp2_with fail
            go_ret
            exact ⟨rfl, HX8.out⟩
end Go.Proofs.Ythofccoefiogiaa
