/- TreeSizes, walked: always true. -/
import Derived.Test.YthofccoefiogiaaTWorks
namespace Go.Proofs.Ythofccoefiogiaa
open Go Go.RowKit
set_option linter.unusedVariables false
set_option linter.unusedSimpArgs false
theorem size_sum {l : List NodeM} (hr : rightN l = true) (i : Nat) (hi : i < l.length) : 1 + (l[i].kids.map (sizeM l)).sum = sizeM l (i : Int) := by
  obtain ⟨Z, hZ⟩ := right_some hr
  obtain ⟨_, _, _, hz⟩ := ends_some hZ
  have hin := right_inRange hZ l[i] (List.getElem_mem hi)
  have h1 := hz i (by rw [ksOf_len]; exact hi)
  have h2 := h1
  rw [endD_eq, if_pos (by rw [ksOf_len]; exact hi), ksOf_getD l i hi] at h2
  have h3 := kidsR_sum hz _ _ _ h2
  have h4 : l[i].kids.map (sizeM l) = l[i].kids.map (fun k => (Z.getD k.toNat 0 : Int) - k) := by
    apply List.map_congr_left
    intro y hy
    obtain ⟨a, rfl, ha⟩ := hin y hy
    rw [sizeM_ends hr hZ a ha, Int.toNat_natCast]
  rw [h4, h3, sizeM_ends hr hZ i hi]
  omega
theorem size_zero {l : List NodeM} (hr : rightN l = true) : sizeM l 0 = (l.length : Int) ∧ 0 < l.length := by
  obtain ⟨Z, hZ⟩ := right_some hr
  obtain ⟨_, h2, h3, hz⟩ := ends_some hZ
  rw [ksOf_len] at h2 h3
  have := sizeM_ends hr hZ 0 (by omega)
  have h4 := hz 0 (by rw [ksOf_len]; omega)
  rw [h3] at h4
  injection h4 with h4
  refine ⟨?_, by omega⟩
  rw [show ((0 : Nat) : Int) = 0 from rfl] at this
  rw [this, ← h4]
  omega
theorem size_b {l : List NodeM} (hr : rightN l = true) (a : Nat) (ha : a < l.length) : 0 ≤ sizeM l (a : Int) ∧ sizeM l (a : Int) ≤ (l.length : Int) := by
  obtain ⟨Z, hZ⟩ := right_some hr
  obtain ⟨_, _, _, hz⟩ := ends_some hZ
  rw [sizeM_ends hr hZ a ha]
  have := endD_gt (hz a (by rw [ksOf_len]; exact ha))
  have h2 := ksOf_len l
  omega
theorem count_take (kids : List Int) (j : Nat) (hj : j < kids.length) (q : Int) : ((kids.take (j + 1)).count q : Int) = ((kids.take j).count q : Int) + (if kids[j] = q then 1 else 0) := by
  rw [List.take_succ_eq_append_getElem hj, List.count_append, List.count_singleton]
  by_cases h : kids[j] = q
  · rw [if_pos h]; simp [h]
  · rw [if_neg h]; simp [h]
theorem kidCount_succ (ks : List (List Int)) (j k : Nat) : kidCount ks j (k + 1) 0 = kidCount ks j k 0 + (ks.getD k []).count (j : Int) := by
  rw [kidCount_add, Nat.zero_add]
  show _ = _ + _
  congr 1
/-- The counts, so far. -/
structure Cnt (l : List NodeM) (k j : Nat) (kids : List Int) (K : List Int) : Prop where
  len : K.length = l.length
  val : ∀ q, q < l.length → K.getD q 0 = (kidCount (ksOf l) q k 0 : Int) + ((kids.take j).count (q : Int) : Int)
  bnd : ∀ q, 0 ≤ K.getD q 0 ∧ K.getD q 0 ≤ 1000 * (k : Int) + (j : Int)
theorem Cnt.zero (l : List NodeM) : Cnt l 0 0 [] (List.replicate l.length 0) := by
  refine ⟨by simp, fun q hq => ?_, fun q => ?_⟩
  · simp [List.getD_eq_getElem?_getD, List.getElem?_replicate, hq, kidCount]
  · simp [List.getD_eq_getElem?_getD, List.getElem?_replicate]
    split <;> simp
theorem Cnt.start {l : List NodeM} {k : Nat} {K : List Int} (h : Cnt l k 0 [] K) (kids : List Int) : Cnt l k 0 kids K := ⟨h.len, by simpa using h.val, h.bnd⟩
theorem Cnt.bump {l : List NodeM} {k j : Nat} {kids K : List Int} (h : Cnt l k j kids K) (hj : j < kids.length) (a : Nat) (ha : kids[j] = (a : Int)) : Cnt l k (j + 1) kids (K.set a (K.getD a 0 + 1)) := by
  refine ⟨by rw [List.length_set]; exact h.len, fun q hq => ?_, fun q => ?_⟩
  · rw [getD_set, count_take kids j hj, ha]
    have hv := h.val q hq
    by_cases hqa : a = q
    · subst hqa
      rw [if_pos ⟨rfl, by rw [h.len]; exact hq⟩, if_pos rfl, hv]
      omega
    · rw [if_neg (fun hh => hqa hh.1), if_neg (by omega), hv]
      omega
  · rw [getD_set]
    have h1 := h.bnd a
    have h2 := h.bnd q
    split <;> omega
theorem Cnt.done {l : List NodeM} {k : Nat} {K : List Int} (hk : k < l.length) (h : Cnt l k l[k].kids.length l[k].kids K) (hb : l[k].kids.length ≤ 1000) : Cnt l (k + 1) 0 [] K := by
  refine ⟨h.len, fun q hq => ?_, fun q => ?_⟩
  · rw [h.val q hq, List.take_length, kidCount_succ, ksOf_getD l k hk]
    simp
  · have := h.bnd q
    omega
theorem Cnt.once {l : List NodeM} (hr : rightN l = true) {k : Nat} {K : List Int} (hk : k < l.length) (h0 : 0 < k) (h : Cnt l (k + 1) 0 [] K) : K.getD k 0 = 1 := by
  obtain ⟨Z, hZ⟩ := right_some hr
  have h1 := kid_one hZ k h0 (by rw [ksOf_len]; exact hk)
  rw [h.val k hk, h1]
  simp
set_option maxRecDepth 100000 in
set_option maxHeartbeats 16000000 in
theorem treeSizes_any (l : List NodeM) (A : Option Addr) (c : Nat) (w : World) (ht : TreeM w A l) :
    Calls Try.prog 9 #[.agg #[.slice A l.length c]] w fun e w' => e = .returned (.bool true) ∧ Ext w w' := by
  have HT := Lib.hid ht
  clear ht
  obtain ⟨f, HF⟩ : ∃ f, Hid (fewM l 150 = f) := ⟨_, Lib.hid rfl⟩
  have HB0 : Hid (Blk (w.alloc (.cells #[.slice A l.length c] 62)) w.heap.size 62 #[.slice A l.length c]) := Lib.hid (Blk.new _ _ _)
  have HX0 : Hid (Ext w (w.alloc (.cells #[.slice A l.length c] 62))) := Lib.hid (Ext.alloc _ _)
  go_enter Try.func9, Try.ntmps9
  have y0 := HB0.out.cell 0
  go_wp2_with fail
  refine (few_any l A l.length c 150 _ rfl (HT.out.ext HX0.out) (by decide) f HF).mono ?_
  rintro e w1 ⟨rfl, hx1⟩
  have HB1 := Lib.hid (HB0.out.ext hx1)
  have HX1 := Lib.hid (HX0.out.trans hx1)
  clear hx1 y0 HB0 HX0
  obtain ⟨gt, hgt⟩ : ∃ gt, gt = w.heap.size := ⟨_, rfl⟩
  rw [← hgt] at HB1 ⊢
  have HGW := Lib.hid hgt
  clear hgt
  cases f with
  | false =>
    go_wp2_with fail
    refine (works4_any w1).mono ?_
    rintro e w2 ⟨rfl, hx2⟩
    have HX2 := Lib.hid (HX1.out.trans hx2)
    clear hx2
    go_wp2_with fail
    go_ret
    exact ⟨rfl, HX2.out⟩
  | true =>
    have hsm := few_sm HF.out (by decide)
    have hlen := hsm.1
    have HSM := Lib.hid hsm.2
    clear hsm
    have y0 := HB1.out.cell 0
    obtain ⟨r, HR⟩ : ∃ r, Hid (rightN l = r) := ⟨_, Lib.hid rfl⟩
    go_wp2_with fail
    refine (right_any l A l.length c w1 rfl (HT.out.ext HX1.out) hlen HSM.out r HR).mono ?_
    rintro e w2 ⟨rfl, hx2⟩
    have HX2 := Lib.hid (HX1.out.trans hx2)
    have HB2 := Lib.hid (HB1.out.ext hx2)
    clear hx2 y0 HX1 HB1
    cases r with
    | false =>
      go_wp2_with fail
      refine (works4_any w2).mono ?_
      rintro e w3 ⟨rfl, hx3⟩
      have HX3 := Lib.hid (HX2.out.trans hx3)
      clear hx3
      go_wp2_with fail
      go_ret
      exact ⟨rfl, HX3.out⟩
    | true =>
      have hmk := run_make_row' (P := Try.prog) 29 3 (.int .i64 0) 8 Try.underlying29 infoInt rfl .i64 .i64 l.length (by omega) (by omega)
      have y0 := HB2.out.cell 0
      go_upto_region 4 with fail
      have HBK : Hid (Blk (w2.alloc (.cells (madeCells #[.int .i64 0] l.length) 3)) w2.heap.size 3 (kcells (List.replicate l.length 0)).toArray) := Lib.hid (by
        rw [kzero]
        exact Blk.new _ _ _)
      have HXM : Hid (Ext w2 (w2.alloc (.cells (madeCells #[.int .i64 0] l.length) 3))) := Lib.hid (Ext.alloc _ _)
      have HG3 := Lib.hid (HB2.out.ext HXM.out)
      have HX3 := Lib.hid (HX2.out.trans HXM.out)
      have HGT : Hid (gt ≠ w2.heap.size) := Lib.hid (by have := HB2.out.lt; omega)
      have HGE : Hid (w.heap.size ≤ w2.heap.size) := Lib.hid HX2.out.size
      clear y0 HXM HX2 HB2
      generalize w2.alloc (.cells (madeCells #[.int .i64 0] l.length) 3) = w3 at *
      generalize w2.heap.size = g at *
      clear hmk
      go_wp2_with fail
      have HS0 := Lib.hid (size_zero HR.out)
      have HIN : Hid (∀ i, i < l.length → ∀ k ∈ (ksOf l).getD i [], (i : Int) < k ∧ k < (l.length : Int)) := Lib.hid (by obtain ⟨Z, hZ⟩ := right_some HR.out; exact (rangeB_iff l).1 (ends_range hZ))
      go_loopw [4] (fun i wr => ∃ (k : Nat) (K : List Int), k ≤ l.length ∧ i = .int .i64 k ∧ Hid (Cnt l k 0 [] K) ∧ Hid (Blk wr g 3 (kcells K).toArray) ∧ Hid (Blk wr gt 62 #[.slice A l.length c]) ∧ Hid (Ext w wr)) (fun i _ => l.length - (intOf i).toNat)
      case atStart => exact ⟨0, List.replicate l.length 0, Nat.zero_le _, rfl, Lib.hid (Cnt.zero l), HBK, HG3, HX3⟩
      case round =>
        clear HBK HG3 HX3
        obtain ⟨k, K, hk, rfl, HC, HBK, HG, HX⟩ := hrel
        obtain ⟨wa, rfl⟩ : ∃ wa : World, wa = wr := ⟨_, rfl⟩
        have y0 := HG.out.cell 0
        by_cases hlt : k < l.length
        · have d0 : decide ((k : Int) < (l.length : Int)) = true := decide_eq_true (by omega)
          have q1 : (k : Int) < (l.length : Int) := by omega
          have HDN : Hid (∀ K, Cnt l k l[k].kids.length l[k].kids K → Cnt l (k + 1) 0 [] K) := Lib.hid (fun K h => h.done hlt (HSM.out _ (List.getElem_mem hlt)).kids)
          have HSS : Hid (1 + (l[k].kids.map (sizeM l)).sum = sizeM l (k : Int)) := Lib.hid (size_sum HR.out k hlt)
          have hsb := size_b HR.out k hlt
          obtain ⟨bb, off, rfl, hbb, hcell⟩ := HT.out.at_ k hlt
          have HNO : Hid (NodeOk w l[k]) := Lib.hid (HT.out.ok _ (List.getElem_mem hlt))
          have hkl : l[k].kids.length ≤ 1000 := (HSM.out _ (List.getElem_mem hlt)).kids
          have HRG : Hid (∀ y ∈ l[k].kids, (k : Int) < y ∧ y < (l.length : Int)) := Lib.hid (by have := HIN.out k hlt; rw [ksOf_getD l k hlt] at this; exact this)
          generalize l[k] = x at *
          obtain ⟨kind, pos, text, num, kA, kc, kids⟩ := x
          simp only at hkl HRG HDN HSS
          have C4 : Hid (w.cell? ⟨bb, off + k * 5 + 4, none⟩ = some (.slice kA kids.length kc)) := Lib.hid (hcell 4 (by omega))
          clear hcell
          go_wp2_with fail
          clear y0
          go_loopw [5, 6] (fun su i wr => ∃ (j : Nat) (s : Int) (K : List Int), j ≤ kids.length ∧ i = .int .i64 j ∧ su = .int .i64 s ∧ 0 ≤ s ∧ s ≤ 1 + 1000 * (j : Int) ∧ Hid (s = 1 + ((kids.take j).map (sizeM l)).sum) ∧ Hid (Cnt l k j kids K) ∧ Hid (Blk wr g 3 (kcells K).toArray) ∧ Hid (Blk wr gt 62 #[.slice (some ⟨bb, off, none⟩) l.length c]) ∧ Hid (Ext w wr)) (fun _ i _ => kids.length - (intOf i).toNat)
          case atStart => exact ⟨0, 1, K, Nat.zero_le _, rfl, rfl, by omega, by omega, Lib.hid rfl, Lib.hid (HC.out.start kids), HBK, HG, HX⟩
          case round =>
            clear HC HBK HG HX
            obtain ⟨j, s, K, hj, rfl, rfl, hs0, hs1, HS, HC, HBK, HG, HX⟩ := hrel
            obtain ⟨wd, rfl⟩ : ∃ wd : World, wd = wr := ⟨_, rfl⟩
            have y0 := HG.out.cell 0
            have c4 : wd.cell? ⟨bb, off + k * 5 + 4, none⟩ = some (.slice kA kids.length kc) := (HX.out.cell (p := ⟨bb, off + k * 5 + 4, none⟩) hbb).trans C4.out
            by_cases hjl : j < kids.length
            · have d1 : decide ((j : Int) < (kids.length : Int)) = true := decide_eq_true (by omega)
              obtain ⟨b2, off2, rfl, hb2, hk2⟩ := kids_at (HNO.out.kids.ext HX.out) j hjl
              simp only at hk2
              have hy := HRG.out kids[j] (List.getElem_mem hjl)
              obtain ⟨a, ha⟩ : ∃ a : Nat, kids[j] = (a : Int) := ⟨(kids[j]).toNat, by omega⟩
              have HTK : Hid (s + sizeM l (a : Int) = 1 + ((kids.take (j + 1)).map (sizeM l)).sum) := Lib.hid (by
                rw [List.take_succ_eq_append_getElem hjl, List.map_append, List.sum_append, ha, HS.out]
                simp
                omega)
              have HCN := Lib.hid (HC.out.bump hjl a ha)
              have hcb := HC.out.bnd a
              have HCL := Lib.hid HC.out.len
              rw [ha] at hk2 hy
              clear ha
              have hal : a < l.length := by omega
              have hsz := size_b HR.out a hal
              obtain ⟨sz, HSZ⟩ : ∃ sz, Hid (sizeM l (a : Int) = sz) := ⟨_, Lib.hid rfl⟩
              rw [HSZ.out] at HTK hsz
              have f1 : decide ((a : Int) ≤ (k : Int)) = false := decide_eq_false (by omega)
              have f1' : decide (a ≤ k) = false := decide_eq_false (by omega)
              have f2 : decide ((l.length : Int) ≤ (a : Int)) = false := decide_eq_false (by omega)
              have f2' : decide (l.length ≤ a) = false := decide_eq_false (by omega)
              have f2'' : decide ((a : Int) ≥ (l.length : Int)) = false := decide_eq_false (by omega)
              have z2 : wd.cell? ⟨g, a, none⟩ = some (.int .i64 (K.getD a 0)) := (HBK.out.cell a).trans (kget K a (by have := HCL.out; omega))
              have zf : wd.frozen? ⟨g, a, none⟩ = false := HBK.out.frozen a
              have q3 : (a : Int) < (l.length : Int) := by omega
              have HBN : Hid (Blk (wd.setCell ⟨g, a, none⟩ (.int .i64 (K.getD a 0 + 1))) g 3 (kcells (K.set a (K.getD a 0 + 1))).toArray) := Lib.hid (by rw [← kset]; exact HBK.out.put a _)
              have HGN := Lib.hid (HG.out.far HGT.out (p := ⟨g, a, none⟩) (.int .i64 (K.getD a 0 + 1)))
              have HXN := Lib.hid (HX.out.setCell (p := ⟨g, a, none⟩) HGE.out (.int .i64 (K.getD a 0 + 1)))
              generalize K.set a (K.getD a 0 + 1) = K2 at *
              generalize K.getD a 0 = kv at *
              have y2 := HGN.out.cell 0
              go_wp2_with fail
              refine (size_any l _ l.length c (a : Int) _ rfl (HT.out.ext HXN.out) hlen HSM.out sz HSZ).mono ?_
              rintro e w5 ⟨rfl, hx5⟩
              have HX5 : Hid (Ext w w5) := Lib.hid (Ext.trans HXN.out hx5)
              have HB5 := Lib.hid (HBN.out.ext hx5)
              have HG5 := Lib.hid (HGN.out.ext hx5)
              clear hx5 y2 y0 c4 z2 zf
              go_wp2_with fail
              go_roundw
              case rel => exact ⟨j + 1, s + sz, K2, by omega, by go_num, by go_num, by omega, by omega, HTK, HCN, HB5, HG5, HX5⟩
              case measure => simp [intOf]; omega
            · obtain rfl : j = kids.length := by omega
              have d1 : decide ((kids.length : Int) < (kids.length : Int)) = false := by simp
              have HCD := Lib.hid (HDN.out K HC.out)
              have HSE : Hid (sizeM l (k : Int) = s) := Lib.hid (by
                have h1 := HS.out
                rw [List.take_length] at h1
                rw [← HSS.out, h1])
              rw [HSE.out] at hsb
              have HCL := Lib.hid HC.out.len
              have e1 : (s == s) = true := by simp
              have e2 : (s != s) = false := by simp
              go_wp2_with fail
              refine (size_any l _ l.length c (k : Int) wd rfl (HT.out.ext HX.out) hlen HSM.out s HSE).mono ?_
              rintro e w5 ⟨rfl, hx5⟩
              have HX5 := Lib.hid (HX.out.trans hx5)
              have HB5 := Lib.hid (HBK.out.ext hx5)
              have HG5 := Lib.hid (HG.out.ext hx5)
              clear hx5 y0 c4
              by_cases hk0 : 0 < k
              · have f1 : decide ((k : Int) > 0) = true := decide_eq_true (by omega)
                have f2 : decide (0 < k) = true := decide_eq_true hk0
                have z2 : w5.cell? ⟨g, k, none⟩ = some (.int .i64 1) := (HB5.out.cell k).trans (by rw [kget K k (by have := HCL.out; omega), HCD.out.once HR.out hlt hk0])
                go_wp2_with fail
                go_roundw
                case rel => exact ⟨k + 1, K, by omega, by go_num, HCD, HB5, HG5, HX5⟩
                case measure => simp [intOf]; omega
              · have f1 : decide ((k : Int) > 0) = false := decide_eq_false (by omega)
                have f2 : decide (0 < k) = false := decide_eq_false hk0
                go_wp2_with fail
                go_roundw
                case rel => exact ⟨k + 1, K, by omega, by go_num, HCD, HB5, HG5, HX5⟩
                case measure => simp [intOf]; omega
        · obtain rfl : k = l.length := by omega
          have d0 : decide ((l.length : Int) < (l.length : Int)) = false := by simp
          have HLT : Hid (gt < wa.heap.size) := Lib.hid HG.out.lt
          go_upto_region 18 with fail
          apply wp_region_ext (by kernel_rfl) (by kernel_rfl) (by kernel_rfl)
          apply step_det (.agg #[.slice A l.length c]) rfl rfl rfl
          · intro w' hw' hH
            clear hH
            have z0 := (hw'.cell (p := ⟨gt, 0, none⟩) HLT.out).trans y0
            simp [YieldsF, go_sem, z0]
            exact Ext.refl _
          apply step_det (.int .i64 (l.length : Int)) rfl rfl rfl
          · intro w' hw' hH
            clear hH
            simp [YieldsF, go_sem]
            refine (size_any l A l.length c 0 w' rfl ((HT.out.ext HX.out).ext hw') hlen HSM.out (l.length : Int) (Lib.hid HS0.out.1)).mono ?_
            rintro e w2 ⟨rfl, hx⟩
            exact ⟨_, rfl, rfl, hx⟩
          apply step_det (.pointer (some ⟨gt, 0, none⟩)) rfl rfl rfl
          · intro w' hw' hH
            clear hH
            simp [YieldsF, go_sem]
            exact Ext.refl _
          apply step_det (.slice A l.length c) rfl rfl rfl
          · intro w' hw' hH
            clear hH
            have z0 := (hw'.cell (p := ⟨gt, 0, none⟩) HLT.out).trans y0
            simp [YieldsF, go_sem, z0]
            exact Ext.refl _
          apply step_det (.int .i64 (l.length : Int)) rfl rfl rfl
          · intro w' hw' hH
            clear hH
            simp [YieldsF, go_sem]
            exact Ext.refl _
          apply step_det (.bool true) rfl rfl rfl
          · intro w' hw' hH
            clear hH
            simp [YieldsF, go_sem]
            exact Ext.refl _
          apply step_det (.bool true) rfl rfl rfl
          · intro w' hw' hH
            clear hH
            simp [YieldsF, go_sem]
            exact Ext.refl _
          apply step_on (.bool true) (by kernel_rfl) rfl rfl
          · intro w' hw' hH
            clear hH
            simp [YieldsF, go_sem]
            refine (works4_any w').mono ?_
            rintro e w2 ⟨rfl, hx⟩
            exact ⟨_, rfl, rfl, hx⟩
          apply step_det (.bool true) rfl rfl rfl
          · intro w' hw' hH
            clear hH
            simp [YieldsF, go_sem]
            exact Ext.refl _
          apply step_det (.bool true) rfl rfl rfl
          · intro w' hw' hH
            clear hH
            simp [YieldsF, go_sem]
            exact Ext.refl _
          apply WalkF_nil
          intro w2 hw2 hH
          clear hH
          have HX2 : Hid (Ext w w2) := Lib.hid (HX.out.trans hw2)
          clear hw2
          try simp only [Act.put, List.setIfInBounds_toArray, List.set_cons_zero, List.set_cons_succ]
          go_wp2_with fail
          go_ret
          exact ⟨rfl, HX2.out⟩
end Go.Proofs.Ythofccoefiogiaa
