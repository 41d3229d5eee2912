/- tree.Deep, walked. -/
import Derived.Test.YthofccoefiogiaaTProg
namespace Go.Proofs.Ythofccoefiogiaa
open Go Go.RowKit
set_option linter.unusedVariables false
set_option linter.unusedSimpArgs false
theorem kset (D : List Int) (i : Nat) (v : Int) : (kcells D).toArray.setIfInBounds i (.int .i64 v) = (kcells (D.set i v)).toArray := by
  unfold kcells
  rw [List.setIfInBounds_toArray, List.map_set]
theorem kget (D : List Int) (i : Nat) (h : i < D.length) : (kcells D).toArray[i]? = some (.int .i64 (D.getD i 0)) := by
  unfold kcells
  simp [List.getD_eq_getElem?_getD, h]
theorem kzero (n : Nat) : madeCells #[.int .i64 0] n = (kcells (List.replicate n 0)).toArray := by
  apply Array.toList_inj.1
  rw [toList_madeCells_one]
  simp [kcells]
theorem setAll_b {c : Int} (v : Int) (h0 : 0 ≤ v) (hv : v ≤ c) : ∀ (l D : List Int), (∀ j, 0 ≤ D.getD j 0 ∧ D.getD j 0 ≤ c) → ∀ j, 0 ≤ (setAll v l D).getD j 0 ∧ (setAll v l D).getD j 0 ≤ c := by
  intro l
  induction l with
  | nil => intro D h; exact h
  | cons k r ih =>
    intro D h
    refine ih _ (fun j => ?_)
    rw [getD_set]
    split
    · exact ⟨h0, hv⟩
    · exact h j
theorem own_b (k : Int) : 0 ≤ ownD k ∧ ownD k ≤ 1 := by unfold ownD; split <;> omega
theorem ex_b (k : Int) : 0 ≤ exD k ∧ exD k ≤ 1 := by unfold exD; split <;> omega
theorem depTo_b (kd : List Int) (ks : List (List Int)) : ∀ (k : Nat), (∀ j, 0 ≤ (depTo kd ks k).1.getD j 0 ∧ (depTo kd ks k).1.getD j 0 ≤ 2 * (k : Int)) ∧ (0 ≤ (depTo kd ks k).2 ∧ (depTo kd ks k).2 ≤ 2 * (k : Int)) := by
  intro k
  induction k with
  | zero =>
    refine ⟨fun j => ?_, ?_⟩
    · show 0 ≤ (List.replicate ks.length (0 : Int)).getD j 0 ∧ (List.replicate ks.length (0 : Int)).getD j 0 ≤ _
      simp [List.getD_eq_getElem?_getD, List.getElem?_replicate]
      split <;> simp
    · exact ⟨Int.le_refl _, Int.le_refl _⟩
  | succ k ih =>
    rw [depTo_succ]
    obtain ⟨h1, h2⟩ := ih
    have ho := own_b (kd.getD k 0)
    have he := ex_b (kd.getD k 0)
    have hk := h1 k
    unfold depVisit
    refine ⟨setAll_b _ (by omega) (by omega) _ _ (fun j => ?_), by simp only; omega⟩
    rw [getD_set]
    split
    · omega
    · have := h1 j; omega
theorem depTo_len (kd : List Int) (ks : List (List Int)) (k : Nat) : (depTo kd ks k).1.length = ks.length := by
  unfold depTo
  rw [runs_len]
  simp
theorem set_self (D : List Int) (i : Nat) : D.set i (D.getD i 0 + 0) = D := by
  rw [Int.add_zero]
  apply List.ext_getElem?
  intro j
  rw [List.getElem?_set]
  split
  · rename_i h
    subst h
    split
    · rename_i h; rw [List.getElem?_eq_getElem h]; simp [List.getD_eq_getElem?_getD, h]
    · rename_i h; rw [List.getElem?_eq_none (by omega)]
  · rfl
theorem texpr_v (k : Int) (b : Bool) (h : Hid (exprB k = b)) (w : World) : Calls Try.prog 72 #[.int .u8 k] w fun e w' => e = .returned (.bool b) ∧ w = w' := by
  rw [← h.out]; exact expr_any k w
set_option maxRecDepth 100000 in
set_option maxHeartbeats 16000000 in
theorem tdeep_any (l : List NodeM) (A : Option Addr) (n c : Nat) (w : World) (hn : n = l.length) (ht : TreeM w A l) (hlen : l.length ≤ 1000) (hsm : ∀ x ∈ l, NodeSm x) (r : Int) (hr : Hid (deepM l = r)) :
    Calls Try.prog 34 #[.agg #[.slice A n c]] w fun e w' => e = .returned (.int .i64 r) ∧ Ext w w' := by
  subst hn
  have HT := Lib.hid ht
  have HSM := Lib.hid hsm
  clear ht hsm
  obtain ⟨d, HD⟩ : ∃ d, Hid (rightN l = d) := ⟨_, Lib.hid rfl⟩
  have HB0 : Hid (Blk (w.alloc (.cells #[.slice A l.length c] 62)) w.heap.size 62 #[.slice A l.length c]) := Lib.hid (Blk.new _ _ _)
  have HX0 : Hid (Ext w (w.alloc (.cells #[.slice A l.length c] 62))) := Lib.hid (Ext.alloc _ _)
  go_enter Try.func34, Try.ntmps34
  have y0 := HB0.out.cell 0
  go_wp2_with fail
  refine (right_any l A l.length c _ rfl (HT.out.ext HX0.out) hlen HSM.out d HD).mono ?_
  rintro e w1 ⟨rfl, hx1⟩
  have HB1 := Lib.hid (HB0.out.ext hx1)
  have HX1 : Hid (Ext w w1) := Lib.hid (HX0.out.trans hx1)
  clear hx1 y0 HB0 HX0
  obtain ⟨gt, hgt⟩ : ∃ gt, gt = w.heap.size := ⟨_, rfl⟩
  rw [← hgt] at HB1 ⊢
  clear hgt
  have y0 := HB1.out.cell 0
  cases d with
  | false =>
    have HZ : Hid (r = 0) := Lib.hid (by rw [← hr.out]; unfold deepM; rw [HD.out]; rfl)
    go_wp2_with fail
    go_ret
    exact ⟨by rw [HZ.out]; rfl, HX1.out⟩
  | true =>
    have HRN : Hid (r = deepN (kdOf l) (ksOf l)) := Lib.hid (by rw [← hr.out]; unfold deepM; rw [HD.out]; rfl)
    have HIN : Hid (∀ x ∈ l, InRange l x.kids) := Lib.hid (by obtain ⟨Z, hZ⟩ := right_some HD.out; exact right_inRange hZ)
    have HRB : Hid (∀ i, i < l.length → ∀ k ∈ (ksOf l).getD i [], (i : Int) < k ∧ k < (l.length : Int)) := Lib.hid (by obtain ⟨Z, hZ⟩ := right_some HD.out; exact (rangeB_iff l).1 (ends_range hZ))
    have hmk := run_make_row' (P := Try.prog) 29 3 (.int .i64 0) 8 Try.underlying29 infoInt rfl .i64 .i64 l.length (by omega) (by omega)
    go_upto_region 5 with fail
    have HB2 : Hid (Blk (w1.alloc (.cells (madeCells #[.int .i64 0] l.length) 3)) w1.heap.size 3 (kcells (List.replicate l.length 0)).toArray) := Lib.hid (by
      rw [kzero]
      exact Blk.new _ _ _)
    have HXM : Hid (Ext w1 (w1.alloc (.cells (madeCells #[.int .i64 0] l.length) 3))) := Lib.hid (Ext.alloc _ _)
    have HG2 := Lib.hid (HB1.out.ext HXM.out)
    have HX2 := Lib.hid (HX1.out.trans HXM.out)
    have HGT : Hid (gt ≠ w1.heap.size) := Lib.hid (by have := HB1.out.lt; omega)
    have HGE : Hid (w.heap.size ≤ w1.heap.size) := Lib.hid HX1.out.size
    clear y0 HXM
    generalize w1.alloc (.cells (madeCells #[.int .i64 0] l.length) 3) = w2 at *
    generalize w1.heap.size = g at *
    have y0 := HG2.out.cell 0
    clear hmk
    go_wp2_with fail
    clear y0
    go_loopw [3, 19] (fun mo i wr => ∃ (k : Nat) (D : List Int) (m : Int), k ≤ l.length ∧ i = .int .i64 k ∧ mo = .int .i64 m ∧ Hid (depTo (kdOf l) (ksOf l) k = (D, m)) ∧ Hid (Blk wr g 3 (kcells D).toArray) ∧ Hid (Ext w wr)) (fun _ i _ => l.length - (intOf i).toNat)
    case atStart => exact ⟨0, List.replicate l.length 0, 0, Nat.zero_le _, rfl, rfl, Lib.hid (by unfold depTo; rw [ksOf_len]; rfl), HB2, HX2⟩
    case round =>
      clear HB2 HG2 HX2
      obtain ⟨k, D, m, hk, rfl, rfl, HDT, HB, HX⟩ := hrel
      obtain ⟨wa, rfl⟩ : ∃ wa : World, wa = wr := ⟨_, rfl⟩
      have hb2 := depTo_b (kdOf l) (ksOf l) k
      have hDl := depTo_len (kdOf l) (ksOf l) k
      rw [HDT.out] at hb2 hDl
      rw [ksOf_len] at hDl
      simp only at hb2 hDl
      by_cases hlt : k < l.length
      · have d0 : decide ((k : Int) < (l.length : Int)) = true := decide_eq_true (by omega)
        have q1 : (k : Int) < (l.length : Int) := by omega
        have hDk := hb2.1 k
        have hm0 := hb2.2
        have HDL := Lib.hid hDl
        clear hb2
        have HT1 := Lib.hid (HT.out.ext HX.out)
        have HK0' : Hid (Cells w l[k].kA (kcells l[k].kids)) := Lib.hid (HT.out.ok _ (List.getElem_mem hlt)).kids
        obtain ⟨b1, off1, rfl, hb1, hc1⟩ := HT1.out.at_ k hlt
        have HNO : Hid (NodeOk wa l[k]) := Lib.hid (HT1.out.ok _ (List.getElem_mem hlt))
        have hkl : l[k].kids.length ≤ 1000 := (HSM.out _ (List.getElem_mem hlt)).kids
        have HRG : Hid (∀ y ∈ l[k].kids, (k : Int) < y ∧ y < (l.length : Int)) := Lib.hid (by have := HRB.out k hlt; rw [ksOf_getD l k hlt] at this; exact this)
        have HST : Hid (depTo (kdOf l) (ksOf l) (k + 1) = (setAll (D.getD k 0 + ownD l[k].kind + exD l[k].kind) l[k].kids (D.set k (D.getD k 0 + ownD l[k].kind)), max m (D.getD k 0 + ownD l[k].kind))) := Lib.hid (by
          rw [depTo_succ, HDT.out]
          unfold depVisit
          rw [kdOf_getD l k hlt, ksOf_getD l k hlt])
        generalize l[k] = x at *
        obtain ⟨kind, pos, text, num, kA, kc, kids⟩ := x
        have HK0 : Hid (Cells w kA (kcells kids)) := HK0'
        clear HK0'
        simp only at hkl HRG HST
        have x0 : wa.cell? ⟨b1, off1 + k * 5, none⟩ = some (.int .u8 kind) := hc1 0 (by omega)
        have x1 : wa.cell? ⟨b1, off1 + k * 5 + 1, none⟩ = some (.int .i64 pos) := hc1 1 (by omega)
        have x2 : wa.cell? ⟨b1, off1 + k * 5 + 2, none⟩ = some (.string text) := hc1 2 (by omega)
        have x3 : wa.cell? ⟨b1, off1 + k * 5 + 3, none⟩ = some (.int .i64 num) := hc1 3 (by omega)
        have x4 : wa.cell? ⟨b1, off1 + k * 5 + 4, none⟩ = some (.slice kA kids.length kc) := hc1 4 (by omega)
        clear hc1
        go_upto_region 8 with fail
        have HXA : Hid (Ext wa (wa.alloc (.cells #[.int .u8 kind, .int .i64 pos, .string text, .int .i64 num, .slice kA kids.length kc] 73))) := Lib.hid (Ext.alloc _ _)
        have HBX : Hid (Blk (wa.alloc (.cells #[.int .u8 kind, .int .i64 pos, .string text, .int .i64 num, .slice kA kids.length kc] 73)) wa.heap.size 73 #[.int .u8 kind, .int .i64 pos, .string text, .int .i64 num, .slice kA kids.length kc]) := Lib.hid (Blk.new _ _ _)
        have HBG := Lib.hid (HB.out.ext HXA.out)
        have HXW := Lib.hid (HX.out.trans HXA.out)
        have HNK : Hid (Cells (wa.alloc (.cells #[.int .u8 kind, .int .i64 pos, .string text, .int .i64 num, .slice kA kids.length kc] 73)) kA (kcells kids)) := Lib.hid (HNO.out.kids.ext HXA.out)
        have HXG : Hid (wa.heap.size ≠ g) := Lib.hid (by have := HB.out.lt; omega)
        clear x0 x1 x2 x3 x4 HB HX HT1 HNO HXA
        generalize wa.alloc (.cells #[.int .u8 kind, .int .i64 pos, .string text, .int .i64 num, .slice kA kids.length kc] 73) = wb at *
        obtain ⟨gx, hgx⟩ : ∃ gx, gx = wa.heap.size := ⟨_, rfl⟩
        rw [← hgx] at HBX HXG ⊢
        clear hgx
        have z0 : wb.cell? ⟨g, k, none⟩ = some (.int .i64 (D.getD k 0)) := (HBG.out.cell k).trans (kget D k (by have := HDL.out; omega))
        have zf : wb.frozen? ⟨g, k, none⟩ = false := HBG.out.frozen k
        obtain ⟨a, ha⟩ : ∃ a, D.getD k 0 = a := ⟨_, rfl⟩
        rw [ha] at z0 hDk HST
        have HA := Lib.hid ha
        clear ha
        have x0 : wb.cell? ⟨gx, 0, none⟩ = some (.int .u8 kind) := HBX.out.cell 0
        have x4 : wb.cell? ⟨gx, 4, none⟩ = some (.slice kA kids.length kc) := HBX.out.cell 4
        have HKB : Hid (∀ w', Ext w w' → Cells w' kA (kcells kids)) := Lib.hid (fun w' h => HK0.out.ext h)
        by_cases h6 : kind = 6
        · have HEX : Hid (exprB kind = false) := Lib.hid (by rw [h6]; rfl)
          have HOW : Hid (ownD kind = 1) := Lib.hid (by rw [h6]; rfl)
          have HEXD : Hid (exD kind = 0) := Lib.hid (by rw [h6]; rfl)
          have e6 : (kind == 6) = true := by rw [h6]; rfl
          clear h6
          have HBE : Hid (Blk (wb.setCell ⟨g, k, none⟩ (.int .i64 (a + 1))) g 3 (kcells (setAll (a + 1) (kids.take 0) (D.set k (a + 1)))).toArray) := Lib.hid (by rw [List.take_zero]; show Blk _ g 3 (kcells (D.set k (a + 1))).toArray; rw [← kset]; exact HBG.out.put k _)
          have HBX2 := Lib.hid (HBX.out.far HXG.out (p := ⟨g, k, none⟩) (.int .i64 (a + 1)))
          have HXE : Hid (Ext w (wb.setCell ⟨g, k, none⟩ (.int .i64 (a + 1)))) := Lib.hid (HXW.out.setCell (p := ⟨g, k, none⟩) HGE.out _)
          have HNK2 : Hid (Cells (wb.setCell ⟨g, k, none⟩ (.int .i64 (a + 1))) kA (kcells kids)) := Lib.hid (HKB.out _ HXE.out)
          have HEA : Hid ((D.set k (a + 1)).getD k 0 = a + 1) := Lib.hid (by rw [getD_set, if_pos ⟨rfl, by have := HDL.out; omega⟩])
          have HEL : Hid ((D.set k (a + 1)).length = l.length) := Lib.hid (by rw [List.length_set]; exact HDL.out)
          have HEQ : Hid ((setAll (a + ownD kind + exD kind) kids (D.set k (a + ownD kind)), max m (a + ownD kind)) = (setAll (a + 1) kids (D.set k (a + 1)), max m (a + 1))) := Lib.hid (by rw [HOW.out, HEXD.out]; simp)
          have xz : (wb.setCell ⟨g, k, none⟩ (.int .i64 (a + 1))).cell? ⟨g, k, none⟩ = some (.int .i64 (a + 1)) := by have h := (HBG.out.put k (.int .i64 (a + 1))).cell k; rw [kset] at h; rw [h, kget _ k (by rw [List.length_set]; have := HDL.out; omega), HEA.out]
          have xy : (wb.setCell ⟨g, k, none⟩ (.int .i64 (a + 1))).cell? ⟨gx, 4, none⟩ = some (.slice kA kids.length kc) := HBX2.out.cell 4
          generalize hE : D.set k (a + 1) = E at HBE HEA HEL HEQ
          go_wp2_with fail
          all_goals
            clear xz xy
            clear x0 x4 z0 zf
            go_loopw [47] (fun i w4 => ∃ j : Nat, j ≤ kids.length ∧ i = .int .i64 j ∧ Hid (Blk w4 g 3 (kcells (setAll (a + 1) (kids.take j) E)).toArray) ∧ Hid (Blk w4 gx 73 #[.int .u8 kind, .int .i64 pos, .string text, .int .i64 num, .slice kA kids.length kc]) ∧ Hid (Cells w4 kA (kcells kids)) ∧ Hid (Ext w w4)) (fun i _ => kids.length - (intOf i).toNat)
            case atStart => exact ⟨0, Nat.zero_le _, rfl, HBE, HBX2, HNK2, HXE⟩
            case round =>
              clear HBE HBX2 HNK2 HXE
              obtain ⟨j, hj, rfl, HBJ, HXJ, HKJ, HWJ⟩ := hrel
              obtain ⟨wd, rfl⟩ : ∃ wd : World, wd = wr := ⟨_, rfl⟩
              have x0 : wd.cell? ⟨gx, 0, none⟩ = some (.int .u8 kind) := HXJ.out.cell 0
              have x4 : wd.cell? ⟨gx, 4, none⟩ = some (.slice kA kids.length kc) := HXJ.out.cell 4
              by_cases hjl : j < kids.length
              · have d1 : decide ((j : Int) < (kids.length : Int)) = true := decide_eq_true (by omega)
                obtain ⟨b3, off3, rfl, hb3, hk3⟩ := kids_at HKJ.out j hjl
                have hy := HRG.out kids[j] (List.getElem_mem hjl)
                have HTK : Hid (setAll (a + 1) (kids.take (j + 1)) E = (setAll (a + 1) (kids.take j) E).set (kids[j]).toNat (a + 1)) := Lib.hid (by rw [List.take_succ_eq_append_getElem hjl, setAll_snoc])
                have HEK : Hid ((setAll (a + 1) (kids.take j) E).getD k 0 = (a + 1)) := Lib.hid (by rw [setAll_out _ _ _ _ (fun y hy => by have := HRG.out y (List.mem_of_mem_take hy); omega)]; exact HEA.out)
                have HSL : Hid ((setAll (a + 1) (kids.take j) E).length = l.length) := Lib.hid (by rw [setAll_len]; exact HEL.out)
                generalize setAll (a + 1) (kids.take j) E = F at *
                generalize kids[j] = y at *
                obtain ⟨q, rfl⟩ : ∃ q : Nat, y = (q : Int) := ⟨y.toNat, by omega⟩
                rw [Int.toNat_natCast] at HTK
                have hsl := HSL.out
                have z1 : wd.cell? ⟨g, k, none⟩ = some (.int .i64 (a + 1)) := (HBJ.out.cell k).trans (by rw [kget F k (by omega), HEK.out])
                have z2 : wd.cell? ⟨g, q, none⟩ = some (.int .i64 (F.getD q 0)) := (HBJ.out.cell q).trans (kget F q (by omega))
                have zf : wd.frozen? ⟨g, q, none⟩ = false := HBJ.out.frozen q
                have q3 : (q : Int) < (l.length : Int) := by omega
                have HBN : Hid (Blk (wd.setCell ⟨g, q, none⟩ (.int .i64 (a + 1))) g 3 (kcells (F.set q (a + 1))).toArray) := Lib.hid (by rw [← kset]; exact HBJ.out.put q _)
                have HXN : Hid (Blk (wd.setCell ⟨g, q, none⟩ (.int .i64 (a + 1))) gx 73 #[.int .u8 kind, .int .i64 pos, .string text, .int .i64 num, .slice (some ⟨b3, off3, none⟩) kids.length kc]) := Lib.hid (HXJ.out.far HXG.out _)
                have HKN : Hid (Cells (wd.setCell ⟨g, q, none⟩ (.int .i64 (a + 1))) (some ⟨b3, off3, none⟩) (kcells kids)) := Lib.hid (HKB.out _ (HWJ.out.setCell (p := ⟨g, q, none⟩) HGE.out _))
                have HWN : Hid (Ext w (wd.setCell ⟨g, q, none⟩ (.int .i64 (a + 1)))) := Lib.hid (HWJ.out.setCell (p := ⟨g, q, none⟩) HGE.out _)
                have xn : (wd.setCell ⟨g, q, none⟩ (.int .i64 (a + 1))).cell? ⟨gx, 0, none⟩ = some (.int .u8 kind) := HXN.out.cell 0
                go_wp2_with (go_at_call 72; refine (texpr_v kind _ HEX _).mono ?_; rintro e w3 ⟨rfl, rfl⟩)
                go_roundw
                case rel => exact ⟨j + 1, by omega, by go_num, Lib.hid (by rw [HTK.out]; exact HBN.out), HXN, HKN, HWN⟩
                case measure => simp [intOf]; omega
              · obtain rfl : j = kids.length := by omega
                have d1 : decide ((kids.length : Int) < (kids.length : Int)) = false := by simp
                have HBF := HBJ.out
                rw [List.take_length] at HBF
                have HBR := Lib.hid HBF
                clear HBF
                go_wp2_with fail
                go_roundw
                case rel => exact ⟨k + 1, setAll (a + 1) kids E, max m (a + 1), by omega, by go_num, by first | rfl | (congr 1; omega) | (split <;> (congr 1; omega)), Lib.hid (by rw [HST.out, HEQ.out]), HBR, HWJ⟩
                case measure => simp [intOf]; omega
        · have e6 : (kind == 6) = false := beq_eq_false_iff_ne.2 h6
          by_cases h20 : kind = 20
          · have HEX : Hid (exprB kind = false) := Lib.hid (by rw [h20]; rfl)
            have HOW : Hid (ownD kind = 1) := Lib.hid (by rw [h20]; rfl)
            have HEXD : Hid (exD kind = 0) := Lib.hid (by rw [h20]; rfl)
            have e20 : (kind == 20) = true := by rw [h20]; rfl
            clear h20 h6
            have HBE : Hid (Blk (wb.setCell ⟨g, k, none⟩ (.int .i64 (a + 1))) g 3 (kcells (setAll (a + 1) (kids.take 0) (D.set k (a + 1)))).toArray) := Lib.hid (by rw [List.take_zero]; show Blk _ g 3 (kcells (D.set k (a + 1))).toArray; rw [← kset]; exact HBG.out.put k _)
            have HBX2 := Lib.hid (HBX.out.far HXG.out (p := ⟨g, k, none⟩) (.int .i64 (a + 1)))
            have HXE : Hid (Ext w (wb.setCell ⟨g, k, none⟩ (.int .i64 (a + 1)))) := Lib.hid (HXW.out.setCell (p := ⟨g, k, none⟩) HGE.out _)
            have HNK2 : Hid (Cells (wb.setCell ⟨g, k, none⟩ (.int .i64 (a + 1))) kA (kcells kids)) := Lib.hid (HKB.out _ HXE.out)
            have HEA : Hid ((D.set k (a + 1)).getD k 0 = a + 1) := Lib.hid (by rw [getD_set, if_pos ⟨rfl, by have := HDL.out; omega⟩])
            have HEL : Hid ((D.set k (a + 1)).length = l.length) := Lib.hid (by rw [List.length_set]; exact HDL.out)
            have HEQ : Hid ((setAll (a + ownD kind + exD kind) kids (D.set k (a + ownD kind)), max m (a + ownD kind)) = (setAll (a + 1) kids (D.set k (a + 1)), max m (a + 1))) := Lib.hid (by rw [HOW.out, HEXD.out]; simp)
            have xz : (wb.setCell ⟨g, k, none⟩ (.int .i64 (a + 1))).cell? ⟨g, k, none⟩ = some (.int .i64 (a + 1)) := by have h := (HBG.out.put k (.int .i64 (a + 1))).cell k; rw [kset] at h; rw [h, kget _ k (by rw [List.length_set]; have := HDL.out; omega), HEA.out]
            have xy : (wb.setCell ⟨g, k, none⟩ (.int .i64 (a + 1))).cell? ⟨gx, 4, none⟩ = some (.slice kA kids.length kc) := HBX2.out.cell 4
            generalize hE : D.set k (a + 1) = E at HBE HEA HEL HEQ
            go_wp2_with fail
            all_goals
              clear xz xy
              clear x0 x4 z0 zf
              go_loopw [47] (fun i w4 => ∃ j : Nat, j ≤ kids.length ∧ i = .int .i64 j ∧ Hid (Blk w4 g 3 (kcells (setAll (a + 1) (kids.take j) E)).toArray) ∧ Hid (Blk w4 gx 73 #[.int .u8 kind, .int .i64 pos, .string text, .int .i64 num, .slice kA kids.length kc]) ∧ Hid (Cells w4 kA (kcells kids)) ∧ Hid (Ext w w4)) (fun i _ => kids.length - (intOf i).toNat)
              case atStart => exact ⟨0, Nat.zero_le _, rfl, HBE, HBX2, HNK2, HXE⟩
              case round =>
                clear HBE HBX2 HNK2 HXE
                obtain ⟨j, hj, rfl, HBJ, HXJ, HKJ, HWJ⟩ := hrel
                obtain ⟨wd, rfl⟩ : ∃ wd : World, wd = wr := ⟨_, rfl⟩
                have x0 : wd.cell? ⟨gx, 0, none⟩ = some (.int .u8 kind) := HXJ.out.cell 0
                have x4 : wd.cell? ⟨gx, 4, none⟩ = some (.slice kA kids.length kc) := HXJ.out.cell 4
                by_cases hjl : j < kids.length
                · have d1 : decide ((j : Int) < (kids.length : Int)) = true := decide_eq_true (by omega)
                  obtain ⟨b3, off3, rfl, hb3, hk3⟩ := kids_at HKJ.out j hjl
                  have hy := HRG.out kids[j] (List.getElem_mem hjl)
                  have HTK : Hid (setAll (a + 1) (kids.take (j + 1)) E = (setAll (a + 1) (kids.take j) E).set (kids[j]).toNat (a + 1)) := Lib.hid (by rw [List.take_succ_eq_append_getElem hjl, setAll_snoc])
                  have HEK : Hid ((setAll (a + 1) (kids.take j) E).getD k 0 = (a + 1)) := Lib.hid (by rw [setAll_out _ _ _ _ (fun y hy => by have := HRG.out y (List.mem_of_mem_take hy); omega)]; exact HEA.out)
                  have HSL : Hid ((setAll (a + 1) (kids.take j) E).length = l.length) := Lib.hid (by rw [setAll_len]; exact HEL.out)
                  generalize setAll (a + 1) (kids.take j) E = F at *
                  generalize kids[j] = y at *
                  obtain ⟨q, rfl⟩ : ∃ q : Nat, y = (q : Int) := ⟨y.toNat, by omega⟩
                  rw [Int.toNat_natCast] at HTK
                  have hsl := HSL.out
                  have z1 : wd.cell? ⟨g, k, none⟩ = some (.int .i64 (a + 1)) := (HBJ.out.cell k).trans (by rw [kget F k (by omega), HEK.out])
                  have z2 : wd.cell? ⟨g, q, none⟩ = some (.int .i64 (F.getD q 0)) := (HBJ.out.cell q).trans (kget F q (by omega))
                  have zf : wd.frozen? ⟨g, q, none⟩ = false := HBJ.out.frozen q
                  have q3 : (q : Int) < (l.length : Int) := by omega
                  have HBN : Hid (Blk (wd.setCell ⟨g, q, none⟩ (.int .i64 (a + 1))) g 3 (kcells (F.set q (a + 1))).toArray) := Lib.hid (by rw [← kset]; exact HBJ.out.put q _)
                  have HXN : Hid (Blk (wd.setCell ⟨g, q, none⟩ (.int .i64 (a + 1))) gx 73 #[.int .u8 kind, .int .i64 pos, .string text, .int .i64 num, .slice (some ⟨b3, off3, none⟩) kids.length kc]) := Lib.hid (HXJ.out.far HXG.out _)
                  have HKN : Hid (Cells (wd.setCell ⟨g, q, none⟩ (.int .i64 (a + 1))) (some ⟨b3, off3, none⟩) (kcells kids)) := Lib.hid (HKB.out _ (HWJ.out.setCell (p := ⟨g, q, none⟩) HGE.out _))
                  have HWN : Hid (Ext w (wd.setCell ⟨g, q, none⟩ (.int .i64 (a + 1)))) := Lib.hid (HWJ.out.setCell (p := ⟨g, q, none⟩) HGE.out _)
                  have xn : (wd.setCell ⟨g, q, none⟩ (.int .i64 (a + 1))).cell? ⟨gx, 0, none⟩ = some (.int .u8 kind) := HXN.out.cell 0
                  go_wp2_with (go_at_call 72; refine (texpr_v kind _ HEX _).mono ?_; rintro e w3 ⟨rfl, rfl⟩)
                  go_roundw
                  case rel => exact ⟨j + 1, by omega, by go_num, Lib.hid (by rw [HTK.out]; exact HBN.out), HXN, HKN, HWN⟩
                  case measure => simp [intOf]; omega
                · obtain rfl : j = kids.length := by omega
                  have d1 : decide ((kids.length : Int) < (kids.length : Int)) = false := by simp
                  have HBF := HBJ.out
                  rw [List.take_length] at HBF
                  have HBR := Lib.hid HBF
                  clear HBF
                  go_wp2_with fail
                  go_roundw
                  case rel => exact ⟨k + 1, setAll (a + 1) kids E, max m (a + 1), by omega, by go_num, by first | rfl | (congr 1; omega) | (split <;> (congr 1; omega)), Lib.hid (by rw [HST.out, HEQ.out]), HBR, HWJ⟩
                  case measure => simp [intOf]; omega
          · have e20 : (kind == 20) = false := beq_eq_false_iff_ne.2 h20
            have HOW : Hid (ownD kind = 0) := Lib.hid (by unfold ownD; rw [if_neg (fun h => h.elim h6 h20)])
            clear h20 h6
            obtain ⟨t, HEX⟩ : ∃ t, Hid (exprB kind = t) := ⟨_, Lib.hid rfl⟩
            cases t with
            | false =>
              have HEXD : Hid (exD kind = 0) := Lib.hid (by unfold exD; rw [HEX.out]; rfl)
              obtain ⟨E, hE⟩ : ∃ E, E = D := ⟨_, rfl⟩
              have HBE : Hid (Blk wb g 3 (kcells (setAll a (kids.take 0) E)).toArray) := Lib.hid (by rw [List.take_zero, hE]; exact HBG.out)
              have HBX2 := HBX
              have HXE := HXW
              have HNK2 := HNK
              have HEA : Hid (E.getD k 0 = a) := Lib.hid (by rw [hE]; exact HA.out)
              have HEL : Hid (E.length = l.length) := Lib.hid (by rw [hE]; exact HDL.out)
              have HEQ : Hid ((setAll (a + ownD kind + exD kind) kids (D.set k (a + ownD kind)), max m (a + ownD kind)) = (setAll a kids E, max m a)) := Lib.hid (by rw [HOW.out, HEXD.out]; rw [show D.set k (a + 0) = D from by rw [← HA.out]; exact set_self D k, hE]; simp)
              clear hE
              go_wp2_with fail
              all_goals
                clear x0 x4 z0 zf
                go_loopw [47] (fun i w4 => ∃ j : Nat, j ≤ kids.length ∧ i = .int .i64 j ∧ Hid (Blk w4 g 3 (kcells (setAll a (kids.take j) E)).toArray) ∧ Hid (Blk w4 gx 73 #[.int .u8 kind, .int .i64 pos, .string text, .int .i64 num, .slice kA kids.length kc]) ∧ Hid (Cells w4 kA (kcells kids)) ∧ Hid (Ext w w4)) (fun i _ => kids.length - (intOf i).toNat)
                case atStart => exact ⟨0, Nat.zero_le _, rfl, HBE, HBX2, HNK2, HXE⟩
                case round =>
                  clear HBE HBX2 HNK2 HXE
                  obtain ⟨j, hj, rfl, HBJ, HXJ, HKJ, HWJ⟩ := hrel
                  obtain ⟨wd, rfl⟩ : ∃ wd : World, wd = wr := ⟨_, rfl⟩
                  have x0 : wd.cell? ⟨gx, 0, none⟩ = some (.int .u8 kind) := HXJ.out.cell 0
                  have x4 : wd.cell? ⟨gx, 4, none⟩ = some (.slice kA kids.length kc) := HXJ.out.cell 4
                  by_cases hjl : j < kids.length
                  · have d1 : decide ((j : Int) < (kids.length : Int)) = true := decide_eq_true (by omega)
                    obtain ⟨b3, off3, rfl, hb3, hk3⟩ := kids_at HKJ.out j hjl
                    have hy := HRG.out kids[j] (List.getElem_mem hjl)
                    have HTK : Hid (setAll a (kids.take (j + 1)) E = (setAll a (kids.take j) E).set (kids[j]).toNat a) := Lib.hid (by rw [List.take_succ_eq_append_getElem hjl, setAll_snoc])
                    have HEK : Hid ((setAll a (kids.take j) E).getD k 0 = a) := Lib.hid (by rw [setAll_out _ _ _ _ (fun y hy => by have := HRG.out y (List.mem_of_mem_take hy); omega)]; exact HEA.out)
                    have HSL : Hid ((setAll a (kids.take j) E).length = l.length) := Lib.hid (by rw [setAll_len]; exact HEL.out)
                    generalize setAll a (kids.take j) E = F at *
                    generalize kids[j] = y at *
                    obtain ⟨q, rfl⟩ : ∃ q : Nat, y = (q : Int) := ⟨y.toNat, by omega⟩
                    rw [Int.toNat_natCast] at HTK
                    have hsl := HSL.out
                    have z1 : wd.cell? ⟨g, k, none⟩ = some (.int .i64 a) := (HBJ.out.cell k).trans (by rw [kget F k (by omega), HEK.out])
                    have z2 : wd.cell? ⟨g, q, none⟩ = some (.int .i64 (F.getD q 0)) := (HBJ.out.cell q).trans (kget F q (by omega))
                    have zf : wd.frozen? ⟨g, q, none⟩ = false := HBJ.out.frozen q
                    have q3 : (q : Int) < (l.length : Int) := by omega
                    have HBN : Hid (Blk (wd.setCell ⟨g, q, none⟩ (.int .i64 a)) g 3 (kcells (F.set q a)).toArray) := Lib.hid (by rw [← kset]; exact HBJ.out.put q _)
                    have HXN : Hid (Blk (wd.setCell ⟨g, q, none⟩ (.int .i64 a)) gx 73 #[.int .u8 kind, .int .i64 pos, .string text, .int .i64 num, .slice (some ⟨b3, off3, none⟩) kids.length kc]) := Lib.hid (HXJ.out.far HXG.out _)
                    have HKN : Hid (Cells (wd.setCell ⟨g, q, none⟩ (.int .i64 a)) (some ⟨b3, off3, none⟩) (kcells kids)) := Lib.hid (HKB.out _ (HWJ.out.setCell (p := ⟨g, q, none⟩) HGE.out _))
                    have HWN : Hid (Ext w (wd.setCell ⟨g, q, none⟩ (.int .i64 a))) := Lib.hid (HWJ.out.setCell (p := ⟨g, q, none⟩) HGE.out _)
                    have xn : (wd.setCell ⟨g, q, none⟩ (.int .i64 a)).cell? ⟨gx, 0, none⟩ = some (.int .u8 kind) := HXN.out.cell 0
                    go_wp2_with (go_at_call 72; refine (texpr_v kind _ HEX _).mono ?_; rintro e w3 ⟨rfl, rfl⟩)
                    go_roundw
                    case rel => exact ⟨j + 1, by omega, by go_num, Lib.hid (by rw [HTK.out]; exact HBN.out), HXN, HKN, HWN⟩
                    case measure => simp [intOf]; omega
                  · obtain rfl : j = kids.length := by omega
                    have d1 : decide ((kids.length : Int) < (kids.length : Int)) = false := by simp
                    have HBF := HBJ.out
                    rw [List.take_length] at HBF
                    have HBR := Lib.hid HBF
                    clear HBF
                    go_wp2_with fail
                    go_roundw
                    case rel => exact ⟨k + 1, setAll a kids E, max m a, by omega, by go_num, by first | rfl | (congr 1; omega) | (split <;> (congr 1; omega)), Lib.hid (by rw [HST.out, HEQ.out]), HBR, HWJ⟩
                    case measure => simp [intOf]; omega
            | true =>
              have HEXD : Hid (exD kind = 1) := Lib.hid (by unfold exD; rw [HEX.out]; rfl)
              obtain ⟨E, hE⟩ : ∃ E, E = D := ⟨_, rfl⟩
              have HBE : Hid (Blk wb g 3 (kcells (setAll (a + 1) (kids.take 0) E)).toArray) := Lib.hid (by rw [List.take_zero, hE]; exact HBG.out)
              have HBX2 := HBX
              have HXE := HXW
              have HNK2 := HNK
              have HEA : Hid (E.getD k 0 = a) := Lib.hid (by rw [hE]; exact HA.out)
              have HEL : Hid (E.length = l.length) := Lib.hid (by rw [hE]; exact HDL.out)
              have HEQ : Hid ((setAll (a + ownD kind + exD kind) kids (D.set k (a + ownD kind)), max m (a + ownD kind)) = (setAll (a + 1) kids E, max m a)) := Lib.hid (by rw [HOW.out, HEXD.out]; rw [show D.set k (a + 0) = D from by rw [← HA.out]; exact set_self D k, hE]; simp)
              clear hE
              go_wp2_with fail
              all_goals
                clear x0 x4 z0 zf
                go_loopw [47] (fun i w4 => ∃ j : Nat, j ≤ kids.length ∧ i = .int .i64 j ∧ Hid (Blk w4 g 3 (kcells (setAll (a + 1) (kids.take j) E)).toArray) ∧ Hid (Blk w4 gx 73 #[.int .u8 kind, .int .i64 pos, .string text, .int .i64 num, .slice kA kids.length kc]) ∧ Hid (Cells w4 kA (kcells kids)) ∧ Hid (Ext w w4)) (fun i _ => kids.length - (intOf i).toNat)
                case atStart => exact ⟨0, Nat.zero_le _, rfl, HBE, HBX2, HNK2, HXE⟩
                case round =>
                  clear HBE HBX2 HNK2 HXE
                  obtain ⟨j, hj, rfl, HBJ, HXJ, HKJ, HWJ⟩ := hrel
                  obtain ⟨wd, rfl⟩ : ∃ wd : World, wd = wr := ⟨_, rfl⟩
                  have x0 : wd.cell? ⟨gx, 0, none⟩ = some (.int .u8 kind) := HXJ.out.cell 0
                  have x4 : wd.cell? ⟨gx, 4, none⟩ = some (.slice kA kids.length kc) := HXJ.out.cell 4
                  by_cases hjl : j < kids.length
                  · have d1 : decide ((j : Int) < (kids.length : Int)) = true := decide_eq_true (by omega)
                    obtain ⟨b3, off3, rfl, hb3, hk3⟩ := kids_at HKJ.out j hjl
                    have hy := HRG.out kids[j] (List.getElem_mem hjl)
                    have HTK : Hid (setAll (a + 1) (kids.take (j + 1)) E = (setAll (a + 1) (kids.take j) E).set (kids[j]).toNat (a + 1)) := Lib.hid (by rw [List.take_succ_eq_append_getElem hjl, setAll_snoc])
                    have HEK : Hid ((setAll (a + 1) (kids.take j) E).getD k 0 = a) := Lib.hid (by rw [setAll_out _ _ _ _ (fun y hy => by have := HRG.out y (List.mem_of_mem_take hy); omega)]; exact HEA.out)
                    have HSL : Hid ((setAll (a + 1) (kids.take j) E).length = l.length) := Lib.hid (by rw [setAll_len]; exact HEL.out)
                    generalize setAll (a + 1) (kids.take j) E = F at *
                    generalize kids[j] = y at *
                    obtain ⟨q, rfl⟩ : ∃ q : Nat, y = (q : Int) := ⟨y.toNat, by omega⟩
                    rw [Int.toNat_natCast] at HTK
                    have hsl := HSL.out
                    have z1 : wd.cell? ⟨g, k, none⟩ = some (.int .i64 a) := (HBJ.out.cell k).trans (by rw [kget F k (by omega), HEK.out])
                    have z2 : wd.cell? ⟨g, q, none⟩ = some (.int .i64 (F.getD q 0)) := (HBJ.out.cell q).trans (kget F q (by omega))
                    have zf : wd.frozen? ⟨g, q, none⟩ = false := HBJ.out.frozen q
                    have q3 : (q : Int) < (l.length : Int) := by omega
                    have HBM := Lib.hid (HBJ.out.put q (.int .i64 a))
                    have HXM := Lib.hid (HXJ.out.far HXG.out (p := ⟨g, q, none⟩) (.int .i64 a))
                    have HWM := Lib.hid (HWJ.out.setCell (p := ⟨g, q, none⟩) HGE.out (.int .i64 a))
                    have xn : (wd.setCell ⟨g, q, none⟩ (.int .i64 a)).cell? ⟨gx, 0, none⟩ = some (.int .u8 kind) := HXM.out.cell 0
                    go_upto_region 15 with fail
                    clear z1 z2 zf x0 x4
                    rw [kset] at HBM
                    generalize wd.setCell ⟨g, q, none⟩ (.int .i64 a) = we at *
                    have z2 : we.cell? ⟨g, q, none⟩ = some (.int .i64 a) := (HBM.out.cell q).trans (by rw [kget (F.set q a) q (by rw [List.length_set]; omega), getD_set, if_pos ⟨rfl, by omega⟩])
                    have zf : we.frozen? ⟨g, q, none⟩ = false := HBM.out.frozen q
                    have HBN : Hid (Blk (we.setCell ⟨g, q, none⟩ (.int .i64 (a + 1))) g 3 (kcells (F.set q (a + 1))).toArray) := Lib.hid (by have := HBM.out.put q (.int .i64 (a + 1)); rw [kset, List.set_set] at this; exact this)
                    have HXN := Lib.hid (HXM.out.far HXG.out (p := ⟨g, q, none⟩) (.int .i64 (a + 1)))
                    have HKN : Hid (Cells (we.setCell ⟨g, q, none⟩ (.int .i64 (a + 1))) (some ⟨b3, off3, none⟩) (kcells kids)) := Lib.hid (HKB.out _ (HWM.out.setCell (p := ⟨g, q, none⟩) HGE.out _))
                    have HWN : Hid (Ext w (we.setCell ⟨g, q, none⟩ (.int .i64 (a + 1)))) := Lib.hid (HWM.out.setCell (p := ⟨g, q, none⟩) HGE.out _)
                    go_wp2_with (go_at_call 72; refine (texpr_v kind _ HEX _).mono ?_; rintro e w3 ⟨rfl, rfl⟩)
                    go_roundw
                    case rel => exact ⟨j + 1, by omega, by go_num, Lib.hid (by rw [HTK.out]; exact HBN.out), HXN, HKN, HWN⟩
                    case measure => simp [intOf]; omega
                  · obtain rfl : j = kids.length := by omega
                    have d1 : decide ((kids.length : Int) < (kids.length : Int)) = false := by simp
                    have HBF := HBJ.out
                    rw [List.take_length] at HBF
                    have HBR := Lib.hid HBF
                    clear HBF
                    go_wp2_with fail
                    go_roundw
                    case rel => exact ⟨k + 1, setAll (a + 1) kids E, max m a, by omega, by go_num, by first | rfl | (congr 1; omega) | (split <;> (congr 1; omega)), Lib.hid (by rw [HST.out, HEQ.out]), HBR, HWJ⟩
                    case measure => simp [intOf]; omega
      · obtain rfl : k = l.length := by omega
        have d0 : decide ((l.length : Int) < (l.length : Int)) = false := by simp
        have HZ : Hid (r = m) := Lib.hid (by
          rw [HRN.out]
          unfold deepN
          rw [ksOf_len, HDT.out])
        go_wp2_with fail
        go_ret
        exact ⟨by rw [HZ.out]; rfl, HX.out⟩
end Go.Proofs.Ythofccoefiogiaa
