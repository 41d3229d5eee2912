/- interlockkit.PlainCode, walked. Condition: the rows fit into memory. -/
import Derived.Test.YtngbpaiohfokbaaFull
namespace Go.Proofs.Ytngbpaiohfokbaa
open Go Go.RowKit
set_option linter.unusedVariables false
set_option linter.unusedSimpArgs false
theorem infoTermsR : (Try.prog.info? 50).map (fun i => (i.zero, i.size, i.bytes)) = some (some (.slice none 0 0), 1, 24) := by kernel_rfl
set_option maxHeartbeats 16000000 in
set_option maxRecDepth 4000 in
theorem plainCode_any (A : Option Addr) (l : List FullI) (n c : Nat) (w : World) (hn : n = l.length) (hlen : l.length ≤ 1000) (hA : Row w A l) (hfit : ∀ f ∈ l, f.fits) :
    Calls Try.prog 7 #[.slice A n c] w fun e w' => ∃ A' c' lo, e = .returned (.slice A' l.length c') ∧ (A' = none → c' = 0) ∧ Row w' A' lo ∧ lo.map FullI.con = l.map FullI.con ∧ Ext w w' := by
  subst hn
  obtain ⟨i0, hi, hz0, hz1, hz2⟩ := info_parts infoInstrR
  obtain ⟨j0, hj, hy0, hy1, hy2⟩ := info_parts infoTermsR
  have HC := Lib.hid hA
  have HFT := Lib.hid hfit
  clear hA hfit
  go_enter Try.func7, Try.ntmps7
  go_wp2_with fail
  go_loopw [3, 4] (fun out i wr => ∃ (k : Nat) (A' : Option Addr) (c' : Nat) (lo : List FullI), k ≤ l.length ∧ i = .int .i64 k ∧ out = .slice A' k c' ∧ (A' = none → c' = 0) ∧ Hid (lo.map FullI.con = (l.take k).map FullI.con) ∧ Hid (wr.ownsRow w.heap.size 54 13 (.slice A' k c') k (fcells lo)) ∧ Hid (∀ f ∈ lo, f.Own 82 50 w.heap.size wr) ∧ Hid (Ext w wr)) (fun _ i _ => l.length - (intOf i).toNat)
  case atStart => exact ⟨0, none, 0, [], Nat.zero_le _, rfl, rfl, fun _ => rfl, Lib.hid rfl, Lib.hid (World.ownsRow_nil _ _ _ _), Lib.hid (fun f hf => by cases hf), Lib.hid (Ext.refl _)⟩
  case round =>
    obtain ⟨k, A', c', lo, hk, rfl, rfl, hz, HCO, HO, HE, HX⟩ := hrel
    obtain ⟨wa, rfl⟩ : ∃ wa : World, wa = wr := ⟨_, rfl⟩
    by_cases hlt : k < l.length
    · have d0 : decide ((k : Int) < (l.length : Int)) = true := decide_eq_true (by omega)
      obtain ⟨b, off, rfl, hb, hcc⟩ := (HC.out.1.ext HX.out).at_ (by rw [fcells_len]; omega)
      have hx : ∀ j, j < 13 → wa.cell? ⟨b, off + k * 13 + j, none⟩ = (l[k].x.cells)[j]? := fun j hj => by
        rw [Nat.add_assoc, hcc _ (by rw [fcells_len]; omega)]
        exact fcells_at l k j hlt hj
      have hat := (HC.out.2 _ (List.getElem_mem hlt)).ext HX.out
      have hft := HFT.out _ (List.getElem_mem hlt)
      have htk : (l.take (k + 1)).map FullI.con = (l.take k).map FullI.con ++ [l[k].con] := by rw [List.take_succ_eq_append_getElem hlt, List.map_append]; rfl
      generalize l[k] = f at *
      obtain ⟨⟨op, node, mode, table, row, col, var, goes, eq, frm, upto, ⟨ka, kl, kc⟩, ⟨va, vl, vc⟩⟩, kt, vp⟩ := f
      obtain ⟨⟨hk1, hk2, hk3⟩, hv1, hv2, hv3, hv4⟩ := hat
      simp only at hk1 hk2 hk3 hv1 hv2 hv3 hv4
      subst hk1 hv1
      obtain ⟨hf1, hf2, hf3⟩ := hft
      simp only at hf1 hf2 hf3
      have HT := Lib.hid htk
      have HF3 := Lib.hid hf3
      have x0 : wa.cell? ⟨b, off + k * 13, none⟩ = some (.int .u8 op) := hx 0 (by omega)
      have x1 : wa.cell? ⟨b, off + k * 13 + 1, none⟩ = some (.int .i64 node) := hx 1 (by omega)
      have x2 : wa.cell? ⟨b, off + k * 13 + 2, none⟩ = some (.int .u8 mode) := hx 2 (by omega)
      have x3 : wa.cell? ⟨b, off + k * 13 + 3, none⟩ = some (.int .i64 table) := hx 3 (by omega)
      have x4 : wa.cell? ⟨b, off + k * 13 + 4, none⟩ = some (.bool row) := hx 4 (by omega)
      have x5 : wa.cell? ⟨b, off + k * 13 + 5, none⟩ = some (.int .i64 col) := hx 5 (by omega)
      have x6 : wa.cell? ⟨b, off + k * 13 + 6, none⟩ = some (.int .i64 var) := hx 6 (by omega)
      have x7 : wa.cell? ⟨b, off + k * 13 + 7, none⟩ = some (.int .i64 goes) := hx 7 (by omega)
      have x8 : wa.cell? ⟨b, off + k * 13 + 8, none⟩ = some (.bool eq) := hx 8 (by omega)
      have x9 : wa.cell? ⟨b, off + k * 13 + 9, none⟩ = some (.int .i64 frm) := hx 9 (by omega)
      have x10 : wa.cell? ⟨b, off + k * 13 + 10, none⟩ = some (.int .i64 upto) := hx 10 (by omega)
      have x11 : wa.cell? ⟨b, off + k * 13 + 11, none⟩ = some (.slice ka kt.length kc) := hx 11 (by omega)
      have x12 : wa.cell? ⟨b, off + k * 13 + 12, none⟩ = some (.slice va vp.length vc) := hx 12 (by omega)
      clear hx hcc htk hf3
      go_upto_region 6 with fail
      have HOA := Lib.hid (HO.out.alloc (.cells #[.int .u8 op, .int .i64 node, .int .u8 mode, .int .i64 table, .bool row, .int .i64 col, .int .i64 var, .int .i64 goes, .bool eq, .int .i64 frm, .int .i64 upto, .slice ka kt.length kc, .slice va vp.length vc] 49))
      have HEA : Hid (∀ f ∈ lo, f.Own 82 50 w.heap.size (wa.alloc (.cells #[.int .u8 op, .int .i64 node, .int .u8 mode, .int .i64 table, .bool row, .int .i64 col, .int .i64 var, .int .i64 goes, .bool eq, .int .i64 frm, .int .i64 upto, .slice ka kt.length kc, .slice va vp.length vc] 49))) := Lib.hid (fun f hf => (HE.out f hf).ext (Ext.alloc _ _))
      have HXA : Hid (Ext w (wa.alloc (.cells #[.int .u8 op, .int .i64 node, .int .u8 mode, .int .i64 table, .bool row, .int .i64 col, .int .i64 var, .int .i64 goes, .bool eq, .int .i64 frm, .int .i64 upto, .slice ka kt.length kc, .slice va vp.length vc] 49))) := Ext.trans HX.out (Ext.alloc _ _)
      have HKC : Hid (Cells (wa.alloc (.cells #[.int .u8 op, .int .i64 node, .int .u8 mode, .int .i64 table, .bool row, .int .i64 col, .int .i64 var, .int .i64 goes, .bool eq, .int .i64 frm, .int .i64 upto, .slice ka kt.length kc, .slice va vp.length vc] 49)) ka (tcells kt)) := Lib.hid (hk3.ext (Ext.alloc _ _))
      have HVC : Hid (Cells (wa.alloc (.cells #[.int .u8 op, .int .i64 node, .int .u8 mode, .int .i64 table, .bool row, .int .i64 col, .int .i64 var, .int .i64 goes, .bool eq, .int .i64 frm, .int .i64 upto, .slice ka kt.length kc, .slice va vp.length vc] 49)) va (pcells vp)) := Lib.hid (hv3.ext (Ext.alloc _ _))
      have HVE : Hid (∀ p ∈ vp, Shows (wa.alloc (.cells #[.int .u8 op, .int .i64 node, .int .u8 mode, .int .i64 table, .bool row, .int .i64 col, .int .i64 var, .int .i64 goes, .bool eq, .int .i64 frm, .int .i64 upto, .slice ka kt.length kc, .slice va vp.length vc] 49)) p.1 p.2) := Lib.hid (fun p hp => (hv4 p hp).ext (Ext.alloc _ _))
      have HY : Hid (Blk (wa.alloc (.cells #[.int .u8 op, .int .i64 node, .int .u8 mode, .int .i64 table, .bool row, .int .i64 col, .int .i64 var, .int .i64 goes, .bool eq, .int .i64 frm, .int .i64 upto, .slice ka kt.length kc, .slice va vp.length vc] 49)) wa.heap.size 49 #[.int .u8 op, .int .i64 node, .int .u8 mode, .int .i64 table, .bool row, .int .i64 col, .int .i64 var, .int .i64 goes, .bool eq, .int .i64 frm, .int .i64 upto, .slice ka kt.length kc, .slice va vp.length vc]) := Blk.new _ _ _
      clear HO HE HX hk3 hv3 hv4 x0 x1 x2 x3 x4 x5 x6 x7 x8 x9 x10 x11 x12
      generalize wa.alloc (.cells #[.int .u8 op, .int .i64 node, .int .u8 mode, .int .i64 table, .bool row, .int .i64 col, .int .i64 var, .int .i64 goes, .bool eq, .int .i64 frm, .int .i64 upto, .slice ka kt.length kc, .slice va vp.length vc] 49) = wd at *
      generalize wa.heap.size = gt at *
      apply wp_region_ext_tail 27 (by kernel_rfl) (by kernel_rfl) (by kernel_rfl)
      dsimp only [List.take_succ_cons, List.take_zero, List.drop_succ_cons, List.drop_zero]
      apply step_det (.pointer (some ⟨gt, 0, none⟩)) rfl rfl rfl
      · intro w' hw' hH
        clear hH
        simp [YieldsF, go_sem]
        exact Ext.refl _
      apply step_det (.int .u8 op) rfl rfl rfl
      · intro w' hw' hH
        clear hH
        have cc := (HY.out.ext hw').cell 0
        simp [YieldsF, go_sem, cc]
        exact Ext.refl _
      apply step_det (.pointer (some ⟨gt, 1, none⟩)) rfl rfl rfl
      · intro w' hw' hH
        clear hH
        simp [YieldsF, go_sem]
        exact Ext.refl _
      apply step_det (.int .i64 node) rfl rfl rfl
      · intro w' hw' hH
        clear hH
        have cc := (HY.out.ext hw').cell 1
        simp [YieldsF, go_sem, cc]
        exact Ext.refl _
      apply step_det (.pointer (some ⟨gt, 2, none⟩)) rfl rfl rfl
      · intro w' hw' hH
        clear hH
        simp [YieldsF, go_sem]
        exact Ext.refl _
      simp only [Act.put, List.setIfInBounds_toArray, List.set_cons_succ, List.set_cons_zero]
      apply step_det (.int .u8 mode) rfl rfl rfl
      · intro w' hw' hH
        clear hH
        have cc := (HY.out.ext hw').cell 2
        simp [YieldsF, go_sem, cc]
        exact Ext.refl _
      apply step_det (.pointer (some ⟨gt, 3, none⟩)) rfl rfl rfl
      · intro w' hw' hH
        clear hH
        simp [YieldsF, go_sem]
        exact Ext.refl _
      apply step_det (.int .i64 table) rfl rfl rfl
      · intro w' hw' hH
        clear hH
        have cc := (HY.out.ext hw').cell 3
        simp [YieldsF, go_sem, cc]
        exact Ext.refl _
      apply step_det (.pointer (some ⟨gt, 4, none⟩)) rfl rfl rfl
      · intro w' hw' hH
        clear hH
        simp [YieldsF, go_sem]
        exact Ext.refl _
      apply step_det (.bool row) rfl rfl rfl
      · intro w' hw' hH
        clear hH
        have cc := (HY.out.ext hw').cell 4
        simp [YieldsF, go_sem, cc]
        exact Ext.refl _
      apply step_det (.pointer (some ⟨gt, 5, none⟩)) rfl rfl rfl
      · intro w' hw' hH
        clear hH
        simp [YieldsF, go_sem]
        exact Ext.refl _
      simp only [Act.put, List.setIfInBounds_toArray, List.set_cons_succ, List.set_cons_zero]
      apply step_det (.int .i64 col) rfl rfl rfl
      · intro w' hw' hH
        clear hH
        have cc := (HY.out.ext hw').cell 5
        simp [YieldsF, go_sem, cc]
        exact Ext.refl _
      apply step_det (.pointer (some ⟨gt, 6, none⟩)) rfl rfl rfl
      · intro w' hw' hH
        clear hH
        simp [YieldsF, go_sem]
        exact Ext.refl _
      apply step_det (.int .i64 var) rfl rfl rfl
      · intro w' hw' hH
        clear hH
        have cc := (HY.out.ext hw').cell 6
        simp [YieldsF, go_sem, cc]
        exact Ext.refl _
      apply step_det (.pointer (some ⟨gt, 7, none⟩)) rfl rfl rfl
      · intro w' hw' hH
        clear hH
        simp [YieldsF, go_sem]
        exact Ext.refl _
      apply step_det (.int .i64 goes) rfl rfl rfl
      · intro w' hw' hH
        clear hH
        have cc := (HY.out.ext hw').cell 7
        simp [YieldsF, go_sem, cc]
        exact Ext.refl _
      apply step_det (.pointer (some ⟨gt, 8, none⟩)) rfl rfl rfl
      · intro w' hw' hH
        clear hH
        simp [YieldsF, go_sem]
        exact Ext.refl _
      simp only [Act.put, List.setIfInBounds_toArray, List.set_cons_succ, List.set_cons_zero]
      apply step_det (.bool eq) rfl rfl rfl
      · intro w' hw' hH
        clear hH
        have cc := (HY.out.ext hw').cell 8
        simp [YieldsF, go_sem, cc]
        exact Ext.refl _
      apply step_det (.pointer (some ⟨gt, 9, none⟩)) rfl rfl rfl
      · intro w' hw' hH
        clear hH
        simp [YieldsF, go_sem]
        exact Ext.refl _
      apply step_det (.int .i64 frm) rfl rfl rfl
      · intro w' hw' hH
        clear hH
        have cc := (HY.out.ext hw').cell 9
        simp [YieldsF, go_sem, cc]
        exact Ext.refl _
      apply step_det (.pointer (some ⟨gt, 10, none⟩)) rfl rfl rfl
      · intro w' hw' hH
        clear hH
        simp [YieldsF, go_sem]
        exact Ext.refl _
      apply step_det (.int .i64 upto) rfl rfl rfl
      · intro w' hw' hH
        clear hH
        have cc := (HY.out.ext hw').cell 10
        simp [YieldsF, go_sem, cc]
        exact Ext.refl _
      apply step_det (.pointer (some ⟨gt, 11, none⟩)) rfl rfl rfl
      · intro w' hw' hH
        clear hH
        simp [YieldsF, go_sem]
        exact Ext.refl _
      simp only [Act.put, List.setIfInBounds_toArray, List.set_cons_succ, List.set_cons_zero]
      apply step_det (.slice ka kt.length kc) rfl rfl rfl
      · intro w' hw' hH
        clear hH
        have cc := (HY.out.ext hw').cell 11
        simp [YieldsF, go_sem, cc]
        exact Ext.refl _
      apply step_fact (OwnT wd.heap.size 82 kt) (fun v w w' h hx => h.ext hx) rfl rfl rfl
      · intro w' hw' hH
        clear hH
        simp [YieldsF, go_sem]
        refine (plainTerms_own ka kt _ kc w' rfl (by omega) (HKC.out.ext hw')).mono ?_
        rintro e w2 ⟨A2, c2, rfl, _, ho, hx⟩
        exact ⟨_, rfl, own_low ho hw'.size, hx⟩
      intro v42
      apply step_fact (fun v w' => ∃ y, v = .agg #[.int .u8 op, .int .i64 node, .int .u8 mode, .int .i64 table, .bool row, .int .i64 col, .int .i64 var, .int .i64 goes, .bool eq, .int .i64 frm, .int .i64 upto, y, .slice none 0 0] ∧ OwnT wd.heap.size 82 kt y w') (by rintro v w w' ⟨y, h1, h2⟩ hx; exact ⟨y, h1, h2.ext hx⟩) rfl rfl rfl
      · intro w' hw' hH
        have h42 := hH _ (List.mem_cons_self ..) ⟨_, rfl, by decide⟩
        clear hH
        obtain ⟨a, rfl, _⟩ := OwnT.shows h42
        unfold hd at h42 ⊢
        simp [YieldsF, go_sem]
        exact ⟨h42, Ext.refl _⟩
      intro v43
      apply step_fact (fun v w' => ∃ g', v = .pointer (some ⟨g', 0, none⟩) ∧ Blk w' g' 54 #[.int .u8 0, .int .i64 0, .int .u8 0, .int .i64 0, .bool false, .int .i64 0, .int .i64 0, .int .i64 0, .bool false, .int .i64 0, .int .i64 0, .slice none 0 0, .slice none 0 0] ∧ wd.heap.size ≤ g') (by rintro v w w' ⟨g, h1, h2, h3⟩ hx; exact ⟨g, h1, h2.ext hx, h3⟩) rfl rfl rfl
      · intro w' hw' hH
        clear hH
        simp [YieldsF, go_sem]
        exact ⟨⟨Blk.new w' _ _, hw'.size⟩, Ext.alloc _ _⟩
      intro v6
      apply WalkF_nil
      intro w2 hw2 hH
      obtain ⟨gp, rfl, hP, hgp⟩ := hH _ (List.mem_cons_self ..)
      obtain ⟨y, rfl, hyo⟩ := hH _ (List.mem_cons_of_mem _ (List.mem_cons_self ..))
      clear hH
      obtain ⟨A0, C0, hy0', hy1', hy2'⟩ := row_cells hyo
      obtain ⟨kA, hkA⟩ : ∃ kA, kA = A0 := ⟨_, rfl⟩
      obtain ⟨kC, hkC⟩ : ∃ kC, kC = C0 := ⟨_, rfl⟩
      subst hy0' hkA hkC
      clear hy1' hy2'
      have HXD : Hid (Ext wd w2) := Lib.hid hw2
      have hdf : wd.heap.size ≤ gp := hgp
      clear hw2
      simp only [Act.put, List.setIfInBounds_toArray, List.set_cons_zero, List.set_cons_succ]
      refine wpList_put rfl 54 (.tmp 6) (.tmp 43) rfl gp #[.int .u8 op, .int .i64 node, .int .u8 mode, .int .i64 table, .bool row, .int .i64 col, .int .i64 var, .int .i64 goes, .bool eq, .int .i64 frm, .int .i64 upto, .slice kA kt.length kC, .slice none 0 0] (by kernel_rfl) (by kernel_rfl) 54 _ hP (by kernel_rfl) rfl rfl ?_
      intro w3 ht3 hC3
      have hgt : gt < wd.heap.size := HY.out.lt
      have HX3 : Hid (Ext wd w3) := ht3.ext HXD.out hgp
      have hyn : (Value.slice kA kt.length kC).ownBlock ≠ some gp := own_differ hyo hP (by decide)
      have HKO : Hid (OwnT wd.heap.size 82 kt (.slice kA kt.length kC) w3) := Lib.hid (ht3.own hyo hyn)
      have HC3 := Lib.hid hC3
      clear ht3 hC3 hP hyo hyn HXD HKC
      simp only [Act.put, List.setIfInBounds_toArray, List.set_cons_zero, List.set_cons_succ]
      have y12 := (HY.out.ext HX3.out).cell 12
      go_wp2_with fail
      go_loopw [7] (fun i wr => ∃ (j : Nat) (vo : List (HeadD × List TermD)) (V : Option Addr) (vC : Nat), j ≤ vp.length ∧ i = .int .i64 j ∧ Hid (vo.length = j) ∧ Hid (vo.map Prod.snd = (vp.take j).map Prod.snd) ∧ Hid (Blk wr gp 54 #[.int .u8 op, .int .i64 node, .int .u8 mode, .int .i64 table, .bool row, .int .i64 col, .int .i64 var, .int .i64 goes, .bool eq, .int .i64 frm, .int .i64 upto, .slice kA kt.length kC, .slice V j vC]) ∧ Hid (RowG wd.heap.size 50 j (pcells vo) (.slice V j vC) wr) ∧ Hid (OwnAll wd.heap.size 82 (((kA, kt.length, kC), kt) :: vo) wr) ∧ Hid (Ext wd wr)) (fun i _ => vp.length - (intOf i).toNat)
      case atStart =>
        exact ⟨0, [], none, 0, Nat.zero_le _, rfl, Lib.hid rfl, Lib.hid rfl, HC3, Lib.hid ⟨World.ownsRow_nil _ _ _ _, _, _, rfl, fun _ => rfl, fun _ => rfl⟩, Lib.hid (fun p hp => by simp only [List.mem_cons, List.not_mem_nil, or_false] at hp; subst hp; exact HKO.out), HX3⟩
      case round =>
        clear y12 HC3 HKO HX3
        obtain ⟨j, vo, V, vC, hjl, rfl, HVL, HVM, HB, HR, HOW, HXR⟩ := hrel
        obtain ⟨wb, rfl⟩ : ∃ wb : World, wb = wr := ⟨_, rfl⟩
        have y12 := (HY.out.ext HXR.out).cell 12
        by_cases hjt : j < vp.length
        · have d1 : decide ((j : Int) < (vp.length : Int)) = true := decide_eq_true (by omega)
          have q0 : (j : Int) < (vp.length : Int) := by omega
          obtain ⟨bv, ov, rfl, hbv, hcv⟩ := HVC.out.at_ (by rw [pcells_len]; omega)
          have hc0 := (hcv j (by rw [pcells_len]; omega)).trans (pcells_at vp j hjt)
          have hpm := List.getElem_mem hjt
          have hsh := HVE.out _ hpm
          have hpf := HF3.out _ hpm
          have hvt : (vp.take (j + 1)).map Prod.snd = (vp.take j).map Prod.snd ++ [vp[j].2] := by rw [List.take_succ_eq_append_getElem hjt, List.map_append]; rfl
          generalize vp[j] = p at *
          obtain ⟨⟨pa, pn, pc⟩, t⟩ := p
          obtain ⟨hs1, hs2, hs3⟩ := hsh
          simp only [hd] at hs1 hs2 hs3 hc0 hpf
          subst hs1
          have HS3 := Lib.hid hs3
          have HVT := Lib.hid hvt
          clear hcv hs3 hvt
          go_wp2_with fail
          obtain ⟨Fs, HFS⟩ : ∃ Fs, Hid (FsP wd.heap.size 82 50 54 gp #[.int .u8 op, .int .i64 node, .int .u8 mode, .int .i64 table, .bool row, .int .i64 col, .int .i64 var, .int .i64 goes, .bool eq, .int .i64 frm, .int .i64 upto, .slice kA kt.length kC, .slice V j vC] (((kA, kt.length, kC), kt) :: vo) j (pcells vo) t = Fs) := ⟨_, Lib.hid rfl⟩
          have hE : ∀ F ∈ Fs, ∀ v w w', F v w → Ext w w' → F v w' := by rw [← HFS.out]; exact FsP_ext _ _ _ _ _ _ _ _ _ _
          have m0 : (fun (_ : Value) w => Blk w gp 54 #[.int .u8 op, .int .i64 node, .int .u8 mode, .int .i64 table, .bool row, .int .i64 col, .int .i64 var, .int .i64 goes, .bool eq, .int .i64 frm, .int .i64 upto, .slice kA kt.length kC, .slice V j vC]) ∈ Fs := by rw [← HFS.out]; simp only [FsP, List.mem_cons, true_or]
          have m1 : (fun (_ : Value) w => OwnAll wd.heap.size 82 (((kA, kt.length, kC), kt) :: vo) w) ∈ Fs := by rw [← HFS.out]; simp only [FsP, List.mem_cons, true_or, or_true]
          have m2 : RowG wd.heap.size 50 j (pcells vo) ∈ Fs := by rw [← HFS.out]; simp only [FsP, List.mem_cons, true_or, or_true]
          have m3 : OwnT wd.heap.size 82 t ∈ Fs := by rw [← HFS.out]; simp only [FsP, List.mem_cons, true_or, or_true]
          have m4 : LitX wd.heap.size 82 50 t ∈ Fs := by rw [← HFS.out]; simp only [FsP, List.mem_cons, true_or, or_true]
          have m5 : SnocX wd.heap.size 82 50 j (pcells vo) t ∈ Fs := by rw [← HFS.out]; simp only [FsP, List.mem_cons, true_or, or_true]
          apply region_keeps wd.heap.size Fs 11 (by kernel_rfl) (by kernel_rfl) (by kernel_rfl) hE HXR.out.size
          dsimp only [List.take_succ_cons, List.take_zero, List.drop_succ_cons, List.drop_zero]
          apply step_det (.pointer (some ⟨gp, 12, none⟩)) rfl rfl rfl
          · intro w' hw' hH
            clear hH
            have hR := keeps_self hw'
            simp [YieldsF, go_sem]
            exact hR
          apply step_det (.slice V j vC) rfl rfl rfl
          · intro w' hw' hH
            clear hH
            have hR := keeps_self hw'
            have cc := Blk.cell (hw'.2.2 _ m0 undef HB.out) 12
            simp [YieldsF, go_sem, cc]
            exact hR
          apply step_det (.pointer (some ⟨gt, 12, none⟩)) rfl rfl rfl
          · intro w' hw' hH
            clear hH
            have hR := keeps_self hw'
            simp [YieldsF, go_sem]
            exact hR
          apply step_det (.slice (some ⟨bv, ov, none⟩) vp.length vc) rfl rfl rfl
          · intro w' hw' hH
            clear hH
            have hR := keeps_self hw'
            have cc := (HY.out.ext (Below.trans HXR.out hw'.1)).cell 12
            simp [YieldsF, go_sem, cc]
            exact hR
          apply step_det (.int .i64 (j : Int)) rfl rfl rfl
          · intro w' hw' hH
            clear hH
            have hR := keeps_self hw'
            simp [YieldsF, go_sem]
            exact hR
          apply step_det (.pointer (some ⟨bv, ov + j, none⟩)) rfl rfl rfl
          · intro w' hw' hH
            clear hH
            have hR := keeps_self hw'
            simp [YieldsF, go_sem, q0]
            exact hR
          apply step_det (.slice pa t.length pc) rfl rfl rfl
          · intro w' hw' hH
            clear hH
            have hR := keeps_self hw'
            have cc := ((Below.trans HXR.out hw'.1).cell (p := ⟨bv, ov + j, none⟩) hbv).trans hc0
            simp [YieldsF, go_sem, cc]
            exact hR
          apply step_fact (OwnT wd.heap.size 82 t) (fun v w w' h k => k.2.2 _ m3 v h) rfl rfl rfl
          · intro w' hw' hH
            clear hH
            simp [YieldsF, go_sem]
            refine (plainTerms_own pa t _ pc w' rfl (by omega) (HS3.out.ext (Below.trans HXR.out hw'.1))).mono ?_
            rintro e w2 ⟨A2, c2, rfl, _, ho, hx⟩
            exact ⟨_, rfl, own_low ho (keeps_big hw'), Keeps.ext hE (keeps_big hw') hx⟩
          intro v58
          apply step_fact (LitX wd.heap.size 82 50 t) (fun v w w' h k => k.2.2 _ m4 v h) rfl rfl rfl
          · intro w' hw' hH
            have h58 := hH _ (List.mem_cons_self ..) ⟨_, rfl, by decide⟩
            clear hH
            obtain ⟨a58, rfl, _⟩ := OwnT.shows h58
            unfold hd at h58 ⊢
            simp [YieldsF, go_sem]
            exact ⟨⟨_, _, rfl, Blk.new w' _ _, OwnT.ext h58 (Ext.alloc _ _)⟩, Keeps.ext hE (keeps_big hw') (Ext.alloc _ _)⟩
          intro v59
          apply step_fact (SnocX wd.heap.size 82 50 j (pcells vo) t) (fun v w w' h k => k.2.2 _ m5 v h) rfl rfl rfl
          · intro w' hw' hH
            obtain ⟨g, x, rfl, hgb, hxo⟩ := hH _ (List.mem_cons_self ..) ⟨_, rfl, by decide⟩
            clear hH
            have hx1 : x.oneCell' = true := by obtain ⟨a, rfl, _⟩ := hxo.shows; rfl
            refine (yields_appendG wd.heap.size Fs (.tmp 52) (.tmp 59) 52 rfl 50 j0 _ 24 Try.underlying52 hj hy0 hy1 hy2 rfl (.slice V j vC) j (pcells vo) (by kernel_rfl) (hw'.2.2 _ m2 _ HR.out) (some ⟨g, 0, none⟩) 1 1 [x] (by kernel_rfl) (fun h => by cases h) rfl (blkCells hgb) (fun u hu => by rw [List.mem_singleton.1 hu]; exact hx1) (by unfold maxLen; omega) (by omega) (keeps_big hw') hE (by rw [← HFS.out]; exact FsP_room (by decide) (by decide) hxo)).mono ?_
            rintro v1 w1 ⟨h1, h2⟩
            exact ⟨⟨x, h1, h2.2.2 _ m3 x hxo⟩, h2⟩
          intro v60
          apply step_det (.pointer (some ⟨gp, 12, none⟩)) rfl rfl rfl
          · intro w' hw' hH
            clear hH
            have hR := keeps_self hw'
            simp [YieldsF, go_sem]
            exact hR
          apply WalkF_nil
          intro w4 hw4 hH
          obtain ⟨x, hrow4, hxo4⟩ := hH _ (List.mem_cons_self ..)
          clear hH
          obtain ⟨A5, c5, rfl⟩ := hrow4.form
          obtain ⟨a5, rfl, _⟩ := hxo4.shows
          have hB4 : Blk w4 gp 54 #[.int .u8 op, .int .i64 node, .int .u8 mode, .int .i64 table, .bool row, .int .i64 col, .int .i64 var, .int .i64 goes, .bool eq, .int .i64 frm, .int .i64 upto, .slice kA kt.length kC, .slice V j vC] := hw4.2.2 _ m0 undef HB.out
          have hO4 : OwnAll wd.heap.size 82 (((kA, kt.length, kC), kt) :: vo) w4 := hw4.2.2 _ m1 undef HOW.out
          have hX4 : Ext wd w4 := Below.trans HXR.out hw4.1
          have hn4 : (Value.slice A5 (j + 1) c5).ownBlock ≠ some gp := own_differ hrow4.1 hB4 (by decide)
          have hn5 : (hd a5).ownBlock ≠ some gp := own_differ hxo4 hB4 (by decide)
          have HB5 : Hid (Blk (w4.setCell ⟨gp, 12, none⟩ (.slice A5 (j + 1) c5)) gp 54 #[.int .u8 op, .int .i64 node, .int .u8 mode, .int .i64 table, .bool row, .int .i64 col, .int .i64 var, .int .i64 goes, .bool eq, .int .i64 frm, .int .i64 upto, .slice kA kt.length kC, .slice A5 (j + 1) c5]) := Lib.hid (hB4.put 12 (.slice A5 (j + 1) c5))
          have HR5 : Hid (RowG wd.heap.size 50 (j + 1) (pcells (vo ++ [(a5, t)])) (.slice A5 (j + 1) c5) (w4.setCell ⟨gp, 12, none⟩ (.slice A5 (j + 1) c5))) := Lib.hid (by rw [pcells_snoc]; exact ⟨own_far hrow4.1 (p := ⟨gp, 12, none⟩) hn4 _, hrow4.2⟩)
          have HO5 : Hid (OwnAll wd.heap.size 82 (((kA, kt.length, kC), kt) :: (vo ++ [(a5, t)])) (w4.setCell ⟨gp, 12, none⟩ (.slice A5 (j + 1) c5))) := Lib.hid (by
            intro p hp
            have h0 : OwnT wd.heap.size 82 p.2 (hd p.1) w4 := by
              rw [← List.cons_append] at hp
              rcases List.mem_append.1 hp with hp | hp
              · exact hO4 p hp
              · rw [List.mem_singleton.1 hp]; exact hxo4
            exact own_far h0 (p := ⟨gp, 12, none⟩) (own_differ h0 hB4 (by decide)) _)
          have HX5 : Hid (Ext wd (w4.setCell ⟨gp, 12, none⟩ (.slice A5 (j + 1) c5))) := Lib.hid (Below.setCell hX4 (p := ⟨gp, 12, none⟩) hdf _)
          have hc12 := hB4.cell 12
          have hfz := hB4.frozen 12
          clear hE m0 m1 m2 m3 m4 m5 HFS hw4 hrow4 hxo4 hO4 hX4 hn4 hn5 HB HR HOW HXR y12
          simp only [Act.put, List.setIfInBounds_toArray, List.set_cons_zero, List.set_cons_succ]
          go_wp2_with fail
          refine ⟨⟨j + 1, vo ++ [(a5, t)], A5, c5, by omega, by go_num, Lib.hid (by rw [List.length_append, HVL.out]; rfl), Lib.hid (by rw [List.map_append, HVM.out, HVT.out]; rfl), HB5, HR5, HO5, HX5⟩, by simp [intOf]; omega⟩
        · obtain rfl : j = vp.length := by omega
          have d1 : decide ((vp.length : Int) < (vp.length : Int)) = false := by simp
          have z0 := HB.out.cell 0
          have z1 := HB.out.cell 1
          have z2 := HB.out.cell 2
          have z3 := HB.out.cell 3
          have z4 := HB.out.cell 4
          have z5 := HB.out.cell 5
          have z6 := HB.out.cell 6
          have z7 := HB.out.cell 7
          have z8 := HB.out.cell 8
          have z9 := HB.out.cell 9
          have z10 := HB.out.cell 10
          have z11 := HB.out.cell 11
          have z12 := HB.out.cell 12
          have hown := (own_ext HOA.out HXR.out).alloc (.cells #[.int .u8 op, .int .i64 node, .int .u8 mode, .int .i64 table, .bool row, .int .i64 col, .int .i64 var, .int .i64 goes, .bool eq, .int .i64 frm, .int .i64 upto, .slice kA kt.length kC, .slice V vp.length vC] 54)
          have HXF : Hid (Ext w (wb.alloc (.cells #[.int .u8 op, .int .i64 node, .int .u8 mode, .int .i64 table, .bool row, .int .i64 col, .int .i64 var, .int .i64 goes, .bool eq, .int .i64 frm, .int .i64 upto, .slice kA kt.length kC, .slice V vp.length vC] 54))) := Ext.trans (Ext.trans HXA.out HXR.out) (Ext.alloc _ _)
          go_wp2_with (at_builtin; refine wpList_grow rfl _ _ 26 rfl w.heap.size 54 i0 _ 13 136 Try.underlying26 hi hz0 hz1 hz2 rfl (by decide) _ _ _ rfl hown _ 1 1 [.int .u8 op, .int .i64 node, .int .u8 mode, .int .i64 table, .bool row, .int .i64 col, .int .i64 var, .int .i64 goes, .bool eq, .int .i64 frm, .int .i64 upto, .slice kA kt.length kC, .slice V vp.length vC] rfl (by simp) rfl ?c1 ?c2 ?c3 ?c4 HXF.out.size ?_)
          case c1 => exact Cells.new _ 54 #[.int .u8 op, .int .i64 node, .int .u8 mode, .int .i64 table, .bool row, .int .i64 col, .int .i64 var, .int .i64 goes, .bool eq, .int .i64 frm, .int .i64 upto, .slice kA kt.length kC, .slice V vp.length vC]
          case c2 => first | exact ⟨rfl, rfl, rfl, rfl, rfl, rfl, rfl, rfl, rfl, rfl, rfl, rfl, rfl⟩ | (intro u hu; simp only [List.mem_cons, List.not_mem_nil, or_false] at hu; rcases hu with rfl | rfl | rfl | rfl | rfl | rfl | rfl | rfl | rfl | rfl | rfl | rfl | rfl <;> rfl)
          case c3 => unfold maxLen; omega
          case c4 => omega
          intro A2 c2 w5 z5 hown5 hg5
          have hBw : w.heap.size ≤ wd.heap.size := HXA.out.size
          have hnew : FullI.Own 82 50 w.heap.size ⟨⟨op, node, mode, table, row, col, var, goes, eq, frm, upto, (kA, kt.length, kC), (V, vp.length, vC)⟩, kt, vo⟩ wb := by
            refine ⟨OwnT.low (HOW.out _ (List.mem_cons_self ..)) hBw, ?_, fun p hp => OwnT.low (HOW.out p (List.mem_cons_of_mem _ hp)) hBw⟩
            have := own_low HR.out.1 hBw
            rw [← HVL.out] at this
            rw [← HVL.out]
            exact this
          have HE5 : Hid (∀ f ∈ lo ++ [⟨⟨op, node, mode, table, row, col, var, goes, eq, frm, upto, (kA, kt.length, kC), (V, vp.length, vC)⟩, kt, vo⟩], f.Own 82 50 w.heap.size w5) := Lib.hid (by
            intro f hf
            have h0 : f.Own 82 50 w.heap.size wb := by
              rcases List.mem_append.1 hf with hf | hf
              · exact (HEA.out f hf).ext HXR.out
              · rw [List.mem_singleton.1 hf]; exact hnew
            exact (h0.ext (Ext.alloc _ _)).apart hown (by decide) (by decide) hg5)
          have HO5 : Hid (w5.ownsRow w.heap.size 54 13 (.slice A2 (k + 1) c2) (k + 1) (fcells (lo ++ [⟨⟨op, node, mode, table, row, col, var, goes, eq, frm, upto, (kA, kt.length, kC), (V, vp.length, vC)⟩, kt, vo⟩]))) := Lib.hid (by rw [fcells_snoc]; exact hown5)
          have HX5 : Hid (Ext w w5) := Below.grown HXF.out hg5 HXF.out.size (fun k hk => (hown.lt k hk).1)
          have HC5 : Hid ((lo ++ [(⟨⟨op, node, mode, table, row, col, var, goes, eq, frm, upto, (kA, kt.length, kC), (V, vp.length, vC)⟩, kt, vo⟩ : FullI)]).map FullI.con = (l.take (k + 1)).map FullI.con) := Lib.hid (by
            rw [HT.out, List.map_append, HCO.out]
            have hvm := HVM.out
            rw [List.take_length] at hvm
            simp only [FullI.con, bareD, List.map_cons, List.map_nil, hvm])
          clear hown hown5 hg5 hnew
          go_wp2_with fail
          exact ⟨⟨k + 1, A2, c2, _, by omega, by go_num, by first | trivial | rfl, z5, HC5, HO5, HE5, HX5⟩, by simp [intOf]; omega⟩
    · obtain rfl : k = l.length := by omega
      have d0 : decide ((l.length : Int) < (l.length : Int)) = false := by simp
      have hco := HCO.out
      rw [List.take_length] at hco
      have HCF := Lib.hid hco
      clear hco
      go_wp2_with fail
      go_ret
      exact ⟨A', c', lo, rfl, hz, ⟨Cells.own HO.out, fun f hf => (HE.out f hf).at⟩, HCF.out, HX.out⟩
end Go.Proofs.Ytngbpaiohfokbaa
