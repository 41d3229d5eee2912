/- interlockref08.Same, walked, of any two rows of instructions of the same content. -/
import Derived.Test.YtngbpaiohfokbaaFull
import Derived.RegionTactic
import Derived.Deep.Cut
namespace Go.Proofs.Ytngbpaiohfokbaa
open Go Go.RowKit
set_option linter.unusedVariables false
set_option linter.unusedSimpArgs false
theorem con_at {l m : List FullI} (h : l.map FullI.con = m.map FullI.con) (k : Nat) (h1 : k < l.length) (h2 : k < m.length) : l[k].con = m[k].con := by
  have := congrArg (fun x => x[k]?) h
  simpa [h1, h2] using this
theorem Blk.newAt {w : World} {o : Obj} {t : TypeId} {cs : Array Value} {g : Nat} (hg : (w.alloc o).heap.size = g) : Blk ((w.alloc o).alloc (.cells cs t)) g t cs := by subst hg; exact Blk.new _ _ _
set_option maxRecDepth 100000 in
set_option maxHeartbeats 16000000 in
theorem rsameY_any (A B : Option Addr) (l m : List FullI) (n n2 c d : Nat) (w : World) (hn : n = l.length) (hm : n2 = m.length) (hlen : l.length ≤ 1000) (hcon : l.map FullI.con = m.map FullI.con) (hA : Row w A l) (hB : Row w B m) (hf : ∀ f ∈ l, f.fits) :
    Calls Try.prog 12 #[.slice A n c, .slice B n2 d] w fun e w' => e = .returned (.bool true) ∧ Ext w w' := by
  subst hn hm
  have hlw : l.length = m.length := by have := congrArg List.length hcon; simpa using this
  have HA := Lib.hid hA
  have HB := Lib.hid hB
  have HFA := Lib.hid hf
  have HCO := Lib.hid hcon
  clear hA hB hf hcon
  have e0 : ((l.length : Int) == (m.length : Int)) = true := by rw [hlw]; simp
  have e1 : ((l.length : Int) != (m.length : Int)) = false := by rw [hlw]; simp
  have HLW := Lib.hid hlw
  clear hlw
  go_enter Try.func12, Try.ntmps12
  go_wp2_with fail
  go_loopw [5] (fun i wr => ∃ k : Nat, k ≤ l.length ∧ i = .int .i64 k ∧ Hid (Ext w wr)) (fun i _ => l.length - (intOf i).toNat)
  case atStart => exact ⟨0, Nat.zero_le _, rfl, Lib.hid (Ext.refl _)⟩
  case round =>
    obtain ⟨k, hk, rfl, HX⟩ := hrel
    obtain ⟨wa, rfl⟩ : ∃ wa : World, wa = wr := ⟨_, rfl⟩
    by_cases hlt : k < l.length
    · have d0 : decide ((k : Int) < (l.length : Int)) = true := decide_eq_true (by omega)
      have hlt2 : k < m.length := by have := HLW.out; omega
      have q0 : (k : Int) < (l.length : Int) := by omega
      have q1 : (k : Int) < (m.length : Int) := by omega
      have HA1 := Lib.hid (HA.out.ext HX.out)
      have HB1 := Lib.hid (HB.out.ext HX.out)
      obtain ⟨b1, off1, rfl, hb1, hcc⟩ := HA1.out.1.at_ (by rw [fcells_len]; omega)
      obtain ⟨b2, off2, rfl, hb2, hcc2⟩ := HB1.out.1.at_ (by rw [fcells_len]; omega)
      have hx : ∀ j, j < 13 → wa.cell? ⟨b1, off1 + k * 13 + j, none⟩ = (l[k].x.cells)[j]? := fun j hj => by
        rw [Nat.add_assoc, hcc _ (by rw [fcells_len]; omega)]
        exact fcells_at l k j hlt hj
      have hy : ∀ j, j < 13 → wa.cell? ⟨b2, off2 + k * 13 + j, none⟩ = (m[k].x.cells)[j]? := fun j hj => by
        rw [Nat.add_assoc, hcc2 _ (by rw [fcells_len]; omega)]
        exact fcells_at m k j hlt2 hj
      have hat := HA1.out.2 _ (List.getElem_mem hlt)
      have hat2 := HB1.out.2 _ (List.getElem_mem hlt2)
      have hft := HFA.out _ (List.getElem_mem hlt)
      have hco := con_at HCO.out k hlt hlt2
      clear hcc hcc2
      generalize l[k] = f at *
      generalize m[k] = g at *
      obtain ⟨⟨op, node, mode, table, row, col, var, goes, eq, frm, upto, ⟨ka, kl, kc⟩, ⟨va, vl, vc⟩⟩, kt, vp⟩ := f
      obtain ⟨⟨op2, node2, mode2, table2, row2, col2, var2, goes2, eq2, frm2, upto2, ⟨ka2, kl2, kc2⟩, ⟨va2, vl2, vc2⟩⟩, kt2, vp2⟩ := g
      simp only [FullI.con, bareD, Prod.mk.injEq, InstrD.mk.injEq] at hco
      obtain ⟨⟨h1, h2, h3, h4, h5, h6, h7, h8, h9, h10, h11, _⟩, hkt, hvp⟩ := hco
      subst h1 h2 h3 h4 h5 h6 h7 h8 h9 h10 h11 hkt
      obtain ⟨⟨hs1, hs2, hs3⟩, hv1, hv2, hv3, hv4⟩ := hat
      obtain ⟨⟨ks1, ks2, ks3⟩, kv1, kv2, kv3, kv4⟩ := hat2
      simp only at hs1 hv1 ks1 kv1 hs3 hv3 ks3 kv3 hv4 kv4
      subst hs1 hv1 ks1 kv1
      obtain ⟨hf1, hf2, hf3⟩ := hft
      simp only at hf1 hf2 hf3
      have hvl : vp.length = vp2.length := by have := congrArg List.length hvp; simpa using this
      have g0 : ((vp.length : Int) == (vp2.length : Int)) = true := by rw [hvl]; simp
      have g1 : ((vp.length : Int) != (vp2.length : Int)) = false := by rw [hvl]; simp
      have HVL := Lib.hid hvl
      have HVP := Lib.hid hvp
      have HK1 := Lib.hid hs3
      have HK2 := Lib.hid ks3
      have HV1 := Lib.hid hv3
      have HV2 := Lib.hid kv3
      have HE1 := Lib.hid hv4
      have HE2 := Lib.hid kv4
      have HF1 := Lib.hid hf1
      have HF3 := Lib.hid hf3
      have HXC := Lib.hid hx
      have HYC := Lib.hid hy
      clear hs3 ks3 hv3 kv3 hv4 kv4 hf1 hf3 hs2 ks2 hv2 kv2 hx hy hvl hvp
      go_upto_region 6 with fail
      have x0 : wa.cell? ⟨b1, off1 + k * 13, none⟩ = some (.int .u8 op) := HXC.out 0 (by omega)
      have y0 : wa.cell? ⟨b2, off2 + k * 13, none⟩ = some (.int .u8 op) := HYC.out 0 (by omega)
      have x1 : wa.cell? ⟨b1, off1 + k * 13 + 1, none⟩ = some (.int .i64 node) := HXC.out 1 (by omega)
      have y1 : wa.cell? ⟨b2, off2 + k * 13 + 1, none⟩ = some (.int .i64 node) := HYC.out 1 (by omega)
      have x2 : wa.cell? ⟨b1, off1 + k * 13 + 2, none⟩ = some (.int .u8 mode) := HXC.out 2 (by omega)
      have y2 : wa.cell? ⟨b2, off2 + k * 13 + 2, none⟩ = some (.int .u8 mode) := HYC.out 2 (by omega)
      have x3 : wa.cell? ⟨b1, off1 + k * 13 + 3, none⟩ = some (.int .i64 table) := HXC.out 3 (by omega)
      have y3 : wa.cell? ⟨b2, off2 + k * 13 + 3, none⟩ = some (.int .i64 table) := HYC.out 3 (by omega)
      have x4 : wa.cell? ⟨b1, off1 + k * 13 + 4, none⟩ = some (.bool row) := HXC.out 4 (by omega)
      have y4 : wa.cell? ⟨b2, off2 + k * 13 + 4, none⟩ = some (.bool row) := HYC.out 4 (by omega)
      have x5 : wa.cell? ⟨b1, off1 + k * 13 + 5, none⟩ = some (.int .i64 col) := HXC.out 5 (by omega)
      have y5 : wa.cell? ⟨b2, off2 + k * 13 + 5, none⟩ = some (.int .i64 col) := HYC.out 5 (by omega)
      have x6 : wa.cell? ⟨b1, off1 + k * 13 + 6, none⟩ = some (.int .i64 var) := HXC.out 6 (by omega)
      have y6 : wa.cell? ⟨b2, off2 + k * 13 + 6, none⟩ = some (.int .i64 var) := HYC.out 6 (by omega)
      have x7 : wa.cell? ⟨b1, off1 + k * 13 + 7, none⟩ = some (.int .i64 goes) := HXC.out 7 (by omega)
      have y7 : wa.cell? ⟨b2, off2 + k * 13 + 7, none⟩ = some (.int .i64 goes) := HYC.out 7 (by omega)
      have x8 : wa.cell? ⟨b1, off1 + k * 13 + 8, none⟩ = some (.bool eq) := HXC.out 8 (by omega)
      have y8 : wa.cell? ⟨b2, off2 + k * 13 + 8, none⟩ = some (.bool eq) := HYC.out 8 (by omega)
      have x9 : wa.cell? ⟨b1, off1 + k * 13 + 9, none⟩ = some (.int .i64 frm) := HXC.out 9 (by omega)
      have y9 : wa.cell? ⟨b2, off2 + k * 13 + 9, none⟩ = some (.int .i64 frm) := HYC.out 9 (by omega)
      have x10 : wa.cell? ⟨b1, off1 + k * 13 + 10, none⟩ = some (.int .i64 upto) := HXC.out 10 (by omega)
      have y10 : wa.cell? ⟨b2, off2 + k * 13 + 10, none⟩ = some (.int .i64 upto) := HYC.out 10 (by omega)
      have x11 : wa.cell? ⟨b1, off1 + k * 13 + 11, none⟩ = some (.slice ka kt.length kc) := HXC.out 11 (by omega)
      have y11 : wa.cell? ⟨b2, off2 + k * 13 + 11, none⟩ = some (.slice ka2 kt.length kc2) := HYC.out 11 (by omega)
      have x12 : wa.cell? ⟨b1, off1 + k * 13 + 12, none⟩ = some (.slice va vp.length vc) := HXC.out 12 (by omega)
      have y12 : wa.cell? ⟨b2, off2 + k * 13 + 12, none⟩ = some (.slice va2 vp2.length vc2) := HYC.out 12 (by omega)
      go_region
      · have HCX : Hid (Blk (((wa.alloc (.cells #[.int .u8 op, .int .i64 node, .int .u8 mode, .int .i64 table, .bool row, .int .i64 col, .int .i64 var, .int .i64 goes, .bool eq, .int .i64 frm, .int .i64 upto, .slice ka kt.length kc, .slice va vp.length vc] 54)).alloc (.cells #[.int .u8 op, .int .i64 node, .int .u8 mode, .int .i64 table, .bool row, .int .i64 col, .int .i64 var, .int .i64 goes, .bool eq, .int .i64 frm, .int .i64 upto, .slice ka2 kt.length kc2, .slice va2 vp2.length vc2] 54)).drew) (wa.heap.size) 54 #[.int .u8 op, .int .i64 node, .int .u8 mode, .int .i64 table, .bool row, .int .i64 col, .int .i64 var, .int .i64 goes, .bool eq, .int .i64 frm, .int .i64 upto, .slice ka kt.length kc, .slice va vp.length vc]) := Lib.hid (((Blk.new _ _ _).alloc _).ext (Below.drew (Below.refl _ _)))
        have HCY : Hid (Blk (((wa.alloc (.cells #[.int .u8 op, .int .i64 node, .int .u8 mode, .int .i64 table, .bool row, .int .i64 col, .int .i64 var, .int .i64 goes, .bool eq, .int .i64 frm, .int .i64 upto, .slice ka kt.length kc, .slice va vp.length vc] 54)).alloc (.cells #[.int .u8 op, .int .i64 node, .int .u8 mode, .int .i64 table, .bool row, .int .i64 col, .int .i64 var, .int .i64 goes, .bool eq, .int .i64 frm, .int .i64 upto, .slice ka2 kt.length kc2, .slice va2 vp2.length vc2] 54)).drew) (wa.heap.size + 1) 54 #[.int .u8 op, .int .i64 node, .int .u8 mode, .int .i64 table, .bool row, .int .i64 col, .int .i64 var, .int .i64 goes, .bool eq, .int .i64 frm, .int .i64 upto, .slice ka2 kt.length kc2, .slice va2 vp2.length vc2]) := Lib.hid ((Blk.newAt (by simp)).ext (Below.drew (Below.refl _ _)))
        have HXA : Hid (Ext wa (((wa.alloc (.cells #[.int .u8 op, .int .i64 node, .int .u8 mode, .int .i64 table, .bool row, .int .i64 col, .int .i64 var, .int .i64 goes, .bool eq, .int .i64 frm, .int .i64 upto, .slice ka kt.length kc, .slice va vp.length vc] 54)).alloc (.cells #[.int .u8 op, .int .i64 node, .int .u8 mode, .int .i64 table, .bool row, .int .i64 col, .int .i64 var, .int .i64 goes, .bool eq, .int .i64 frm, .int .i64 upto, .slice ka2 kt.length kc2, .slice va2 vp2.length vc2] 54)).drew)) := Lib.hid (Below.drew ((Ext.alloc _ _).trans (Ext.alloc _ _)))
        have HXX := Lib.hid (HX.out.trans HXA.out)
        clear x0 y0 x1 y1 x2 y2 x3 y3 x4 y4 x5 y5 x6 y6 x7 y7 x8 y8 x9 y9 x10 y10 x11 y11 x12 y12 HXC HYC HX q0 q1
        generalize (((wa.alloc (.cells #[.int .u8 op, .int .i64 node, .int .u8 mode, .int .i64 table, .bool row, .int .i64 col, .int .i64 var, .int .i64 goes, .bool eq, .int .i64 frm, .int .i64 upto, .slice ka kt.length kc, .slice va vp.length vc] 54)).alloc (.cells #[.int .u8 op, .int .i64 node, .int .u8 mode, .int .i64 table, .bool row, .int .i64 col, .int .i64 var, .int .i64 goes, .bool eq, .int .i64 frm, .int .i64 upto, .slice ka2 kt.length kc2, .slice va2 vp2.length vc2] 54)).drew) = w3 at *
        generalize wa.heap.size + 1 = gy at *
        generalize wa.heap.size = gx at *
        have x0 := HCX.out.cell 0
        have y0 := HCY.out.cell 0
        have x1 := HCX.out.cell 1
        have y1 := HCY.out.cell 1
        have x2 := HCX.out.cell 2
        have y2 := HCY.out.cell 2
        have x3 := HCX.out.cell 3
        have y3 := HCY.out.cell 3
        have x4 := HCX.out.cell 4
        have y4 := HCY.out.cell 4
        have x5 := HCX.out.cell 5
        have y5 := HCY.out.cell 5
        have x6 := HCX.out.cell 6
        have y6 := HCY.out.cell 6
        have x7 := HCX.out.cell 7
        have y7 := HCY.out.cell 7
        have x8 := HCX.out.cell 8
        have y8 := HCY.out.cell 8
        have x9 := HCX.out.cell 9
        have y9 := HCY.out.cell 9
        have x10 := HCX.out.cell 10
        have y10 := HCY.out.cell 10
        have x11 := HCX.out.cell 11
        have y11 := HCY.out.cell 11
        have x12 := HCX.out.cell 12
        have y12 := HCY.out.cell 12
        go_wp2_with fail
        refine (sameTerms_yes ka ka2 kt _ _ kc kc2 w3 rfl rfl HF1.out (HK1.out.ext HXA.out) (HK2.out.ext HXA.out)).mono ?_
        rintro e w4 ⟨rfl, hx4⟩
        have HX4 : Hid (Ext wa w4) := Lib.hid (HXA.out.trans hx4)
        have HXW : Hid (Ext w w4) := Lib.hid (HXX.out.trans hx4)
        have HD0 := Lib.hid (HCX.out.ext hx4)
        have HD1 := Lib.hid (HCY.out.ext hx4)
        clear hx4 x0 y0 x1 y1 x2 y2 x3 y3 x4 y4 x5 y5 x6 y6 x7 y7 x8 y8 x9 y9 x10 y10 x11 y11 x12 y12
        have x12 := HD0.out.cell 12
        have y12 := HD1.out.cell 12
        go_wp2_with fail
        go_loopw [8] (fun i w5 => ∃ j : Nat, j ≤ vp.length ∧ i = .int .i64 j ∧ Hid (Ext w4 w5)) (fun i _ => vp.length - (intOf i).toNat)
        case atStart => exact ⟨0, Nat.zero_le _, rfl, Lib.hid (Ext.refl _)⟩
        case round =>
          clear x12 y12
          obtain ⟨j, hj, rfl, HX5⟩ := hrel
          obtain ⟨w5, rfl⟩ : ∃ w5 : World, w5 = wr := ⟨_, rfl⟩
          have HLX : Hid (gx < w5.heap.size ∧ gy < w5.heap.size) := Lib.hid ⟨(HD0.out.ext HX5.out).lt, (HD1.out.ext HX5.out).lt⟩
          have x12 : w5.cell? ⟨gx, 12, none⟩ = some (.slice va vp.length vc) := (HD0.out.ext HX5.out).cell 12
          have y12 : w5.cell? ⟨gy, 12, none⟩ = some (.slice va2 vp2.length vc2) := (HD1.out.ext HX5.out).cell 12
          by_cases hjl : j < vp.length
          · have d1 : decide ((j : Int) < (vp.length : Int)) = true := decide_eq_true (by omega)
            have hjl2 : j < vp2.length := by have := HVL.out; omega
            have q3 : (j : Int) < (vp.length : Int) := by omega
            have q4 : (j : Int) < (vp2.length : Int) := by omega
            have HXJ := Lib.hid (HX4.out.trans HX5.out)
            obtain ⟨b3, off3, rfl, hb3, hc3⟩ := (HV1.out.ext HXJ.out).at_ (by rw [pcells_len]; omega)
            obtain ⟨b4, off4, rfl, hb4, hc4⟩ := (HV2.out.ext HXJ.out).at_ (by rw [pcells_len]; omega)
            have v0 := (hc3 j (by rw [pcells_len]; omega)).trans (pcells_at vp j hjl)
            have u0 := (hc4 j (by rw [pcells_len]; omega)).trans (pcells_at vp2 j hjl2)
            have hsh := HE1.out _ (List.getElem_mem hjl)
            have hsh2 := HE2.out _ (List.getElem_mem hjl2)
            have hbg := HF3.out _ (List.getElem_mem hjl)
            have hee : vp[j].2 = vp2[j].2 := by
              have := congrArg (fun x => x[j]?) HVP.out
              simpa [hjl, hjl2] using this
            clear hc3 hc4
            generalize vp[j] = pv at *
            generalize vp2[j] = pw at *
            obtain ⟨⟨pa, pn, pc⟩, ts⟩ := pv
            obtain ⟨⟨pa2, pn2, pc2⟩, ts2⟩ := pw
            obtain ⟨r1, r2, r3⟩ := hsh
            obtain ⟨s1, s2, s3⟩ := hsh2
            simp only [hd] at r1 r3 s1 s3 v0 u0 hbg hee
            subst hee
            subst r1 s1
            have HR3 := Lib.hid r3
            have HS3 := Lib.hid s3
            clear r2 r3 s2 s3
            go_upto_region 12 with fail
            apply wp_region_ext (by kernel_rfl) (by kernel_rfl) (by kernel_rfl)
            apply step_det (.pointer (some ⟨gx, 12, none⟩)) rfl rfl rfl
            · intro w' hw' hH
              clear hH
              simp [YieldsF, go_sem, q3, q4]
              exact Ext.refl _
            apply step_det (.slice (some ⟨b3, off3, none⟩) vp.length vc) rfl rfl rfl
            · intro w' hw' hH
              clear hH
              have z0 := (hw'.cell (p := ⟨gx, 12, none⟩) HLX.out.1).trans x12
              simp [YieldsF, go_sem, z0, q3, q4]
              exact Ext.refl _
            apply step_det (.int .i64 (j : Int)) rfl rfl rfl
            · intro w' hw' hH
              clear hH
              simp [YieldsF, go_sem, q3, q4]
              exact Ext.refl _
            apply step_det (.pointer (some ⟨b3, off3 + j, none⟩)) rfl rfl rfl
            · intro w' hw' hH
              clear hH
              simp [YieldsF, go_sem, q3, q4]
              exact Ext.refl _
            apply step_det (.slice pa ts.length pc) rfl rfl rfl
            · intro w' hw' hH
              clear hH
              have z0 := (hw'.cell (p := ⟨b3, off3 + j, none⟩) hb3).trans v0
              simp [YieldsF, go_sem, z0, q3, q4]
              exact Ext.refl _
            apply step_det (.pointer (some ⟨gy, 12, none⟩)) rfl rfl rfl
            · intro w' hw' hH
              clear hH
              simp [YieldsF, go_sem, q3, q4]
              exact Ext.refl _
            apply step_det (.slice (some ⟨b4, off4, none⟩) vp2.length vc2) rfl rfl rfl
            · intro w' hw' hH
              clear hH
              have z0 := (hw'.cell (p := ⟨gy, 12, none⟩) HLX.out.2).trans y12
              simp [YieldsF, go_sem, z0, q3, q4]
              exact Ext.refl _
            apply step_det (.int .i64 (j : Int)) rfl rfl rfl
            · intro w' hw' hH
              clear hH
              simp [YieldsF, go_sem, q3, q4]
              exact Ext.refl _
            apply step_det (.pointer (some ⟨b4, off4 + j, none⟩)) rfl rfl rfl
            · intro w' hw' hH
              clear hH
              simp [YieldsF, go_sem, q3, q4]
              exact Ext.refl _
            apply step_det (.slice pa2 ts.length pc2) rfl rfl rfl
            · intro w' hw' hH
              clear hH
              have z0 := (hw'.cell (p := ⟨b4, off4 + j, none⟩) hb4).trans u0
              simp [YieldsF, go_sem, z0, q3, q4]
              exact Ext.refl _
            apply step_det (.bool true) rfl rfl rfl
            · intro w' hw' hH
              clear hH
              simp [YieldsF, go_sem]
              refine (sameTerms_yes pa pa2 ts _ _ pc pc2 w' rfl rfl hbg (HR3.out.ext (HXJ.out.trans hw')) (HS3.out.ext (HXJ.out.trans hw'))).mono ?_
              rintro e w6 ⟨rfl, hx⟩
              exact ⟨_, rfl, rfl, hx⟩
            apply step_det (.bool false) rfl rfl rfl
            · intro w' hw' hH
              clear hH
              simp [YieldsF, go_sem, q3, q4]
              exact Ext.refl _
            apply WalkF_nil
            intro w7 hw7 hH
            clear hH
            have HX7 : Hid (Ext w4 w7) := Lib.hid (HX5.out.trans hw7)
            clear hw7 x12 y12 v0 u0
            try simp only [Act.put, List.setIfInBounds_toArray, List.set_cons_zero, List.set_cons_succ]
            go_wp2_with fail
            go_roundw
            case rel => exact ⟨j + 1, by omega, by go_num, HX7⟩
            case measure => simp [intOf]; omega
          · obtain rfl : j = vp.length := by omega
            have d1 : decide ((vp.length : Int) < (vp.length : Int)) = false := by simp
            have HX8 : Hid (Ext w w5) := Lib.hid (HXW.out.trans HX5.out)
            go_wp2_with fail
            go_roundw
            case rel => exact ⟨k + 1, by omega, by go_num, HX8⟩
            case measure => simp [intOf]; omega
      · have HCX : Hid (Blk (((wa.alloc (.cells #[.int .u8 op, .int .i64 node, .int .u8 mode, .int .i64 table, .bool row, .int .i64 col, .int .i64 var, .int .i64 goes, .bool eq, .int .i64 frm, .int .i64 upto, .slice ka2 kt.length kc2, .slice va2 vp2.length vc2] 54)).alloc (.cells #[.int .u8 op, .int .i64 node, .int .u8 mode, .int .i64 table, .bool row, .int .i64 col, .int .i64 var, .int .i64 goes, .bool eq, .int .i64 frm, .int .i64 upto, .slice ka kt.length kc, .slice va vp.length vc] 54)).drew) (wa.heap.size + 1) 54 #[.int .u8 op, .int .i64 node, .int .u8 mode, .int .i64 table, .bool row, .int .i64 col, .int .i64 var, .int .i64 goes, .bool eq, .int .i64 frm, .int .i64 upto, .slice ka kt.length kc, .slice va vp.length vc]) := Lib.hid ((Blk.newAt (by simp)).ext (Below.drew (Below.refl _ _)))
        have HCY : Hid (Blk (((wa.alloc (.cells #[.int .u8 op, .int .i64 node, .int .u8 mode, .int .i64 table, .bool row, .int .i64 col, .int .i64 var, .int .i64 goes, .bool eq, .int .i64 frm, .int .i64 upto, .slice ka2 kt.length kc2, .slice va2 vp2.length vc2] 54)).alloc (.cells #[.int .u8 op, .int .i64 node, .int .u8 mode, .int .i64 table, .bool row, .int .i64 col, .int .i64 var, .int .i64 goes, .bool eq, .int .i64 frm, .int .i64 upto, .slice ka kt.length kc, .slice va vp.length vc] 54)).drew) (wa.heap.size) 54 #[.int .u8 op, .int .i64 node, .int .u8 mode, .int .i64 table, .bool row, .int .i64 col, .int .i64 var, .int .i64 goes, .bool eq, .int .i64 frm, .int .i64 upto, .slice ka2 kt.length kc2, .slice va2 vp2.length vc2]) := Lib.hid (((Blk.new _ _ _).alloc _).ext (Below.drew (Below.refl _ _)))
        have HXA : Hid (Ext wa (((wa.alloc (.cells #[.int .u8 op, .int .i64 node, .int .u8 mode, .int .i64 table, .bool row, .int .i64 col, .int .i64 var, .int .i64 goes, .bool eq, .int .i64 frm, .int .i64 upto, .slice ka2 kt.length kc2, .slice va2 vp2.length vc2] 54)).alloc (.cells #[.int .u8 op, .int .i64 node, .int .u8 mode, .int .i64 table, .bool row, .int .i64 col, .int .i64 var, .int .i64 goes, .bool eq, .int .i64 frm, .int .i64 upto, .slice ka kt.length kc, .slice va vp.length vc] 54)).drew)) := Lib.hid (Below.drew ((Ext.alloc _ _).trans (Ext.alloc _ _)))
        have HXX := Lib.hid (HX.out.trans HXA.out)
        clear x0 y0 x1 y1 x2 y2 x3 y3 x4 y4 x5 y5 x6 y6 x7 y7 x8 y8 x9 y9 x10 y10 x11 y11 x12 y12 HXC HYC HX q0 q1
        generalize (((wa.alloc (.cells #[.int .u8 op, .int .i64 node, .int .u8 mode, .int .i64 table, .bool row, .int .i64 col, .int .i64 var, .int .i64 goes, .bool eq, .int .i64 frm, .int .i64 upto, .slice ka2 kt.length kc2, .slice va2 vp2.length vc2] 54)).alloc (.cells #[.int .u8 op, .int .i64 node, .int .u8 mode, .int .i64 table, .bool row, .int .i64 col, .int .i64 var, .int .i64 goes, .bool eq, .int .i64 frm, .int .i64 upto, .slice ka kt.length kc, .slice va vp.length vc] 54)).drew) = w3 at *
        generalize wa.heap.size + 1 = gx at *
        generalize wa.heap.size = gy at *
        have x0 := HCX.out.cell 0
        have y0 := HCY.out.cell 0
        have x1 := HCX.out.cell 1
        have y1 := HCY.out.cell 1
        have x2 := HCX.out.cell 2
        have y2 := HCY.out.cell 2
        have x3 := HCX.out.cell 3
        have y3 := HCY.out.cell 3
        have x4 := HCX.out.cell 4
        have y4 := HCY.out.cell 4
        have x5 := HCX.out.cell 5
        have y5 := HCY.out.cell 5
        have x6 := HCX.out.cell 6
        have y6 := HCY.out.cell 6
        have x7 := HCX.out.cell 7
        have y7 := HCY.out.cell 7
        have x8 := HCX.out.cell 8
        have y8 := HCY.out.cell 8
        have x9 := HCX.out.cell 9
        have y9 := HCY.out.cell 9
        have x10 := HCX.out.cell 10
        have y10 := HCY.out.cell 10
        have x11 := HCX.out.cell 11
        have y11 := HCY.out.cell 11
        have x12 := HCX.out.cell 12
        have y12 := HCY.out.cell 12
        go_wp2_with fail
        refine (sameTerms_yes ka ka2 kt _ _ kc kc2 w3 rfl rfl HF1.out (HK1.out.ext HXA.out) (HK2.out.ext HXA.out)).mono ?_
        rintro e w4 ⟨rfl, hx4⟩
        have HX4 : Hid (Ext wa w4) := Lib.hid (HXA.out.trans hx4)
        have HXW : Hid (Ext w w4) := Lib.hid (HXX.out.trans hx4)
        have HD0 := Lib.hid (HCX.out.ext hx4)
        have HD1 := Lib.hid (HCY.out.ext hx4)
        clear hx4 x0 y0 x1 y1 x2 y2 x3 y3 x4 y4 x5 y5 x6 y6 x7 y7 x8 y8 x9 y9 x10 y10 x11 y11 x12 y12
        have x12 := HD0.out.cell 12
        have y12 := HD1.out.cell 12
        go_wp2_with fail
        go_loopw [8] (fun i w5 => ∃ j : Nat, j ≤ vp.length ∧ i = .int .i64 j ∧ Hid (Ext w4 w5)) (fun i _ => vp.length - (intOf i).toNat)
        case atStart => exact ⟨0, Nat.zero_le _, rfl, Lib.hid (Ext.refl _)⟩
        case round =>
          clear x12 y12
          obtain ⟨j, hj, rfl, HX5⟩ := hrel
          obtain ⟨w5, rfl⟩ : ∃ w5 : World, w5 = wr := ⟨_, rfl⟩
          have HLX : Hid (gx < w5.heap.size ∧ gy < w5.heap.size) := Lib.hid ⟨(HD0.out.ext HX5.out).lt, (HD1.out.ext HX5.out).lt⟩
          have x12 : w5.cell? ⟨gx, 12, none⟩ = some (.slice va vp.length vc) := (HD0.out.ext HX5.out).cell 12
          have y12 : w5.cell? ⟨gy, 12, none⟩ = some (.slice va2 vp2.length vc2) := (HD1.out.ext HX5.out).cell 12
          by_cases hjl : j < vp.length
          · have d1 : decide ((j : Int) < (vp.length : Int)) = true := decide_eq_true (by omega)
            have hjl2 : j < vp2.length := by have := HVL.out; omega
            have q3 : (j : Int) < (vp.length : Int) := by omega
            have q4 : (j : Int) < (vp2.length : Int) := by omega
            have HXJ := Lib.hid (HX4.out.trans HX5.out)
            obtain ⟨b3, off3, rfl, hb3, hc3⟩ := (HV1.out.ext HXJ.out).at_ (by rw [pcells_len]; omega)
            obtain ⟨b4, off4, rfl, hb4, hc4⟩ := (HV2.out.ext HXJ.out).at_ (by rw [pcells_len]; omega)
            have v0 := (hc3 j (by rw [pcells_len]; omega)).trans (pcells_at vp j hjl)
            have u0 := (hc4 j (by rw [pcells_len]; omega)).trans (pcells_at vp2 j hjl2)
            have hsh := HE1.out _ (List.getElem_mem hjl)
            have hsh2 := HE2.out _ (List.getElem_mem hjl2)
            have hbg := HF3.out _ (List.getElem_mem hjl)
            have hee : vp[j].2 = vp2[j].2 := by
              have := congrArg (fun x => x[j]?) HVP.out
              simpa [hjl, hjl2] using this
            clear hc3 hc4
            generalize vp[j] = pv at *
            generalize vp2[j] = pw at *
            obtain ⟨⟨pa, pn, pc⟩, ts⟩ := pv
            obtain ⟨⟨pa2, pn2, pc2⟩, ts2⟩ := pw
            obtain ⟨r1, r2, r3⟩ := hsh
            obtain ⟨s1, s2, s3⟩ := hsh2
            simp only [hd] at r1 r3 s1 s3 v0 u0 hbg hee
            subst hee
            subst r1 s1
            have HR3 := Lib.hid r3
            have HS3 := Lib.hid s3
            clear r2 r3 s2 s3
            go_upto_region 12 with fail
            apply wp_region_ext (by kernel_rfl) (by kernel_rfl) (by kernel_rfl)
            apply step_det (.pointer (some ⟨gx, 12, none⟩)) rfl rfl rfl
            · intro w' hw' hH
              clear hH
              simp [YieldsF, go_sem, q3, q4]
              exact Ext.refl _
            apply step_det (.slice (some ⟨b3, off3, none⟩) vp.length vc) rfl rfl rfl
            · intro w' hw' hH
              clear hH
              have z0 := (hw'.cell (p := ⟨gx, 12, none⟩) HLX.out.1).trans x12
              simp [YieldsF, go_sem, z0, q3, q4]
              exact Ext.refl _
            apply step_det (.int .i64 (j : Int)) rfl rfl rfl
            · intro w' hw' hH
              clear hH
              simp [YieldsF, go_sem, q3, q4]
              exact Ext.refl _
            apply step_det (.pointer (some ⟨b3, off3 + j, none⟩)) rfl rfl rfl
            · intro w' hw' hH
              clear hH
              simp [YieldsF, go_sem, q3, q4]
              exact Ext.refl _
            apply step_det (.slice pa ts.length pc) rfl rfl rfl
            · intro w' hw' hH
              clear hH
              have z0 := (hw'.cell (p := ⟨b3, off3 + j, none⟩) hb3).trans v0
              simp [YieldsF, go_sem, z0, q3, q4]
              exact Ext.refl _
            apply step_det (.pointer (some ⟨gy, 12, none⟩)) rfl rfl rfl
            · intro w' hw' hH
              clear hH
              simp [YieldsF, go_sem, q3, q4]
              exact Ext.refl _
            apply step_det (.slice (some ⟨b4, off4, none⟩) vp2.length vc2) rfl rfl rfl
            · intro w' hw' hH
              clear hH
              have z0 := (hw'.cell (p := ⟨gy, 12, none⟩) HLX.out.2).trans y12
              simp [YieldsF, go_sem, z0, q3, q4]
              exact Ext.refl _
            apply step_det (.int .i64 (j : Int)) rfl rfl rfl
            · intro w' hw' hH
              clear hH
              simp [YieldsF, go_sem, q3, q4]
              exact Ext.refl _
            apply step_det (.pointer (some ⟨b4, off4 + j, none⟩)) rfl rfl rfl
            · intro w' hw' hH
              clear hH
              simp [YieldsF, go_sem, q3, q4]
              exact Ext.refl _
            apply step_det (.slice pa2 ts.length pc2) rfl rfl rfl
            · intro w' hw' hH
              clear hH
              have z0 := (hw'.cell (p := ⟨b4, off4 + j, none⟩) hb4).trans u0
              simp [YieldsF, go_sem, z0, q3, q4]
              exact Ext.refl _
            apply step_det (.bool true) rfl rfl rfl
            · intro w' hw' hH
              clear hH
              simp [YieldsF, go_sem]
              refine (sameTerms_yes pa pa2 ts _ _ pc pc2 w' rfl rfl hbg (HR3.out.ext (HXJ.out.trans hw')) (HS3.out.ext (HXJ.out.trans hw'))).mono ?_
              rintro e w6 ⟨rfl, hx⟩
              exact ⟨_, rfl, rfl, hx⟩
            apply step_det (.bool false) rfl rfl rfl
            · intro w' hw' hH
              clear hH
              simp [YieldsF, go_sem, q3, q4]
              exact Ext.refl _
            apply WalkF_nil
            intro w7 hw7 hH
            clear hH
            have HX7 : Hid (Ext w4 w7) := Lib.hid (HX5.out.trans hw7)
            clear hw7 x12 y12 v0 u0
            try simp only [Act.put, List.setIfInBounds_toArray, List.set_cons_zero, List.set_cons_succ]
            go_wp2_with fail
            go_roundw
            case rel => exact ⟨j + 1, by omega, by go_num, HX7⟩
            case measure => simp [intOf]; omega
          · obtain rfl : j = vp.length := by omega
            have d1 : decide ((vp.length : Int) < (vp.length : Int)) = false := by simp
            have HX8 : Hid (Ext w w5) := Lib.hid (HXW.out.trans HX5.out)
            go_wp2_with fail
            go_roundw
            case rel => exact ⟨k + 1, by omega, by go_num, HX8⟩
            case measure => simp [intOf]; omega
    · obtain rfl : k = l.length := by omega
      have d0 : decide ((l.length : Int) < (l.length : Int)) = false := by simp
      go_wp2_with fail
      go_ret
      exact ⟨rfl, HX.out⟩
end Go.Proofs.Ytngbpaiohfokbaa
