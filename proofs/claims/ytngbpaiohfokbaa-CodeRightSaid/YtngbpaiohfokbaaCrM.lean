/- code.Same$2, walked: whether two instructions tell the same, but for their nodes. -/
import Derived.Test.YtngbpaiohfokbaaFull
import Derived.Test.YtngbpaiohfokbaaCrL
namespace Go.Proofs.Ytngbpaiohfokbaa
open Go Go.RowKit
set_option linter.unusedVariables false
set_option linter.unusedSimpArgs false
def samePl (f g : FullI) : Bool := ((f.x.op == g.x.op) && ((f.x.mode == g.x.mode) && ((f.x.table == g.x.table) && ((f.x.row == g.x.row) && ((f.x.col == g.x.col) && ((f.x.var == g.x.var) && ((f.x.goes == g.x.goes) && ((f.x.eq == g.x.eq) && ((f.x.frm == g.x.frm) && ((f.x.upto == g.x.upto) && decide (f.kt = g.kt)))))))))))
def sameP (f g : FullI) : Bool := samePl f g && decide (f.vp.map Prod.snd = g.vp.map Prod.snd)
theorem Blk.newAtM {w : World} {o : Obj} {t : TypeId} {cs : Array Value} {g : Nat} (hg : (w.alloc o).heap.size = g) : Blk ((w.alloc o).alloc (.cells cs t)) g t cs := by subst hg; exact Blk.new _ _ _
set_option maxRecDepth 100000 in
set_option maxHeartbeats 32000000 in
theorem sameD_any (f g : FullI) (w : World) (gb : Nat) (hf : f.At w) (hg : g.At w) (hft : f.fits) (hl : f.vp.length ≤ 900) (hl2 : ∀ p ∈ f.vp, p.2.length ≤ 900) (hgl : gb < w.heap.size) (hgb : w.cell? ⟨gb, 0, none⟩ = some (.func (.func 36) #[] #[])) :
    Calls Try.prog 39 #[.agg #[.int .u8 f.x.op, .int .i64 f.x.node, .int .u8 f.x.mode, .int .i64 f.x.table, .bool f.x.row, .int .i64 f.x.col, .int .i64 f.x.var, .int .i64 f.x.goes, .bool f.x.eq, .int .i64 f.x.frm, .int .i64 f.x.upto, .slice f.x.key.1 f.x.key.2.1 f.x.key.2.2, .slice f.x.vals.1 f.x.vals.2.1 f.x.vals.2.2], .agg #[.int .u8 g.x.op, .int .i64 g.x.node, .int .u8 g.x.mode, .int .i64 g.x.table, .bool g.x.row, .int .i64 g.x.col, .int .i64 g.x.var, .int .i64 g.x.goes, .bool g.x.eq, .int .i64 g.x.frm, .int .i64 g.x.upto, .slice g.x.key.1 g.x.key.2.1 g.x.key.2.2, .slice g.x.vals.1 g.x.vals.2.1 g.x.vals.2.2], .pointer (some ⟨gb, 0, none⟩)] w fun e w' => e = .returned (.bool (sameP f g)) ∧ Ext w w' := by
  obtain ⟨bb, HO⟩ : ∃ bb, Hid (sameP f g = bb) := ⟨_, Lib.hid rfl⟩
  rw [HO.out]
  obtain ⟨⟨op, node, mode, table, row, col, var, goes, eq, frm, upto, ⟨ka, kl, kc⟩, ⟨va, vl, vc⟩⟩, kt, vp⟩ := f
  obtain ⟨⟨op2, node2, mode2, table2, row2, col2, var2, goes2, eq2, frm2, upto2, ⟨ka2, kl2, kc2⟩, ⟨va2, vl2, vc2⟩⟩, kt2, vp2⟩ := g
  obtain ⟨⟨hs1, hs2, hs3⟩, hv1, hv2, hv3, hv4⟩ := hf
  obtain ⟨⟨ks1, ks2, ks3⟩, kv1, kv2, kv3, kv4⟩ := hg
  simp only at hs1 hv1 ks1 kv1 hs3 hv3 ks3 kv3 hv4 kv4
  subst hs1 hv1 ks1 kv1
  have hf1 := hft.1
  simp only at hf1 hl hl2
  dsimp only [FullI.x]
  unfold sameP samePl at HO
  dsimp only at HO
  have HK1 := Lib.hid hs3
  have HK2 := Lib.hid ks3
  have HV1 := Lib.hid hv3
  have HV2 := Lib.hid kv3
  have HE1 := Lib.hid hv4
  have HE2 := Lib.hid kv4
  have HF1 := Lib.hid hf1
  have HL := Lib.hid hl
  have HL2 := Lib.hid hl2
  have HGB := Lib.hid hgb
  clear hs3 ks3 hv3 kv3 hv4 kv4 hf1 hft hl hl2 hs2 ks2 hv2 kv2 hgb
  have HX : Hid (Ext w ((w.alloc (.cells #[.int .u8 op, .int .i64 node, .int .u8 mode, .int .i64 table, .bool row, .int .i64 col, .int .i64 var, .int .i64 goes, .bool eq, .int .i64 frm, .int .i64 upto, .slice ka kt.length kc, .slice va vp.length vc] 49)).alloc (.cells #[.int .u8 op2, .int .i64 node2, .int .u8 mode2, .int .i64 table2, .bool row2, .int .i64 col2, .int .i64 var2, .int .i64 goes2, .bool eq2, .int .i64 frm2, .int .i64 upto2, .slice ka2 kt2.length kc2, .slice va2 vp2.length vc2] 49))) := Lib.hid ((Ext.alloc _ _).trans (Ext.alloc _ _))
  have HB : Hid (Blk ((w.alloc (.cells #[.int .u8 op, .int .i64 node, .int .u8 mode, .int .i64 table, .bool row, .int .i64 col, .int .i64 var, .int .i64 goes, .bool eq, .int .i64 frm, .int .i64 upto, .slice ka kt.length kc, .slice va vp.length vc] 49)).alloc (.cells #[.int .u8 op2, .int .i64 node2, .int .u8 mode2, .int .i64 table2, .bool row2, .int .i64 col2, .int .i64 var2, .int .i64 goes2, .bool eq2, .int .i64 frm2, .int .i64 upto2, .slice ka2 kt2.length kc2, .slice va2 vp2.length vc2] 49)) w.heap.size 49 #[.int .u8 op, .int .i64 node, .int .u8 mode, .int .i64 table, .bool row, .int .i64 col, .int .i64 var, .int .i64 goes, .bool eq, .int .i64 frm, .int .i64 upto, .slice ka kt.length kc, .slice va vp.length vc]) := Lib.hid ((Blk.new _ _ _).alloc _)
  have HC : Hid (Blk ((w.alloc (.cells #[.int .u8 op, .int .i64 node, .int .u8 mode, .int .i64 table, .bool row, .int .i64 col, .int .i64 var, .int .i64 goes, .bool eq, .int .i64 frm, .int .i64 upto, .slice ka kt.length kc, .slice va vp.length vc] 49)).alloc (.cells #[.int .u8 op2, .int .i64 node2, .int .u8 mode2, .int .i64 table2, .bool row2, .int .i64 col2, .int .i64 var2, .int .i64 goes2, .bool eq2, .int .i64 frm2, .int .i64 upto2, .slice ka2 kt2.length kc2, .slice va2 vp2.length vc2] 49)) (w.heap.size + 1) 49 #[.int .u8 op2, .int .i64 node2, .int .u8 mode2, .int .i64 table2, .bool row2, .int .i64 col2, .int .i64 var2, .int .i64 goes2, .bool eq2, .int .i64 frm2, .int .i64 upto2, .slice ka2 kt2.length kc2, .slice va2 vp2.length vc2]) := Lib.hid (Blk.newAtM (by simp))
  go_enter Try.func39, Try.ntmps39
  go_upto_region 1 with fail
  try simp only [size_alloc]
  have HZ := Lib.hid ((HX.out.cell (p := ⟨gb, 0, none⟩) hgl).trans HGB.out)
  have HZL := Lib.hid (Nat.lt_of_lt_of_le hgl HX.out.size)
  have HE : Hid (∀ args w, (callFunc 36 args).run Try.prog w = .ok (.enter 36 args) w) := Lib.hid (enters_of Try.func36 (by kernel_rfl) rfl)
  clear HGB hgl
  have HK1' := Lib.hid (HK1.out.ext HX.out)
  have HK2' := Lib.hid (HK2.out.ext HX.out)
  clear HK1 HK2
  generalize hga : w.heap.size = ga at HB HC ⊢
  clear hga
  generalize ((w.alloc (.cells #[.int .u8 op, .int .i64 node, .int .u8 mode, .int .i64 table, .bool row, .int .i64 col, .int .i64 var, .int .i64 goes, .bool eq, .int .i64 frm, .int .i64 upto, .slice ka kt.length kc, .slice va vp.length vc] 49)).alloc (.cells #[.int .u8 op2, .int .i64 node2, .int .u8 mode2, .int .i64 table2, .bool row2, .int .i64 col2, .int .i64 var2, .int .i64 goes2, .bool eq2, .int .i64 frm2, .int .i64 upto2, .slice ka2 kt2.length kc2, .slice va2 vp2.length vc2] 49)) = w3 at *
  have x0 : w3.cell? ⟨ga, 0, none⟩ = some (.int .u8 op) := HB.out.cell 0
  have y0 : w3.cell? ⟨ga + 1, 0, none⟩ = some (.int .u8 op2) := HC.out.cell 0
  by_cases hop : op = op2
  rotate_left
  · have n0 : (op == op2) = false := beq_eq_false_iff_ne.2 hop
    have HBF : Hid (bb = false) := Lib.hid (by rw [← HO.out, n0]; simp)
    clear hop HO HB HC HK1' HK2' HV1 HV2 HE1 HE2 HF1 HL HL2 HZ HZL HE
    go_wp2_with fail
    go_ret
    rw [HBF.out]
    exact ⟨rfl, HX.out⟩
  subst hop
  have x2 : w3.cell? ⟨ga, 2, none⟩ = some (.int .u8 mode) := HB.out.cell 2
  have y2 : w3.cell? ⟨ga + 1, 2, none⟩ = some (.int .u8 mode2) := HC.out.cell 2
  by_cases hmode : mode = mode2
  rotate_left
  · have n0 : (mode == mode2) = false := beq_eq_false_iff_ne.2 hmode
    have HBF : Hid (bb = false) := Lib.hid (by rw [← HO.out, n0]; simp)
    clear hmode HO HB HC HK1' HK2' HV1 HV2 HE1 HE2 HF1 HL HL2 HZ HZL HE
    go_wp2_with fail
    go_ret
    rw [HBF.out]
    exact ⟨rfl, HX.out⟩
  subst hmode
  have x3 : w3.cell? ⟨ga, 3, none⟩ = some (.int .i64 table) := HB.out.cell 3
  have y3 : w3.cell? ⟨ga + 1, 3, none⟩ = some (.int .i64 table2) := HC.out.cell 3
  by_cases htable : table = table2
  rotate_left
  · have n0 : (table == table2) = false := beq_eq_false_iff_ne.2 htable
    have HBF : Hid (bb = false) := Lib.hid (by rw [← HO.out, n0]; simp)
    clear htable HO HB HC HK1' HK2' HV1 HV2 HE1 HE2 HF1 HL HL2 HZ HZL HE
    go_wp2_with fail
    go_ret
    rw [HBF.out]
    exact ⟨rfl, HX.out⟩
  subst htable
  have x4 : w3.cell? ⟨ga, 4, none⟩ = some (.bool row) := HB.out.cell 4
  have y4 : w3.cell? ⟨ga + 1, 4, none⟩ = some (.bool row2) := HC.out.cell 4
  by_cases hrow : row = row2
  rotate_left
  · have n0 : (row == row2) = false := beq_eq_false_iff_ne.2 hrow
    have HBF : Hid (bb = false) := Lib.hid (by rw [← HO.out, n0]; simp)
    clear hrow HO HB HC HK1' HK2' HV1 HV2 HE1 HE2 HF1 HL HL2 HZ HZL HE
    go_wp2_with fail
    go_ret
    rw [HBF.out]
    exact ⟨rfl, HX.out⟩
  subst hrow
  have x5 : w3.cell? ⟨ga, 5, none⟩ = some (.int .i64 col) := HB.out.cell 5
  have y5 : w3.cell? ⟨ga + 1, 5, none⟩ = some (.int .i64 col2) := HC.out.cell 5
  by_cases hcol : col = col2
  rotate_left
  · have n0 : (col == col2) = false := beq_eq_false_iff_ne.2 hcol
    have HBF : Hid (bb = false) := Lib.hid (by rw [← HO.out, n0]; simp)
    clear hcol HO HB HC HK1' HK2' HV1 HV2 HE1 HE2 HF1 HL HL2 HZ HZL HE
    go_wp2_with fail
    go_ret
    rw [HBF.out]
    exact ⟨rfl, HX.out⟩
  subst hcol
  have x6 : w3.cell? ⟨ga, 6, none⟩ = some (.int .i64 var) := HB.out.cell 6
  have y6 : w3.cell? ⟨ga + 1, 6, none⟩ = some (.int .i64 var2) := HC.out.cell 6
  by_cases hvar : var = var2
  rotate_left
  · have n0 : (var == var2) = false := beq_eq_false_iff_ne.2 hvar
    have HBF : Hid (bb = false) := Lib.hid (by rw [← HO.out, n0]; simp)
    clear hvar HO HB HC HK1' HK2' HV1 HV2 HE1 HE2 HF1 HL HL2 HZ HZL HE
    go_wp2_with fail
    go_ret
    rw [HBF.out]
    exact ⟨rfl, HX.out⟩
  subst hvar
  have x7 : w3.cell? ⟨ga, 7, none⟩ = some (.int .i64 goes) := HB.out.cell 7
  have y7 : w3.cell? ⟨ga + 1, 7, none⟩ = some (.int .i64 goes2) := HC.out.cell 7
  by_cases hgoes : goes = goes2
  rotate_left
  · have n0 : (goes == goes2) = false := beq_eq_false_iff_ne.2 hgoes
    have HBF : Hid (bb = false) := Lib.hid (by rw [← HO.out, n0]; simp)
    clear hgoes HO HB HC HK1' HK2' HV1 HV2 HE1 HE2 HF1 HL HL2 HZ HZL HE
    go_wp2_with fail
    go_ret
    rw [HBF.out]
    exact ⟨rfl, HX.out⟩
  subst hgoes
  have x8 : w3.cell? ⟨ga, 8, none⟩ = some (.bool eq) := HB.out.cell 8
  have y8 : w3.cell? ⟨ga + 1, 8, none⟩ = some (.bool eq2) := HC.out.cell 8
  by_cases heq : eq = eq2
  rotate_left
  · have n0 : (eq == eq2) = false := beq_eq_false_iff_ne.2 heq
    have HBF : Hid (bb = false) := Lib.hid (by rw [← HO.out, n0]; simp)
    clear heq HO HB HC HK1' HK2' HV1 HV2 HE1 HE2 HF1 HL HL2 HZ HZL HE
    go_wp2_with fail
    go_ret
    rw [HBF.out]
    exact ⟨rfl, HX.out⟩
  subst heq
  have x9 : w3.cell? ⟨ga, 9, none⟩ = some (.int .i64 frm) := HB.out.cell 9
  have y9 : w3.cell? ⟨ga + 1, 9, none⟩ = some (.int .i64 frm2) := HC.out.cell 9
  by_cases hfrm : frm = frm2
  rotate_left
  · have n0 : (frm == frm2) = false := beq_eq_false_iff_ne.2 hfrm
    have HBF : Hid (bb = false) := Lib.hid (by rw [← HO.out, n0]; simp)
    clear hfrm HO HB HC HK1' HK2' HV1 HV2 HE1 HE2 HF1 HL HL2 HZ HZL HE
    go_wp2_with fail
    go_ret
    rw [HBF.out]
    exact ⟨rfl, HX.out⟩
  subst hfrm
  have x10 : w3.cell? ⟨ga, 10, none⟩ = some (.int .i64 upto) := HB.out.cell 10
  have y10 : w3.cell? ⟨ga + 1, 10, none⟩ = some (.int .i64 upto2) := HC.out.cell 10
  by_cases hupto : upto = upto2
  rotate_left
  · have n0 : (upto == upto2) = false := beq_eq_false_iff_ne.2 hupto
    have HBF : Hid (bb = false) := Lib.hid (by rw [← HO.out, n0]; simp)
    clear hupto HO HB HC HK1' HK2' HV1 HV2 HE1 HE2 HF1 HL HL2 HZ HZL HE
    go_wp2_with fail
    go_ret
    rw [HBF.out]
    exact ⟨rfl, HX.out⟩
  subst hupto
  have x11 : w3.cell? ⟨ga, 11, none⟩ = some (.slice ka kt.length kc) := HB.out.cell 11
  have y11 : w3.cell? ⟨ga + 1, 11, none⟩ = some (.slice ka2 kt2.length kc2) := HC.out.cell 11
  have z0 := HZ.out
  have he := HE.out
  by_cases hkt : kt = kt2
  rotate_left
  · have HBF : Hid (bb = false) := Lib.hid (by rw [← HO.out, decide_eq_false hkt]; simp)
    have HDF := Lib.hid (decide_eq_false hkt)
    clear hkt HO HB HC HV1 HV2 HE1 HE2 HL HL2 HZ HZL HE
    go_wp2_with fail
    refine (sameC_any ka ka2 kt kt2 _ _ kc kc2 w3 rfl rfl HF1.out HK1'.out HK2'.out false HDF).mono ?_
    rintro e w4 ⟨rfl, hx4⟩
    have HX4 := Lib.hid (HX.out.trans hx4)
    clear hx4 HDF HF1 HK1' HK2' he
    go_wp2_with fail
    go_ret
    rw [HBF.out]
    exact ⟨rfl, HX4.out⟩
  subst hkt
  have HOV : Hid (decide (vp.map Prod.snd = vp2.map Prod.snd) = bb) := Lib.hid (by rw [← HO.out]; simp)
  clear HO
  go_wp2_with fail
  refine (sameC_any ka ka2 kt kt _ _ kc kc2 w3 rfl rfl HF1.out HK1'.out HK2'.out true (Lib.hid (decide_eq_true rfl))).mono ?_
  rintro e w4 ⟨rfl, hx4⟩
  have HX4 := Lib.hid (HX.out.trans hx4)
  have HD0 := Lib.hid (HB.out.ext hx4)
  have HD1 := Lib.hid (HC.out.ext hx4)
  have HZ4 := Lib.hid ((hx4.cell (p := ⟨gb, 0, none⟩) HZL.out).trans HZ.out)
  clear hx4 HB HC HX z0 HZ HZL HK1' HK2' HF1 x0 y0 x2 y2 x3 y3 x4 y4 x5 y5 x6 y6 x7 y7 x8 y8 x9 y9 x10 y10 x11 y11
  have x12 : w4.cell? ⟨ga, 12, none⟩ = some (.slice va vp.length vc) := HD0.out.cell 12
  have y12 : w4.cell? ⟨ga + 1, 12, none⟩ = some (.slice va2 vp2.length vc2) := HD1.out.cell 12
  have z4 := HZ4.out
  clear HD0 HD1
  go_wp2_with fail
  refine (eqFn_any w4 va va2 vp vp2 vc vc2 HL.out (HV1.out.ext HX4.out) (HV2.out.ext HX4.out) (fun p hp => (HE1.out p hp).ext HX4.out) (fun p hp => (HE2.out p hp).ext HX4.out) HL2.out bb HOV).mono ?_
  rintro e w5 ⟨rfl, hx5⟩
  have HX5 := Lib.hid (HX4.out.trans hx5)
  clear hx5 x12 y12 z4 HV1 HV2 HE1 HE2 HL HL2 HOV he HE HZ4
  go_wp2_with fail
  go_ret
  exact ⟨rfl, HX5.out⟩
end Go.Proofs.Ytngbpaiohfokbaa
