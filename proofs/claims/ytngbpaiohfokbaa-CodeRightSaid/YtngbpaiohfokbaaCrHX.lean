/- interlockref08.Same, walked, of any two rows of instructions. Condition: they lie in memory. -/
import Derived.Test.YtngbpaiohfokbaaCrHS
import Derived.Test.YtngbpaiohfokbaaSameTG
import Derived.RegionTactic
import Derived.Deep.CutRange

namespace Go.Proofs.Ytngbpaiohfokbaa
open Go Go.RowKit
set_option linter.unusedVariables false
set_option linter.unusedSimpArgs false
structure CutB (T : Prop) : Type where
  out : T
set_option maxRecDepth 100000 in
set_option maxHeartbeats 32000000 in
def rsame_anyX : Σ' (T1 T2 T3 T4 T5 T6 T7 T8 T9 T10 T11 : Prop), CutB T1 → CutB T2 → CutB T3 → CutB T4 → CutB T5 → CutB T6 → CutB T7 → CutB T8 → CutB T9 → CutB T10 → CutB T11 → (∀ (A B : Option Addr) (l m : List FullI) (n n2 c d : Nat) (w : World) (hn : n = l.length) (hm : n2 = m.length) (hlen : l.length ≤ 1000) (hA : Row w A l) (hB : Row w B m) (hf : ∀ f ∈ l, f.fits), Calls Try.prog 12 #[.slice A n c, .slice B n2 d] w fun e w' => e = .returned (.bool (sameR l m)) ∧ Ext w w') := ⟨_, _, _, _, _, _, _, _, _, _, _, by
  intro hCut1 hCut2 hCut3 hCut4 hCut5 hCut6 hCut7 hCut8 hCut9 hCut10 hCut11 A B l m n n2 c d w hn hm hlen hA hB hf
  subst hn hm
  obtain ⟨bb, HO⟩ : ∃ bb, Hid (sameR l m = bb) := ⟨_, Lib.hid rfl⟩
  rw [HO.out]
  by_cases hlw : l.length = m.length
  rotate_left
  · have e0 : ((l.length : Int) == (m.length : Int)) = false := beq_eq_false_iff_ne.2 (by omega)
    have e1 : ((l.length : Int) != (m.length : Int)) = true := bne_iff_ne.2 (by omega)
    have e2 : (l.length == m.length) = false := beq_eq_false_iff_ne.2 hlw
    have HF : Hid (bb = false) := Lib.hid (HO.out.symm.trans (sameR_len hlw))
    clear hA hB hf hlw HO
    generalize l.length = n at *
    generalize m.length = n2 at *
    go_enter Try.func12, Try.ntmps12
    go_wp2_with fail
    go_ret
    rw [HF.out]
    exact ⟨rfl, Ext.refl _⟩
  have HA := Lib.hid hA
  have HB := Lib.hid hB
  have HFA := Lib.hid hf
  clear hA hB hf
  have e0 : ((l.length : Int) == (m.length : Int)) = true := by rw [hlw]; simp
  have e1 : ((l.length : Int) != (m.length : Int)) = false := by rw [hlw]; simp
  have HLW := Lib.hid hlw
  clear hlw
  go_enter Try.func12, Try.ntmps12
  go_wp2_with fail
  go_loopw [5] (fun i wr => ∃ k : Nat, k ≤ l.length ∧ i = .int .i64 k ∧ Hid (Ext w wr) ∧ Hid (∀ j (h1 : j < l.length) (h2 : j < m.length), j < k → sameI l[j] m[j] = true)) (fun i _ => l.length - (intOf i).toNat)
  case atStart => exact ⟨0, Nat.zero_le _, rfl, Lib.hid (Ext.refl _), Lib.hid fun j h1 h2 h => by omega⟩
  case round =>
    obtain ⟨k, hk, rfl, HX, HJ⟩ := hrel
    obtain ⟨wa, rfl⟩ : ∃ wa : World, wa = wr := ⟨_, rfl⟩
    by_cases hlt : k < l.length
    rotate_left
    · obtain rfl : k = l.length := by omega
      have d0 : decide ((l.length : Int) < (l.length : Int)) = false := by simp
      have d1 : decide (l.length < l.length) = false := by simp
      have HBT : Hid (bb = true) := Lib.hid (by rw [← HO.out]; exact sameR_yes HLW.out fun j h1 h2 => HJ.out j h1 h2 h1)
      go_wp2_with fail
      go_ret
      rw [HBT.out]
      exact ⟨rfl, HX.out⟩
    have d0 : decide ((k : Int) < (l.length : Int)) = true := decide_eq_true (by omega)
    have hlt2 : k < m.length := by have := HLW.out; omega
    have q0 : (k : Int) < (l.length : Int) := by omega
    have q1 : (k : Int) < (m.length : Int) := by omega
    have HA1 := Lib.hid (HA.out.ext HX.out)
    have HB1 := Lib.hid (HB.out.ext HX.out)
    obtain ⟨b1, off1, rfl, hb1, hcc⟩ := HA1.out.1.at_ (by rw [fcells_len]; omega)
    obtain ⟨b2, off2, rfl, hb2, hcc2⟩ := HB1.out.1.at_ (by rw [fcells_len]; omega)
    have hx : ∀ j, j < 13 → wa.cell? ⟨b1, off1 + k * 13 + j, none⟩ = (l[k].x.cells)[j]? := fun j hj => by
      rw [Nat.add_assoc, hcc _ (by rw [fcells_len]; omega)]
      exact fcells_at l k j hlt hj
    have hy : ∀ j, j < 13 → wa.cell? ⟨b2, off2 + k * 13 + j, none⟩ = (m[k].x.cells)[j]? := fun j hj => by
      rw [Nat.add_assoc, hcc2 _ (by rw [fcells_len]; omega)]
      exact fcells_at m k j hlt2 hj
    have hat := HA1.out.2 _ (List.getElem_mem hlt)
    have hat2 := HB1.out.2 _ (List.getElem_mem hlt2)
    have hft := HFA.out _ (List.getElem_mem hlt)
    have HNO : Hid (sameI l[k] m[k] = false → bb = false) := Lib.hid fun h => by rw [← HO.out]; exact sameR_no k hlt hlt2 h
    have HYS : Hid (sameI l[k] m[k] = true → ∀ j (h1 : j < l.length) (h2 : j < m.length), j < k + 1 → sameI l[j] m[j] = true) := Lib.hid fun h j h1 h2 hj => by
      by_cases e : j = k
      · subst e; exact h
      · exact HJ.out j h1 h2 (by omega)
    clear hcc hcc2
    generalize l[k] = f at *
    generalize m[k] = g at *
    unfold sameI at HNO HYS
    obtain ⟨E, HE⟩ : ∃ E, Hid (sameFl f g = E) := ⟨_, Lib.hid rfl⟩
    rw [HE.out] at HNO HYS
    unfold sameFl at HE
    obtain ⟨⟨op, node, mode, table, row, col, var, goes, eq, frm, upto, ⟨ka, kl, kc⟩, ⟨va, vl, vc⟩⟩, kt, vp⟩ := f
    obtain ⟨⟨op2, node2, mode2, table2, row2, col2, var2, goes2, eq2, frm2, upto2, ⟨ka2, kl2, kc2⟩, ⟨va2, vl2, vc2⟩⟩, kt2, vp2⟩ := g
    obtain ⟨⟨hs1, hs2, hs3⟩, hv1, hv2, hv3, hv4⟩ := hat
    obtain ⟨⟨ks1, ks2, ks3⟩, kv1, kv2, kv3, kv4⟩ := hat2
    simp only at hs1 hv1 ks1 kv1 hs3 hv3 ks3 kv3 hv4 kv4
    subst hs1 hv1 ks1 kv1
    obtain ⟨hf1, hf2, hf3⟩ := hft
    simp only at hf1 hf2 hf3
    dsimp only at HNO HYS HE
    have HK1 := Lib.hid hs3
    have HK2 := Lib.hid ks3
    have HV1 := Lib.hid hv3
    have HV2 := Lib.hid kv3
    have HE1 := Lib.hid hv4
    have HE2 := Lib.hid kv4
    have HF1 := Lib.hid hf1
    have HF3 := Lib.hid hf3
    have HXC := Lib.hid hx
    have HYC := Lib.hid hy
    clear hs3 ks3 hv3 kv3 hv4 kv4 hf1 hf3 hs2 ks2 hv2 kv2 hx hy
    go_upto_region 6 with fail
    have x0 : wa.cell? ⟨b1, off1 + k * 13, none⟩ = some (.int .u8 op) := HXC.out 0 (by omega)
    have y0 : wa.cell? ⟨b2, off2 + k * 13, none⟩ = some (.int .u8 op2) := HYC.out 0 (by omega)
    have x1 : wa.cell? ⟨b1, off1 + k * 13 + 1, none⟩ = some (.int .i64 node) := HXC.out 1 (by omega)
    have y1 : wa.cell? ⟨b2, off2 + k * 13 + 1, none⟩ = some (.int .i64 node2) := HYC.out 1 (by omega)
    have x2 : wa.cell? ⟨b1, off1 + k * 13 + 2, none⟩ = some (.int .u8 mode) := HXC.out 2 (by omega)
    have y2 : wa.cell? ⟨b2, off2 + k * 13 + 2, none⟩ = some (.int .u8 mode2) := HYC.out 2 (by omega)
    have x3 : wa.cell? ⟨b1, off1 + k * 13 + 3, none⟩ = some (.int .i64 table) := HXC.out 3 (by omega)
    have y3 : wa.cell? ⟨b2, off2 + k * 13 + 3, none⟩ = some (.int .i64 table2) := HYC.out 3 (by omega)
    have x4 : wa.cell? ⟨b1, off1 + k * 13 + 4, none⟩ = some (.bool row) := HXC.out 4 (by omega)
    have y4 : wa.cell? ⟨b2, off2 + k * 13 + 4, none⟩ = some (.bool row2) := HYC.out 4 (by omega)
    have x5 : wa.cell? ⟨b1, off1 + k * 13 + 5, none⟩ = some (.int .i64 col) := HXC.out 5 (by omega)
    have y5 : wa.cell? ⟨b2, off2 + k * 13 + 5, none⟩ = some (.int .i64 col2) := HYC.out 5 (by omega)
    have x6 : wa.cell? ⟨b1, off1 + k * 13 + 6, none⟩ = some (.int .i64 var) := HXC.out 6 (by omega)
    have y6 : wa.cell? ⟨b2, off2 + k * 13 + 6, none⟩ = some (.int .i64 var2) := HYC.out 6 (by omega)
    have x7 : wa.cell? ⟨b1, off1 + k * 13 + 7, none⟩ = some (.int .i64 goes) := HXC.out 7 (by omega)
    have y7 : wa.cell? ⟨b2, off2 + k * 13 + 7, none⟩ = some (.int .i64 goes2) := HYC.out 7 (by omega)
    have x8 : wa.cell? ⟨b1, off1 + k * 13 + 8, none⟩ = some (.bool eq) := HXC.out 8 (by omega)
    have y8 : wa.cell? ⟨b2, off2 + k * 13 + 8, none⟩ = some (.bool eq2) := HYC.out 8 (by omega)
    have x9 : wa.cell? ⟨b1, off1 + k * 13 + 9, none⟩ = some (.int .i64 frm) := HXC.out 9 (by omega)
    have y9 : wa.cell? ⟨b2, off2 + k * 13 + 9, none⟩ = some (.int .i64 frm2) := HYC.out 9 (by omega)
    have x10 : wa.cell? ⟨b1, off1 + k * 13 + 10, none⟩ = some (.int .i64 upto) := HXC.out 10 (by omega)
    have y10 : wa.cell? ⟨b2, off2 + k * 13 + 10, none⟩ = some (.int .i64 upto2) := HYC.out 10 (by omega)
    have x11 : wa.cell? ⟨b1, off1 + k * 13 + 11, none⟩ = some (.slice ka kt.length kc) := HXC.out 11 (by omega)
    have y11 : wa.cell? ⟨b2, off2 + k * 13 + 11, none⟩ = some (.slice ka2 kt2.length kc2) := HYC.out 11 (by omega)
    have x12 : wa.cell? ⟨b1, off1 + k * 13 + 12, none⟩ = some (.slice va vp.length vc) := HXC.out 12 (by omega)
    have y12 : wa.cell? ⟨b2, off2 + k * 13 + 12, none⟩ = some (.slice va2 vp2.length vc2) := HYC.out 12 (by omega)
    go_cut [6, 7] from 20 to 27 (fun sa sb wx => ∃ gx gy, sa = .pointer (some ⟨gx, 0, none⟩) ∧ sb = .pointer (some ⟨gy, 0, none⟩) ∧ Hid (Blk wx gx 54 #[.int .u8 op, .int .i64 node, .int .u8 mode, .int .i64 table, .bool row, .int .i64 col, .int .i64 var, .int .i64 goes, .bool eq, .int .i64 frm, .int .i64 upto, .slice ka kt.length kc, .slice va vp.length vc]) ∧ Hid (Blk wx gy 54 #[.int .u8 op2, .int .i64 node2, .int .u8 mode2, .int .i64 table2, .bool row2, .int .i64 col2, .int .i64 var2, .int .i64 goes2, .bool eq2, .int .i64 frm2, .int .i64 upto2, .slice ka2 kt2.length kc2, .slice va2 vp2.length vc2]) ∧ Hid (Ext wa wx))
    case first =>
      clear HNO HYS HE
      go_region
      all_goals
        go_wp2_with fail
        go_meet
        refine ⟨_, _, rfl, rfl, ?_, ?_, ?_⟩
        · first | exact Lib.hid (((Blk.new _ _ _).alloc _).ext (Below.drew (Below.refl _ _))) | exact Lib.hid ((Blk.newAtH (by simp)).ext (Below.drew (Below.refl _ _)))
        · first | exact Lib.hid (((Blk.new _ _ _).alloc _).ext (Below.drew (Below.refl _ _))) | exact Lib.hid ((Blk.newAtH (by simp)).ext (Below.drew (Below.refl _ _)))
        · exact Lib.hid (Below.drew ((Ext.alloc _ _).trans (Ext.alloc _ _)))
    case rest =>
    obtain ⟨gx, gy, rfl, rfl, HCX, HCY, HXA⟩ := hcut
    have HXX := Lib.hid (HX.out.trans HXA.out)
    clear x0 y0 x1 y1 x2 y2 x3 y3 x4 y4 x5 y5 x6 y6 x7 y7 x8 y8 x9 y9 x10 y10 x11 y11 x12 y12 HXC HYC HX q0 q1
    generalize wc = w3 at *
    have HK1' := Lib.hid (HK1.out.ext HXA.out)
    have HK2' := Lib.hid (HK2.out.ext HXA.out)
    go_upto_region 7 with fail
    have HNF : Hid (E = false → bb = false) := Lib.hid fun h => HNO.out (by rw [h]; rfl)
    have x0 : w3.cell? ⟨gx, 0, none⟩ = some (.int .u8 op) := HCX.out.cell 0
    have y0 : w3.cell? ⟨gy, 0, none⟩ = some (.int .u8 op2) := HCY.out.cell 0
    by_cases hop : op = op2
    rotate_left
    · revert l m c d w hlen bb HO HFA e0 e1 HLW u4 u6 u7 u8 u14 u15 u16 u17 u18 u19 u28 u29 u30 u31 u32 u33 u34 u35 u36 u37 u38 u39 u40 u41 u42 u43 u44 u45 u46 u47 u48 u49 u50 u51 u52 u53 u54 u55 u56 u57 u58 u59 u60 u61 u62 u63 u64 u65 u66 u67 u68 u69 u70 u71 u72 u73 u74 u75 u76 u77 u78 u79 u80 u81 u82 u83 u84 u85 u86 u87 u88 u89 u90 u91 u92 u93 u94 u95 u96 u97 u98 u99 u100 u101 u102 u103 u104 u105 u106 u107 u108 u109 u110 u111 u112 u113 u114 u115 u116 u117 u118 u119 u120 u121 u122 u123 u124 u125 u126 u127 u128 u129 u130 u131 k hk HJ wa hlt d0 hlt2 b1 off1 HA HA1 hb1 b2 off2 HB HB1 hb2 E kt vp op node mode table row col var goes eq frm upto ka kc va vc kt2 vp2 op2 node2 mode2 table2 row2 col2 var2 goes2 eq2 frm2 upto2 ka2 kc2 va2 vc2 HYS HNO HE hf2 HK1 HK2 HV1 HV2 HE1 HE2 HF1 HF3 wc u20 u21 u22 u23 u24 u25 u26 u27 gx gy w3 HCX HCY HXA HXX HK1' HK2' HNF x0 y0 hop
      repeat (rename_i hZ; first | clear hZ | revert hZ)
      first | clear u20 | revert u20
      first | clear u21 | revert u21
      first | clear u22 | revert u22
      first | clear u23 | revert u23
      first | clear u24 | revert u24
      first | clear u25 | revert u25
      first | clear u26 | revert u26
      first | clear u27 | revert u27
      exact hCut1.out
    subst hop
    have x2 : w3.cell? ⟨gx, 2, none⟩ = some (.int .u8 mode) := HCX.out.cell 2
    have y2 : w3.cell? ⟨gy, 2, none⟩ = some (.int .u8 mode2) := HCY.out.cell 2
    by_cases hmode : mode = mode2
    rotate_left
    · revert l m c d w hlen bb HO HFA e0 e1 HLW u4 u6 u7 u8 u14 u15 u16 u17 u18 u19 u28 u29 u30 u31 u32 u33 u34 u35 u36 u37 u38 u39 u40 u41 u42 u43 u44 u45 u46 u47 u48 u49 u50 u51 u52 u53 u54 u55 u56 u57 u58 u59 u60 u61 u62 u63 u64 u65 u66 u67 u68 u69 u70 u71 u72 u73 u74 u75 u76 u77 u78 u79 u80 u81 u82 u83 u84 u85 u86 u87 u88 u89 u90 u91 u92 u93 u94 u95 u96 u97 u98 u99 u100 u101 u102 u103 u104 u105 u106 u107 u108 u109 u110 u111 u112 u113 u114 u115 u116 u117 u118 u119 u120 u121 u122 u123 u124 u125 u126 u127 u128 u129 u130 u131 k hk HJ wa hlt d0 hlt2 b1 off1 HA HA1 hb1 b2 off2 HB HB1 hb2 E kt vp op node mode table row col var goes eq frm upto ka kc va vc kt2 vp2 node2 mode2 table2 row2 col2 var2 goes2 eq2 frm2 upto2 ka2 kc2 va2 vc2 hf2 HK1 HK2 HV1 HV2 HE1 HE2 HF1 HF3 wc u20 u21 u22 u23 u24 u25 u26 u27 gx gy w3 HCX HXA HXX HK1' HK2' HNF x0 HYS HNO HE HCY y0 x2 y2 hmode
      repeat (rename_i hZ; first | clear hZ | revert hZ)
      first | clear u20 | revert u20
      first | clear u21 | revert u21
      first | clear u22 | revert u22
      first | clear u23 | revert u23
      first | clear u24 | revert u24
      first | clear u25 | revert u25
      first | clear u26 | revert u26
      first | clear u27 | revert u27
      exact hCut2.out
    subst hmode
    have x3 : w3.cell? ⟨gx, 3, none⟩ = some (.int .i64 table) := HCX.out.cell 3
    have y3 : w3.cell? ⟨gy, 3, none⟩ = some (.int .i64 table2) := HCY.out.cell 3
    by_cases htable : table = table2
    rotate_left
    · revert l m c d w hlen bb HO HFA e0 e1 HLW u4 u6 u7 u8 u14 u15 u16 u17 u18 u19 u28 u29 u30 u31 u32 u33 u34 u35 u36 u37 u38 u39 u40 u41 u42 u43 u44 u45 u46 u47 u48 u49 u50 u51 u52 u53 u54 u55 u56 u57 u58 u59 u60 u61 u62 u63 u64 u65 u66 u67 u68 u69 u70 u71 u72 u73 u74 u75 u76 u77 u78 u79 u80 u81 u82 u83 u84 u85 u86 u87 u88 u89 u90 u91 u92 u93 u94 u95 u96 u97 u98 u99 u100 u101 u102 u103 u104 u105 u106 u107 u108 u109 u110 u111 u112 u113 u114 u115 u116 u117 u118 u119 u120 u121 u122 u123 u124 u125 u126 u127 u128 u129 u130 u131 k hk HJ wa hlt d0 hlt2 b1 off1 HA HA1 hb1 b2 off2 HB HB1 hb2 E kt vp op node mode table row col var goes eq frm upto ka kc va vc kt2 vp2 node2 table2 row2 col2 var2 goes2 eq2 frm2 upto2 ka2 kc2 va2 vc2 hf2 HK1 HK2 HV1 HV2 HE1 HE2 HF1 HF3 wc u20 u21 u22 u23 u24 u25 u26 u27 gx gy w3 HCX HXA HXX HK1' HK2' HNF x0 y0 x2 HYS HNO HE HCY y2 x3 y3 htable
      repeat (rename_i hZ; first | clear hZ | revert hZ)
      first | clear u20 | revert u20
      first | clear u21 | revert u21
      first | clear u22 | revert u22
      first | clear u23 | revert u23
      first | clear u24 | revert u24
      first | clear u25 | revert u25
      first | clear u26 | revert u26
      first | clear u27 | revert u27
      exact hCut3.out
    subst htable
    have x4 : w3.cell? ⟨gx, 4, none⟩ = some (.bool row) := HCX.out.cell 4
    have y4 : w3.cell? ⟨gy, 4, none⟩ = some (.bool row2) := HCY.out.cell 4
    by_cases hrow : row = row2
    rotate_left
    · revert l m c d w hlen bb HO HFA e0 e1 HLW u4 u6 u7 u8 u14 u15 u16 u17 u18 u19 u28 u29 u30 u31 u32 u33 u34 u35 u36 u37 u38 u39 u40 u41 u42 u43 u44 u45 u46 u47 u48 u49 u50 u51 u52 u53 u54 u55 u56 u57 u58 u59 u60 u61 u62 u63 u64 u65 u66 u67 u68 u69 u70 u71 u72 u73 u74 u75 u76 u77 u78 u79 u80 u81 u82 u83 u84 u85 u86 u87 u88 u89 u90 u91 u92 u93 u94 u95 u96 u97 u98 u99 u100 u101 u102 u103 u104 u105 u106 u107 u108 u109 u110 u111 u112 u113 u114 u115 u116 u117 u118 u119 u120 u121 u122 u123 u124 u125 u126 u127 u128 u129 u130 u131 k hk HJ wa hlt d0 hlt2 b1 off1 HA HA1 hb1 b2 off2 HB HB1 hb2 E kt vp op node mode table row col var goes eq frm upto ka kc va vc kt2 vp2 node2 row2 col2 var2 goes2 eq2 frm2 upto2 ka2 kc2 va2 vc2 hf2 HK1 HK2 HV1 HV2 HE1 HE2 HF1 HF3 wc u20 u21 u22 u23 u24 u25 u26 u27 gx gy w3 HCX HXA HXX HK1' HK2' HNF x0 y0 x2 y2 x3 HYS HNO HE HCY y3 x4 y4 hrow
      repeat (rename_i hZ; first | clear hZ | revert hZ)
      first | clear u20 | revert u20
      first | clear u21 | revert u21
      first | clear u22 | revert u22
      first | clear u23 | revert u23
      first | clear u24 | revert u24
      first | clear u25 | revert u25
      first | clear u26 | revert u26
      first | clear u27 | revert u27
      exact hCut4.out
    subst hrow
    have x5 : w3.cell? ⟨gx, 5, none⟩ = some (.int .i64 col) := HCX.out.cell 5
    have y5 : w3.cell? ⟨gy, 5, none⟩ = some (.int .i64 col2) := HCY.out.cell 5
    by_cases hcol : col = col2
    rotate_left
    · revert l m c d w hlen bb HO HFA e0 e1 HLW u4 u6 u7 u8 u14 u15 u16 u17 u18 u19 u28 u29 u30 u31 u32 u33 u34 u35 u36 u37 u38 u39 u40 u41 u42 u43 u44 u45 u46 u47 u48 u49 u50 u51 u52 u53 u54 u55 u56 u57 u58 u59 u60 u61 u62 u63 u64 u65 u66 u67 u68 u69 u70 u71 u72 u73 u74 u75 u76 u77 u78 u79 u80 u81 u82 u83 u84 u85 u86 u87 u88 u89 u90 u91 u92 u93 u94 u95 u96 u97 u98 u99 u100 u101 u102 u103 u104 u105 u106 u107 u108 u109 u110 u111 u112 u113 u114 u115 u116 u117 u118 u119 u120 u121 u122 u123 u124 u125 u126 u127 u128 u129 u130 u131 k hk HJ wa hlt d0 hlt2 b1 off1 HA HA1 hb1 b2 off2 HB HB1 hb2 E kt vp op node mode table row col var goes eq frm upto ka kc va vc kt2 vp2 node2 col2 var2 goes2 eq2 frm2 upto2 ka2 kc2 va2 vc2 hf2 HK1 HK2 HV1 HV2 HE1 HE2 HF1 HF3 wc u20 u21 u22 u23 u24 u25 u26 u27 gx gy w3 HCX HXA HXX HK1' HK2' HNF x0 y0 x2 y2 x3 y3 x4 HYS HNO HE HCY y4 x5 y5 hcol
      repeat (rename_i hZ; first | clear hZ | revert hZ)
      first | clear u20 | revert u20
      first | clear u21 | revert u21
      first | clear u22 | revert u22
      first | clear u23 | revert u23
      first | clear u24 | revert u24
      first | clear u25 | revert u25
      first | clear u26 | revert u26
      first | clear u27 | revert u27
      exact hCut5.out
    subst hcol
    have x6 : w3.cell? ⟨gx, 6, none⟩ = some (.int .i64 var) := HCX.out.cell 6
    have y6 : w3.cell? ⟨gy, 6, none⟩ = some (.int .i64 var2) := HCY.out.cell 6
    by_cases hvar : var = var2
    rotate_left
    · revert l m c d w hlen bb HO HFA e0 e1 HLW u4 u6 u7 u8 u14 u15 u16 u17 u18 u19 u28 u29 u30 u31 u32 u33 u34 u35 u36 u37 u38 u39 u40 u41 u42 u43 u44 u45 u46 u47 u48 u49 u50 u51 u52 u53 u54 u55 u56 u57 u58 u59 u60 u61 u62 u63 u64 u65 u66 u67 u68 u69 u70 u71 u72 u73 u74 u75 u76 u77 u78 u79 u80 u81 u82 u83 u84 u85 u86 u87 u88 u89 u90 u91 u92 u93 u94 u95 u96 u97 u98 u99 u100 u101 u102 u103 u104 u105 u106 u107 u108 u109 u110 u111 u112 u113 u114 u115 u116 u117 u118 u119 u120 u121 u122 u123 u124 u125 u126 u127 u128 u129 u130 u131 k hk HJ wa hlt d0 hlt2 b1 off1 HA HA1 hb1 b2 off2 HB HB1 hb2 E kt vp op node mode table row col var goes eq frm upto ka kc va vc kt2 vp2 node2 var2 goes2 eq2 frm2 upto2 ka2 kc2 va2 vc2 hf2 HK1 HK2 HV1 HV2 HE1 HE2 HF1 HF3 wc u20 u21 u22 u23 u24 u25 u26 u27 gx gy w3 HCX HXA HXX HK1' HK2' HNF x0 y0 x2 y2 x3 y3 x4 y4 x5 HYS HNO HE HCY y5 x6 y6 hvar
      repeat (rename_i hZ; first | clear hZ | revert hZ)
      first | clear u20 | revert u20
      first | clear u21 | revert u21
      first | clear u22 | revert u22
      first | clear u23 | revert u23
      first | clear u24 | revert u24
      first | clear u25 | revert u25
      first | clear u26 | revert u26
      first | clear u27 | revert u27
      exact hCut6.out
    subst hvar
    have x7 : w3.cell? ⟨gx, 7, none⟩ = some (.int .i64 goes) := HCX.out.cell 7
    have y7 : w3.cell? ⟨gy, 7, none⟩ = some (.int .i64 goes2) := HCY.out.cell 7
    by_cases hgoes : goes = goes2
    rotate_left
    · revert l m c d w hlen bb HO HFA e0 e1 HLW u4 u6 u7 u8 u14 u15 u16 u17 u18 u19 u28 u29 u30 u31 u32 u33 u34 u35 u36 u37 u38 u39 u40 u41 u42 u43 u44 u45 u46 u47 u48 u49 u50 u51 u52 u53 u54 u55 u56 u57 u58 u59 u60 u61 u62 u63 u64 u65 u66 u67 u68 u69 u70 u71 u72 u73 u74 u75 u76 u77 u78 u79 u80 u81 u82 u83 u84 u85 u86 u87 u88 u89 u90 u91 u92 u93 u94 u95 u96 u97 u98 u99 u100 u101 u102 u103 u104 u105 u106 u107 u108 u109 u110 u111 u112 u113 u114 u115 u116 u117 u118 u119 u120 u121 u122 u123 u124 u125 u126 u127 u128 u129 u130 u131 k hk HJ wa hlt d0 hlt2 b1 off1 HA HA1 hb1 b2 off2 HB HB1 hb2 E kt vp op node mode table row col var goes eq frm upto ka kc va vc kt2 vp2 node2 goes2 eq2 frm2 upto2 ka2 kc2 va2 vc2 hf2 HK1 HK2 HV1 HV2 HE1 HE2 HF1 HF3 wc u20 u21 u22 u23 u24 u25 u26 u27 gx gy w3 HCX HXA HXX HK1' HK2' HNF x0 y0 x2 y2 x3 y3 x4 y4 x5 y5 x6 HYS HNO HE HCY y6 x7 y7 hgoes
      repeat (rename_i hZ; first | clear hZ | revert hZ)
      first | clear u20 | revert u20
      first | clear u21 | revert u21
      first | clear u22 | revert u22
      first | clear u23 | revert u23
      first | clear u24 | revert u24
      first | clear u25 | revert u25
      first | clear u26 | revert u26
      first | clear u27 | revert u27
      exact hCut7.out
    subst hgoes
    have x8 : w3.cell? ⟨gx, 8, none⟩ = some (.bool eq) := HCX.out.cell 8
    have y8 : w3.cell? ⟨gy, 8, none⟩ = some (.bool eq2) := HCY.out.cell 8
    by_cases heq : eq = eq2
    rotate_left
    · revert l m c d w hlen bb HO HFA e0 e1 HLW u4 u6 u7 u8 u14 u15 u16 u17 u18 u19 u28 u29 u30 u31 u32 u33 u34 u35 u36 u37 u38 u39 u40 u41 u42 u43 u44 u45 u46 u47 u48 u49 u50 u51 u52 u53 u54 u55 u56 u57 u58 u59 u60 u61 u62 u63 u64 u65 u66 u67 u68 u69 u70 u71 u72 u73 u74 u75 u76 u77 u78 u79 u80 u81 u82 u83 u84 u85 u86 u87 u88 u89 u90 u91 u92 u93 u94 u95 u96 u97 u98 u99 u100 u101 u102 u103 u104 u105 u106 u107 u108 u109 u110 u111 u112 u113 u114 u115 u116 u117 u118 u119 u120 u121 u122 u123 u124 u125 u126 u127 u128 u129 u130 u131 k hk HJ wa hlt d0 hlt2 b1 off1 HA HA1 hb1 b2 off2 HB HB1 hb2 E kt vp op node mode table row col var goes eq frm upto ka kc va vc kt2 vp2 node2 eq2 frm2 upto2 ka2 kc2 va2 vc2 hf2 HK1 HK2 HV1 HV2 HE1 HE2 HF1 HF3 wc u20 u21 u22 u23 u24 u25 u26 u27 gx gy w3 HCX HXA HXX HK1' HK2' HNF x0 y0 x2 y2 x3 y3 x4 y4 x5 y5 x6 y6 x7 HYS HNO HE HCY y7 x8 y8 heq
      repeat (rename_i hZ; first | clear hZ | revert hZ)
      first | clear u20 | revert u20
      first | clear u21 | revert u21
      first | clear u22 | revert u22
      first | clear u23 | revert u23
      first | clear u24 | revert u24
      first | clear u25 | revert u25
      first | clear u26 | revert u26
      first | clear u27 | revert u27
      exact hCut8.out
    subst heq
    have x9 : w3.cell? ⟨gx, 9, none⟩ = some (.int .i64 frm) := HCX.out.cell 9
    have y9 : w3.cell? ⟨gy, 9, none⟩ = some (.int .i64 frm2) := HCY.out.cell 9
    by_cases hfrm : frm = frm2
    rotate_left
    · revert l m c d w hlen bb HO HFA e0 e1 HLW u4 u6 u7 u8 u14 u15 u16 u17 u18 u19 u28 u29 u30 u31 u32 u33 u34 u35 u36 u37 u38 u39 u40 u41 u42 u43 u44 u45 u46 u47 u48 u49 u50 u51 u52 u53 u54 u55 u56 u57 u58 u59 u60 u61 u62 u63 u64 u65 u66 u67 u68 u69 u70 u71 u72 u73 u74 u75 u76 u77 u78 u79 u80 u81 u82 u83 u84 u85 u86 u87 u88 u89 u90 u91 u92 u93 u94 u95 u96 u97 u98 u99 u100 u101 u102 u103 u104 u105 u106 u107 u108 u109 u110 u111 u112 u113 u114 u115 u116 u117 u118 u119 u120 u121 u122 u123 u124 u125 u126 u127 u128 u129 u130 u131 k hk HJ wa hlt d0 hlt2 b1 off1 HA HA1 hb1 b2 off2 HB HB1 hb2 E kt vp op node mode table row col var goes eq frm upto ka kc va vc kt2 vp2 node2 frm2 upto2 ka2 kc2 va2 vc2 hf2 HK1 HK2 HV1 HV2 HE1 HE2 HF1 HF3 wc u20 u21 u22 u23 u24 u25 u26 u27 gx gy w3 HCX HXA HXX HK1' HK2' HNF x0 y0 x2 y2 x3 y3 x4 y4 x5 y5 x6 y6 x7 y7 x8 HYS HNO HE HCY y8 x9 y9 hfrm
      repeat (rename_i hZ; first | clear hZ | revert hZ)
      first | clear u20 | revert u20
      first | clear u21 | revert u21
      first | clear u22 | revert u22
      first | clear u23 | revert u23
      first | clear u24 | revert u24
      first | clear u25 | revert u25
      first | clear u26 | revert u26
      first | clear u27 | revert u27
      exact hCut9.out
    subst hfrm
    have x10 : w3.cell? ⟨gx, 10, none⟩ = some (.int .i64 upto) := HCX.out.cell 10
    have y10 : w3.cell? ⟨gy, 10, none⟩ = some (.int .i64 upto2) := HCY.out.cell 10
    by_cases hupto : upto = upto2
    rotate_left
    · revert l m c d w hlen bb HO HFA e0 e1 HLW u4 u6 u7 u8 u14 u15 u16 u17 u18 u19 u28 u29 u30 u31 u32 u33 u34 u35 u36 u37 u38 u39 u40 u41 u42 u43 u44 u45 u46 u47 u48 u49 u50 u51 u52 u53 u54 u55 u56 u57 u58 u59 u60 u61 u62 u63 u64 u65 u66 u67 u68 u69 u70 u71 u72 u73 u74 u75 u76 u77 u78 u79 u80 u81 u82 u83 u84 u85 u86 u87 u88 u89 u90 u91 u92 u93 u94 u95 u96 u97 u98 u99 u100 u101 u102 u103 u104 u105 u106 u107 u108 u109 u110 u111 u112 u113 u114 u115 u116 u117 u118 u119 u120 u121 u122 u123 u124 u125 u126 u127 u128 u129 u130 u131 k hk HJ wa hlt d0 hlt2 b1 off1 HA HA1 hb1 b2 off2 HB HB1 hb2 E kt vp op node mode table row col var goes eq frm upto ka kc va vc kt2 vp2 node2 upto2 ka2 kc2 va2 vc2 hf2 HK1 HK2 HV1 HV2 HE1 HE2 HF1 HF3 wc u20 u21 u22 u23 u24 u25 u26 u27 gx gy w3 HCX HXA HXX HK1' HK2' HNF x0 y0 x2 y2 x3 y3 x4 y4 x5 y5 x6 y6 x7 y7 x8 y8 x9 HYS HNO HE HCY y9 x10 y10 hupto
      repeat (rename_i hZ; first | clear hZ | revert hZ)
      first | clear u20 | revert u20
      first | clear u21 | revert u21
      first | clear u22 | revert u22
      first | clear u23 | revert u23
      first | clear u24 | revert u24
      first | clear u25 | revert u25
      first | clear u26 | revert u26
      first | clear u27 | revert u27
      exact hCut10.out
    subst hupto
    have x11 : w3.cell? ⟨gx, 11, none⟩ = some (.slice ka kt.length kc) := HCX.out.cell 11
    have y11 : w3.cell? ⟨gy, 11, none⟩ = some (.slice ka2 kt2.length kc2) := HCY.out.cell 11
    have HEK : Hid ((decide (kt = kt2) && (vp.length == vp2.length)) = E) := Lib.hid (by rw [← HE.out]; simp)
    clear HE
    by_cases hkt : kt = kt2
    rotate_left
    · revert l m c d w hlen bb HO HFA e0 e1 HLW u4 u6 u7 u8 u14 u15 u16 u17 u18 u19 u28 u29 u30 u31 u32 u33 u34 u35 u36 u37 u38 u39 u40 u41 u42 u43 u44 u45 u46 u47 u48 u49 u50 u51 u52 u53 u54 u55 u56 u57 u58 u59 u60 u61 u62 u63 u64 u65 u66 u67 u68 u69 u70 u71 u72 u73 u74 u75 u76 u77 u78 u79 u80 u81 u82 u83 u84 u85 u86 u87 u88 u89 u90 u91 u92 u93 u94 u95 u96 u97 u98 u99 u100 u101 u102 u103 u104 u105 u106 u107 u108 u109 u110 u111 u112 u113 u114 u115 u116 u117 u118 u119 u120 u121 u122 u123 u124 u125 u126 u127 u128 u129 u130 u131 k hk HJ wa hlt d0 hlt2 b1 off1 HA HA1 hb1 b2 off2 HB HB1 hb2 E kt vp op node mode table row col var goes eq frm upto ka kc va vc kt2 vp2 node2 ka2 kc2 va2 vc2 hf2 HK1 HK2 HV1 HV2 HE1 HE2 HF1 HF3 wc u20 u21 u22 u23 u24 u25 u26 u27 gx gy w3 HCX HXA HXX HK1' HK2' HNF x0 y0 x2 y2 x3 y3 x4 y4 x5 y5 x6 y6 x7 y7 x8 y8 x9 y9 x10 HYS HNO HCY y10 x11 y11 HEK hkt
      repeat (rename_i hZ; first | clear hZ | revert hZ)
      first | clear u20 | revert u20
      first | clear u21 | revert u21
      first | clear u22 | revert u22
      first | clear u23 | revert u23
      first | clear u24 | revert u24
      first | clear u25 | revert u25
      first | clear u26 | revert u26
      first | clear u27 | revert u27
      exact hCut11.out
    subst hkt
    go_wp2_with fail
    refine (sameTerms_any ka ka2 kt kt _ _ kc kc2 w3 rfl rfl HF1.out HK1'.out HK2'.out true (Lib.hid (decide_eq_true rfl))).mono ?_
    rintro e w4 ⟨rfl, hx4⟩
    have HX4 := Lib.hid (HXA.out.trans hx4)
    have HXW := Lib.hid (HXX.out.trans hx4)
    have HD0 := Lib.hid (HCX.out.ext hx4)
    have HD1 := Lib.hid (HCY.out.ext hx4)
    clear hx4 HCX HCY HXX HXA HK1' HK2' x0 y0 x2 y2 x3 y3 x4 y4 x5 y5 x6 y6 x7 y7 x8 y8 x9 y9 x10 y10 x11 y11
    have x12 : w4.cell? ⟨gx, 12, none⟩ = some (.slice va vp.length vc) := HD0.out.cell 12
    have y12 : w4.cell? ⟨gy, 12, none⟩ = some (.slice va2 vp2.length vc2) := HD1.out.cell 12
    by_cases hvl : vp.length = vp2.length
    rotate_left
    · have g0 : ((vp.length : Int) == (vp2.length : Int)) = false := beq_eq_false_iff_ne.2 (by omega)
      have g1 : ((vp.length : Int) != (vp2.length : Int)) = true := bne_iff_ne.2 (by omega)
      have g2 : (vp.length == vp2.length) = false := beq_eq_false_iff_ne.2 hvl
      have HBF := Lib.hid (HNF.out (by rw [← HEK.out, g2]; simp))
      clear hvl HEK HNF HNO HYS
      go_wp2_with fail
      go_ret
      rw [HBF.out]
      exact ⟨rfl, HXW.out⟩
    have g0 : ((vp.length : Int) == (vp2.length : Int)) = true := by rw [hvl]; simp
    have g1 : ((vp.length : Int) != (vp2.length : Int)) = false := by rw [hvl]; simp
    have HET : Hid (E = true) := Lib.hid (by rw [← HEK.out, hvl]; simp)
    have HVLL := Lib.hid hvl
    replace HNO : Hid (vp.map Prod.snd ≠ vp2.map Prod.snd → bb = false) := Lib.hid fun h => HNO.out (by rw [decide_eq_false h, Bool.and_false])
    replace HYS := Lib.hid (fun h : vp.map Prod.snd = vp2.map Prod.snd => HYS.out (by rw [decide_eq_true h, HET.out]; rfl))
    clear hvl HEK HNF
    go_wp2_with fail
    clear g0 g1 y12
    go_loopw [8] (fun i w5 => ∃ j : Nat, j ≤ vp.length ∧ i = .int .i64 j ∧ Hid (Ext w4 w5) ∧ Hid (∀ t (h1 : t < vp.length) (h2 : t < vp2.length), t < j → vp[t].2 = vp2[t].2)) (fun i _ => vp.length - (intOf i).toNat)
    case atStart => exact ⟨0, Nat.zero_le _, rfl, Lib.hid (Ext.refl _), Lib.hid fun t h1 h2 h => by omega⟩
    case round =>
      clear x12
      obtain ⟨j, hj, rfl, HX5, HT5⟩ := hrel
      obtain ⟨w5, rfl⟩ : ∃ w5 : World, w5 = wr := ⟨_, rfl⟩
      have HLX : Hid (gx < w5.heap.size ∧ gy < w5.heap.size) := Lib.hid ⟨(HD0.out.ext HX5.out).lt, (HD1.out.ext HX5.out).lt⟩
      have x12 : w5.cell? ⟨gx, 12, none⟩ = some (.slice va vp.length vc) := (HD0.out.ext HX5.out).cell 12
      have y12 : w5.cell? ⟨gy, 12, none⟩ = some (.slice va2 vp2.length vc2) := (HD1.out.ext HX5.out).cell 12
      by_cases hjl : j < vp.length
      rotate_left
      · obtain rfl : j = vp.length := by omega
        have d1 : decide ((vp.length : Int) < (vp.length : Int)) = false := by simp
        have d2 : decide (vp.length < vp.length) = false := by simp
        have HYS2 := Lib.hid (HYS.out (map_yes Prod.snd HVLL.out fun t h1 h2 => HT5.out t h1 h2 h1))
        go_wp2_with fail
        go_roundw
        case rel => exact ⟨k + 1, by omega, by go_num, Lib.hid (HXW.out.trans HX5.out), HYS2⟩
        case measure => simp [intOf]; omega
      have d1 : decide ((j : Int) < (vp.length : Int)) = true := decide_eq_true (by omega)
      have hjl2 : j < vp2.length := by have := HVLL.out; omega
      have q3 : (j : Int) < (vp.length : Int) := by omega
      have q4 : (j : Int) < (vp2.length : Int) := by omega
      have HXJ := Lib.hid (HX4.out.trans HX5.out)
      obtain ⟨b3, off3, rfl, hb3, hc3⟩ := (HV1.out.ext HXJ.out).at_ (by rw [pcells_len]; omega)
      obtain ⟨b4, off4, rfl, hb4, hc4⟩ := (HV2.out.ext HXJ.out).at_ (by rw [pcells_len]; omega)
      have v0 := (hc3 j (by rw [pcells_len]; omega)).trans (pcells_at vp j hjl)
      have u0 := (hc4 j (by rw [pcells_len]; omega)).trans (pcells_at vp2 j hjl2)
      have hsh := HE1.out _ (List.getElem_mem hjl)
      have hsh2 := HE2.out _ (List.getElem_mem hjl2)
      have hbg := HF3.out _ (List.getElem_mem hjl)
      obtain ⟨tb, HTB⟩ : ∃ tb : Bool, Hid (decide (vp[j].2 = vp2[j].2) = tb) := ⟨_, Lib.hid rfl⟩
      have HN1 : Hid (tb = false → bb = false) := Lib.hid fun h => HNO.out (map_no Prod.snd j hjl hjl2 (by rw [← HTB.out] at h; exact of_decide_eq_false h))
      have HY1 : Hid (tb = true → ∀ t (h1 : t < vp.length) (h2 : t < vp2.length), t < j + 1 → vp[t].2 = vp2[t].2) := Lib.hid fun h t h1 h2 ht => by
        by_cases e : t = j
        · subst e; rw [← HTB.out] at h; exact of_decide_eq_true h
        · exact HT5.out t h1 h2 (by omega)
      clear hc3 hc4
      generalize vp[j] = pv at *
      generalize vp2[j] = pw at *
      obtain ⟨⟨pa, pn, pc⟩, ts⟩ := pv
      obtain ⟨⟨pa2, pn2, pc2⟩, ts2⟩ := pw
      obtain ⟨r1, r2, r3⟩ := hsh
      obtain ⟨s1, s2, s3⟩ := hsh2
      simp only [hd] at r1 r3 s1 s3 v0 u0 hbg
      have HTB : Hid (decide (ts = ts2) = tb) := HTB
      subst r1 s1
      have HR3 := Lib.hid r3
      have HS3 := Lib.hid s3
      have HBG := Lib.hid hbg
      clear r2 r3 s2 s3 hbg
      go_upto_region 12 with fail
      apply wp_region_ext (by kernel_rfl) (by kernel_rfl) (by kernel_rfl)
      apply step_det (.pointer (some ⟨gx, 12, none⟩)) rfl rfl rfl
      · intro w' hw' hH
        clear hH
        simp [YieldsF, go_sem]
        exact Ext.refl _
      apply step_det (.slice (some ⟨b3, off3, none⟩) vp.length vc) rfl rfl rfl
      · intro w' hw' hH
        clear hH
        have z0 := (hw'.cell (p := ⟨gx, 12, none⟩) HLX.out.1).trans x12
        simp [YieldsF, go_sem, z0]
        exact Ext.refl _
      apply step_det (.int .i64 (j : Int)) rfl rfl rfl
      · intro w' hw' hH
        clear hH
        simp [YieldsF, go_sem]
        exact Ext.refl _
      apply step_det (.pointer (some ⟨b3, off3 + j, none⟩)) rfl rfl rfl
      · intro w' hw' hH
        clear hH
        simp [YieldsF, go_sem, q3, q4]
        exact Ext.refl _
      apply step_det (.slice pa ts.length pc) rfl rfl rfl
      · intro w' hw' hH
        clear hH
        have z0 := (hw'.cell (p := ⟨b3, off3 + j, none⟩) hb3).trans v0
        simp [YieldsF, go_sem, z0]
        exact Ext.refl _
      apply step_det (.pointer (some ⟨gy, 12, none⟩)) rfl rfl rfl
      · intro w' hw' hH
        clear hH
        simp [YieldsF, go_sem]
        exact Ext.refl _
      apply step_det (.slice (some ⟨b4, off4, none⟩) vp2.length vc2) rfl rfl rfl
      · intro w' hw' hH
        clear hH
        have z0 := (hw'.cell (p := ⟨gy, 12, none⟩) HLX.out.2).trans y12
        simp [YieldsF, go_sem, z0]
        exact Ext.refl _
      apply step_det (.int .i64 (j : Int)) rfl rfl rfl
      · intro w' hw' hH
        clear hH
        simp [YieldsF, go_sem]
        exact Ext.refl _
      apply step_det (.pointer (some ⟨b4, off4 + j, none⟩)) rfl rfl rfl
      · intro w' hw' hH
        clear hH
        simp [YieldsF, go_sem, q3, q4]
        exact Ext.refl _
      apply step_det (.slice pa2 ts2.length pc2) rfl rfl rfl
      · intro w' hw' hH
        clear hH
        have z0 := (hw'.cell (p := ⟨b4, off4 + j, none⟩) hb4).trans u0
        simp [YieldsF, go_sem, z0]
        exact Ext.refl _
      apply step_det (.bool tb) rfl rfl rfl
      · intro w' hw' hH
        clear hH
        simp [YieldsF, go_sem]
        refine (sameTerms_any pa pa2 ts ts2 _ _ pc pc2 w' rfl rfl HBG.out ((HR3.out.ext HXJ.out).ext hw') ((HS3.out.ext HXJ.out).ext hw') tb HTB).mono ?_
        rintro e w6 ⟨rfl, hx6⟩
        exact ⟨_, rfl, rfl, hx6⟩
      apply step_det (.bool (!tb)) rfl rfl rfl
      · intro w' hw' hH
        clear hH
        simp [YieldsF, go_sem]
        exact Ext.refl _
      apply WalkF_nil
      intro w6 hw6 hH
      clear hH
      have HX6 := Lib.hid (HX5.out.trans hw6)
      clear hw6 x12 y12 v0 u0 hb3 hb4
      try simp only [Act.put, List.setIfInBounds_toArray, List.set_cons_zero, List.set_cons_succ]
      cases tb with
      | false =>
        have HBF := Lib.hid (HN1.out rfl)
        go_wp2_with fail
        go_ret
        rw [HBF.out]
        exact ⟨rfl, HXW.out.trans HX6.out⟩
      | true =>
      have HT6 := Lib.hid (HY1.out rfl)
      go_wp2_with fail
      go_roundw
      case rel => exact ⟨j + 1, by omega, by go_num, HX6, HT6⟩
      case measure => simp [intOf]; omega⟩
end Go.Proofs.Ytngbpaiohfokbaa
