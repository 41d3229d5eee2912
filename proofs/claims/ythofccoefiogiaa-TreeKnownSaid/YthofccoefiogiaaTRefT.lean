/- The document's Same, walked. -/
import Derived.Test.YthofccoefiogiaaTRefB
namespace Go.Proofs.Ythofccoefiogiaa
open Go Go.RowKit
set_option linter.unusedVariables false
set_option linter.unusedSimpArgs false
set_option maxRecDepth 100000 in
set_option maxHeartbeats 16000000 in
theorem rSame_any (l m : List NodeM) (A B : Option Addr) (n c n2 c2 : Nat) (w : World) (hn : n = l.length) (hn2 : n2 = m.length) (hl : TreeM w A l) (hm : TreeM w B m) (hlen : l.length ≤ 1000) (hlen2 : m.length ≤ 1000) (hk : ∀ x ∈ l, x.kids.length ≤ 1000) (hk2 : ∀ x ∈ m, x.kids.length ≤ 1000) (b : Bool) (hb : Hid (sameM l m = b)) :
    Calls Try.prog 39 #[.slice A n c, .slice B n2 c2] w fun e w' => e = .returned (.bool b) ∧ Ext w w' := by
  subst hn hn2
  have HL := Lib.hid hl
  have HM := Lib.hid hm
  have HK := Lib.hid hk
  have HK2 := Lib.hid hk2
  clear hl hm hk hk2
  by_cases hlw : l.length = m.length
  · have e0 : ((l.length : Int) == (m.length : Int)) = true := by rw [hlw]; simp
    have e1 : ((l.length : Int) != (m.length : Int)) = false := by rw [hlw]; simp
    have HLW := Lib.hid hlw
    clear hlw
    go_enter Try.func39, Try.ntmps39
    go_wp2_with fail
    go_loopw [5] (fun i wr => ∃ k : Nat, k ≤ l.length ∧ i = .int .i64 k ∧ Hid (Ext w wr) ∧ Hid (∀ j (h1 : j < l.length) (h2 : j < m.length), j < k → sameNode l[j] m[j] = true)) (fun i _ => l.length - (intOf i).toNat)
    case atStart => exact ⟨0, Nat.zero_le _, rfl, Lib.hid (Ext.refl _), Lib.hid fun j h1 h2 hj => by omega⟩
    case round =>
      obtain ⟨k, hkk, rfl, HX, HR⟩ := hrel
      obtain ⟨wa, rfl⟩ : ∃ wa : World, wa = wr := ⟨_, rfl⟩
      by_cases hlt : k < l.length
      · have d0 : decide ((k : Int) < (l.length : Int)) = true := decide_eq_true (by omega)
        have hlt2 : k < m.length := by have := HLW.out; omega
        have q1 : (k : Int) < (l.length : Int) := by omega
        have q2 : (k : Int) < (m.length : Int) := by omega
        have HL1 := Lib.hid (HL.out.ext HX.out)
        have HM1 := Lib.hid (HM.out.ext HX.out)
        obtain ⟨b1, off1, rfl, hb1, hc1⟩ := HL1.out.at_ k hlt
        obtain ⟨b2, off2, rfl, hb2, hc2⟩ := HM1.out.at_ k hlt2
        have HN1 : Hid (NodeOk wa l[k]) := Lib.hid (HL1.out.ok _ (List.getElem_mem hlt))
        have HN2 : Hid (NodeOk wa m[k]) := Lib.hid (HM1.out.ok _ (List.getElem_mem hlt2))
        have hkl : l[k].kids.length ≤ 1000 := HK.out _ (List.getElem_mem hlt)
        have hkm : m[k].kids.length ≤ 1000 := HK2.out _ (List.getElem_mem hlt2)
        obtain ⟨t, ht⟩ : ∃ t, sameNode l[k] m[k] = t := ⟨_, rfl⟩
        have HYES : Hid (t = true → ∀ j (h1 : j < l.length) (h2 : j < m.length), j < k + 1 → sameNode l[j] m[j] = true) := Lib.hid (by
          intro h j h1 h2 h3
          by_cases hj : j = k
          · subst hj; rw [ht]; exact h
          · exact HR.out j h1 h2 (by omega))
        have HNO : Hid (t = false → b = false) := Lib.hid (by
          intro h
          rw [← hb.out]
          exact sameM_no k hlt hlt2 (by rw [ht]; exact h))
        have HTT := Lib.hid ht
        clear ht
        generalize l[k] = x at *
        generalize m[k] = y at *
        obtain ⟨kind, pos, text, num, kA, kc, kids⟩ := x
        obtain ⟨kind2, pos2, text2, num2, kA2, kc2, kids2⟩ := y
        have HS : Hid ((kind == kind2 && (text.toList == text2.toList && (num == num2 && kids == kids2))) = t) := HTT
        simp only at hkl hkm
        have x0 : wa.cell? ⟨b1, off1 + k * 5, none⟩ = some (.int .u8 kind) := hc1 0 (by omega)
        have x2 : wa.cell? ⟨b1, off1 + k * 5 + 2, none⟩ = some (.string text) := hc1 2 (by omega)
        have x3 : wa.cell? ⟨b1, off1 + k * 5 + 3, none⟩ = some (.int .i64 num) := hc1 3 (by omega)
        have x4 : wa.cell? ⟨b1, off1 + k * 5 + 4, none⟩ = some (.slice kA kids.length kc) := hc1 4 (by omega)
        have y0 : wa.cell? ⟨b2, off2 + k * 5, none⟩ = some (.int .u8 kind2) := hc2 0 (by omega)
        have y2 : wa.cell? ⟨b2, off2 + k * 5 + 2, none⟩ = some (.string text2) := hc2 2 (by omega)
        have y3 : wa.cell? ⟨b2, off2 + k * 5 + 3, none⟩ = some (.int .i64 num2) := hc2 3 (by omega)
        have y4 : wa.cell? ⟨b2, off2 + k * 5 + 4, none⟩ = some (.slice kA2 kids2.length kc2) := hc2 4 (by omega)
        clear hc1 hc2 HTT
        obtain ⟨t1, h1⟩ : ∃ t, (kind == kind2) = t := ⟨_, rfl⟩
        obtain ⟨t2, h2⟩ : ∃ t, (text.toList == text2.toList) = t := ⟨_, rfl⟩
        obtain ⟨t3, h3⟩ : ∃ t, (num == num2) = t := ⟨_, rfl⟩
        have h1' : (kind != kind2) = !t1 := by rw [bne, h1]
        have h2' : (text.toList != text2.toList) = !t2 := by rw [bne, h2]
        have h3' : (num != num2) = !t3 := by rw [bne, h3]
        rw [h1, h2, h3] at HS
        have bad : t1 = false ∨ (t1 = true ∧ t2 = false) ∨ (t1 = true ∧ t2 = true ∧ t3 = false) ∨ (t1 = true ∧ t2 = true ∧ t3 = true) := by
          cases t1 <;> cases t2 <;> cases t3 <;> simp
        rcases bad with rfl | ⟨rfl, rfl⟩ | ⟨rfl, rfl, rfl⟩ | ⟨rfl, rfl, rfl⟩
        · have HB := Lib.hid (HNO.out (by rw [← HS.out]; rfl))
          go_wp2_with fail
          go_quiet (fail)
          rename_i nq
          have HX1 := Lib.hid (HX.out.drewN nq)
          go_wp2_with fail
          go_ret
          exact ⟨ret_b HB.out.symm, HX1.out⟩
        · have HB := Lib.hid (HNO.out (by rw [← HS.out]; rfl))
          go_wp2_with fail
          go_quiet (fail)
          rename_i nq
          have HX1 := Lib.hid (HX.out.drewN nq)
          go_wp2_with fail
          go_ret
          exact ⟨ret_b HB.out.symm, HX1.out⟩
        · have HB := Lib.hid (HNO.out (by rw [← HS.out]; rfl))
          go_wp2_with fail
          go_quiet (fail)
          rename_i nq
          have HX1 := Lib.hid (HX.out.drewN nq)
          go_wp2_with fail
          go_ret
          exact ⟨ret_b HB.out.symm, HX1.out⟩
        · have HKT : Hid ((kids == kids2) = t) := Lib.hid (by rw [← HS.out]; rfl)
          by_cases hkl2 : kids.length = kids2.length
          · have g0 : ((kids.length : Int) == (kids2.length : Int)) = true := by rw [hkl2]; simp
            have g1 : ((kids.length : Int) != (kids2.length : Int)) = false := by rw [hkl2]; simp
            have HKK := Lib.hid hkl2
            clear hkl2
            go_wp2_with fail
            go_quiet (fail)
            rename_i nq
            have HXQ := Lib.hid ((Ext.refl wa).drewN nq)
            have HX1 := Lib.hid (HX.out.drewN nq)
            have HN1' := Lib.hid (HN1.out.ext HXQ.out)
            have HN2' := Lib.hid (HN2.out.ext HXQ.out)
            have X4 : Hid ((wa.drewN nq).cell? ⟨b1, off1 + k * 5 + 4, none⟩ = some (.slice kA kids.length kc)) := Lib.hid ((HXQ.out.cell (p := ⟨b1, off1 + k * 5 + 4, none⟩) hb1).trans x4)
            have Y4 : Hid ((wa.drewN nq).cell? ⟨b2, off2 + k * 5 + 4, none⟩ = some (.slice kA2 kids2.length kc2)) := Lib.hid ((HXQ.out.cell (p := ⟨b2, off2 + k * 5 + 4, none⟩) hb2).trans y4)
            have HLT1 : Hid (b1 < (wa.drewN nq).heap.size) := Lib.hid (Nat.lt_of_lt_of_le hb1 HXQ.out.size)
            have HLT2 : Hid (b2 < (wa.drewN nq).heap.size) := Lib.hid (Nat.lt_of_lt_of_le hb2 HXQ.out.size)
            clear x0 x2 x3 x4 y0 y2 y3 y4
            generalize wa.drewN nq = wb at *
            go_wp2_with fail
            go_loopw [6] (fun i wr => ∃ j : Nat, j ≤ kids.length ∧ i = .int .i64 j ∧ Hid (Ext wb wr) ∧ Hid (∀ i (h1 : i < kids.length) (h2 : i < kids2.length), i < j → kids[i] = kids2[i])) (fun i _ => kids.length - (intOf i).toNat)
            case atStart => exact ⟨0, Nat.zero_le _, rfl, Lib.hid (Ext.refl _), Lib.hid fun j h1 h2 hj => by omega⟩
            case round =>
              obtain ⟨j, hj, rfl, HXJ, HJ⟩ := hrel
              obtain ⟨wd, rfl⟩ : ∃ wd : World, wd = wr := ⟨_, rfl⟩
              have x4 : wd.cell? ⟨b1, off1 + k * 5 + 4, none⟩ = some (.slice kA kids.length kc) := (HXJ.out.cell (p := ⟨b1, off1 + k * 5 + 4, none⟩) HLT1.out).trans X4.out
              have y4 : wd.cell? ⟨b2, off2 + k * 5 + 4, none⟩ = some (.slice kA2 kids2.length kc2) := (HXJ.out.cell (p := ⟨b2, off2 + k * 5 + 4, none⟩) HLT2.out).trans Y4.out
              by_cases hjl : j < kids.length
              · have d1 : decide ((j : Int) < (kids.length : Int)) = true := decide_eq_true (by omega)
                have hjl2 : j < kids2.length := by have := HKK.out; omega
                obtain ⟨b3, off3, rfl, hb3, hk3⟩ := kids_at (HN1'.out.kids.ext HXJ.out) j hjl
                obtain ⟨b4, off4, rfl, hb4, hk4⟩ := kids_at (HN2'.out.kids.ext HXJ.out) j hjl2
                have q3 : (j : Int) < (kids.length : Int) := by omega
                have q4 : (j : Int) < (kids2.length : Int) := by omega
                have HJY : Hid (kids[j] = kids2[j] → ∀ i (h1 : i < kids.length) (h2 : i < kids2.length), i < j + 1 → kids[i] = kids2[i]) := Lib.hid (by
                  intro h i h1 h2 h3
                  by_cases hij : i = j
                  · subst hij; exact h
                  · exact HJ.out i h1 h2 (by omega))
                have HJN : Hid (kids[j] ≠ kids2[j] → b = false) := Lib.hid (by
                  intro h
                  refine HNO.out ?_
                  rw [← HKT.out, beq_eq_false_iff_ne]
                  rintro rfl
                  exact h rfl)
                simp only at hk3 hk4
                generalize kids[j] = u at *
                generalize kids2[j] = v at *
                by_cases huv : u = v
                · have HY := Lib.hid (HJY.out huv)
                  have e5 : (u == v) = true := by rw [huv]; simp
                  have e6 : (u != v) = false := by rw [huv]; simp
                  clear huv
                  go_wp2_with fail
                  go_quiet (fail)
                  have HX2 := Lib.hid (HXJ.out.drewN nq)
                  go_wp2_with fail
                  go_roundw
                  case rel => exact ⟨j + 1, by omega, by go_num, HX2, HY⟩
                  case measure => simp [intOf]; omega
                · have HB := Lib.hid (HJN.out huv)
                  have e5 : (u == v) = false := beq_eq_false_iff_ne.2 huv
                  have e6 : (u != v) = true := by rw [bne, e5]; rfl
                  clear huv
                  go_wp2_with fail
                  go_quiet (fail)
                  have HX2 := Lib.hid (HXJ.out.drewN nq)
                  go_wp2_with fail
                  go_ret
                  exact ⟨ret_b HB.out.symm, HX1.out.trans HX2.out⟩
              · obtain rfl : j = kids.length := by omega
                have d1 : decide ((kids.length : Int) < (kids.length : Int)) = false := by simp
                have HY := Lib.hid (HYES.out (by
                  rw [← HKT.out, beq_iff_eq]
                  exact List.ext_getElem HKK.out (fun i h1 h2 => HJ.out i h1 h2 h1)))
                have HX3 := Lib.hid (HX1.out.trans HXJ.out)
                go_wp2_with fail
                go_roundw
                case rel => exact ⟨k + 1, by omega, by go_num, HX3, HY⟩
                case measure => simp [intOf]; omega
          · have g0 : ((kids.length : Int) == (kids2.length : Int)) = false := by rw [beq_eq_false_iff_ne]; omega
            have g1 : ((kids.length : Int) != (kids2.length : Int)) = true := by rw [bne, g0]; rfl
            have HB := Lib.hid (HNO.out (by rw [← HKT.out, beq_eq_false_iff_ne]; rintro rfl; exact hkl2 rfl))
            clear hkl2
            go_wp2_with fail
            go_quiet (fail)
            rename_i nq
            have HX1 := Lib.hid (HX.out.drewN nq)
            go_wp2_with fail
            go_ret
            exact ⟨ret_b HB.out.symm, HX1.out⟩
      · obtain rfl : k = l.length := by omega
        have d0 : decide ((l.length : Int) < (l.length : Int)) = false := by simp
        have HB : Hid (b = true) := Lib.hid (by
          rw [← hb.out]
          exact sameM_yes HLW.out (fun j h1 h2 => HR.out j h1 h2 h1))
        go_wp2_with fail
        go_ret
        exact ⟨ret_b HB.out.symm, HX.out⟩
  · have e0 : ((l.length : Int) == (m.length : Int)) = false := by rw [beq_eq_false_iff_ne]; omega
    have e1 : ((l.length : Int) != (m.length : Int)) = true := by rw [bne, e0]; rfl
    have HB : Hid (b = false) := Lib.hid (by rw [← hb.out]; exact sameM_len hlw)
    go_enter Try.func39, Try.ntmps39
    go_wp2_with fail
    go_ret
    exact ⟨ret_b HB.out.symm, Ext.refl _⟩
end Go.Proofs.Ythofccoefiogiaa
