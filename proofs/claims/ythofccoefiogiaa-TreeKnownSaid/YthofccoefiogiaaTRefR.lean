/- The document's Right, walked. -/
import Derived.Test.YthofccoefiogiaaTRefB
import Derived.Test.YthofccoefiogiaaTRefK
import Derived.Test.YthofccoefiogiaaTRefWd
import Derived.Test.YthofccoefiogiaaTProg
namespace Go.Proofs.Ythofccoefiogiaa
open Go Go.RowKit
set_option linter.unusedVariables false
set_option linter.unusedSimpArgs false
section
variable {P : Program} {ops : Array Oper} {R : World → World → Prop} {w0 : World} {Q : Act → World → Prop}
theorem step_fact_on {o : Oper} {l : List Oper} {ks : List Take} {a : Act} {H : List (Option Tmp × (World → Prop))} {d : Option Tmp} {L : List Tmp} (F : Value → World → Prop) (hs : ∀ v w w', F v w → R w w' → F v w') (hw : Region.wanted o (yielded ops a.tmps) = true) (hd : o.dst = d) (hL : looksOf o = L)
    (h : ∀ w, R w0 w → (∀ p ∈ H, (∃ t, p.1 = some t ∧ t ∈ L) → p.2 w) → YieldsF P a.eval o w (fun v w' => F v w' ∧ R w w')) (hk : ∀ v, WalkF P ops R w0 Q l ks (a.put d v) ((d, F v) :: H)) : WalkF P ops R w0 Q (o :: l) (.fact F :: ks) a H := by
  subst hd hL
  refine WalkF_fact F hs (fun w hw' hH => ?_) hk
  rw [if_pos hw]
  exact h w hw' fun p hp ⟨t, ht, hm⟩ => hH p hp ⟨t, ht, List.mem_append_left _ hm⟩
end
theorem rightR_len {l : List NodeM} (h : l.length = 0) : rightR l = false := by unfold rightR; rw [h]; rfl
theorem rightR_kind {l : List NodeM} (h : (kindAt l 0 == 1) = false) : rightR l = false := by unfold rightR; rw [h]; simp
theorem rightR_range {l : List NodeM} (h : rangeB l = false) : rightR l = false := by unfold rightR; rw [h]; simp
theorem rightR_end {l : List NodeM} (h : endD (ksOf l) 0 ≠ some l.length) : rightR l = false := by unfold rightR; rw [decide_eq_false h]; simp
theorem rightR_all {l : List NodeM} (h0 : 0 < l.length) (h1 : (kindAt l 0 == 1) = true) (h2 : rangeB l = true) (h3 : endD (ksOf l) 0 = some l.length) : rightR l = l.all (nodeB l) := by
  unfold rightR; rw [decide_eq_true h0, h1, h2, decide_eq_true h3]; rfl
theorem rangeB_no {l : List NodeM} (i : Nat) (hi : i < l.length) (k : Int) (hk : k ∈ l[i].kids) (h : ¬ ((i : Int) < k ∧ k < (l.length : Int))) : rangeB l = false := by
  rw [Bool.eq_false_iff]
  intro hh
  exact h ((rangeB_iff l).1 hh i hi k (by rw [ksOf_getD l i hi]; exact hk))
theorem optI_eq (o : Option Nat) (n : Nat) : (optI o == (n : Int)) = decide (o = some n) := by
  cases o with
  | none => show ((-1 : Int) == (n : Int)) = _; rw [beq_eq_false_iff_ne.2 (by omega)]; simp
  | some a => show ((a : Int) == (n : Int)) = _; rw [Bool.eq_iff_iff]; simp; omega
set_option maxRecDepth 100000 in
set_option maxHeartbeats 16000000 in
theorem rRight_any (l : List NodeM) (A : Option Addr) (n c : Nat) (w : World) (hn : n = l.length) (ht : TreeM w A l) (hlen : l.length ≤ 1000) (hsm : ∀ x ∈ l, NodeSm x) (b : Bool) (hb : Hid (rightR l = b)) :
    Calls Try.prog 33 #[.slice A n c] w fun e w' => e = .returned (.bool b) ∧ Ext w w' := by
  subst hn
  have HT := Lib.hid ht
  have HSM := Lib.hid hsm
  clear ht hsm
  by_cases h0 : l.length = 0
  · have e0 : ((l.length : Int) == 0) = true := by rw [h0]; rfl
    have HB : Hid (b = false) := Lib.hid (by rw [← hb.out]; exact rightR_len h0)
    clear h0
    go_enter Try.func33, Try.ntmps33
    go_wp2_with fail
    go_ret
    exact ⟨ret_b HB.out.symm, Ext.refl _⟩
  · have hp : 0 < l.length := by omega
    have e0 : ((l.length : Int) == 0) = false := by rw [beq_eq_false_iff_ne]; omega
    have q0 : (0 : Int) < (l.length : Int) := by omega
    obtain ⟨bb, off, rfl, hbb, hcell⟩ := HT.out.at_ 0 hp
    rw [Nat.zero_mul, Nat.add_zero] at hcell
    have k0 : w.cell? ⟨bb, off, none⟩ = some (.int .u8 l[0].kind) := hcell 0 (by omega)
    have HK0 : Hid (kindAt l 0 = l[0].kind) := Lib.hid (kindAt_eq (a := 0) hp)
    clear hcell h0
    generalize l[0].kind = kz at *
    cases hz : (kz == 1) with
    | false =>
      have hz' : (kz != 1) = true := by rw [bne, hz]; rfl
      have HB : Hid (b = false) := Lib.hid (by rw [← hb.out]; exact rightR_kind (by rw [HK0.out]; exact hz))
      go_enter Try.func33, Try.ntmps33
      go_wp2_with fail
      go_ret
      exact ⟨ret_b HB.out.symm, Ext.refl _⟩
    | true =>
      obtain rfl : kz = 1 := by simpa using hz
      clear hz
      go_enter Try.func33, Try.ntmps33
      go_wp2_with fail
      clear k0
      go_loop [3] (fun i => ∃ k : Nat, k ≤ l.length ∧ i = .int .i64 k ∧ Hid (∀ i (hi : i < l.length), i < k → ∀ y ∈ l[i].kids, (i : Int) < y ∧ y < (l.length : Int))) (fun i => l.length - (intOf i).toNat)
      case atStart => exact ⟨0, Nat.zero_le _, rfl, Lib.hid fun i hi h => by omega⟩
      case round =>
        obtain ⟨k, hk, rfl, HR⟩ := hrel
        by_cases hlt : k < l.length
        · have d0 : decide ((k : Int) < (l.length : Int)) = true := decide_eq_true (by omega)
          have q1 : (k : Int) < (l.length : Int) := by omega
          obtain ⟨b1, off1, hA, hb1, hcell⟩ := HT.out.at_ k hlt
          injection hA with hA
          injection hA with hA1 hA2
          subst hA1 hA2
          have HNO : Hid (NodeOk w l[k]) := Lib.hid (HT.out.ok _ (List.getElem_mem hlt))
          have hkn : l[k].kids.length ≤ 1000 := (HSM.out _ (List.getElem_mem hlt)).kids
          have HBAD : Hid (∀ y ∈ l[k].kids, ¬ ((k : Int) < y ∧ y < (l.length : Int)) → b = false) := Lib.hid (fun y hy h => by rw [← hb.out]; exact rightR_range (rangeB_no k hlt y hy h))
          have HST : Hid ((∀ y ∈ l[k].kids, (k : Int) < y ∧ y < (l.length : Int)) → ∀ i (hi : i < l.length), i < k + 1 → ∀ y ∈ l[i].kids, (i : Int) < y ∧ y < (l.length : Int)) := Lib.hid (by
            intro h i hi h2
            by_cases hik : i = k
            · subst hik; exact h
            · exact HR.out i hi (by omega))
          generalize l[k] = x at *
          obtain ⟨kind, pos, text, num, kA, kc, kids⟩ := x
          have c4 : w.cell? ⟨bb, off + k * 5 + 4, none⟩ = some (.slice kA kids.length kc) := hcell 4 (by omega)
          clear hcell
          simp only at hkn HBAD HST
          go_wp2_with fail
          go_loop [4] (fun i => ∃ j : Nat, j ≤ kids.length ∧ i = .int .i64 j ∧ Hid (∀ i (hi : i < kids.length), i < j → (k : Int) < kids[i] ∧ kids[i] < (l.length : Int))) (fun i => kids.length - (intOf i).toNat)
          case atStart => exact ⟨0, Nat.zero_le _, rfl, Lib.hid fun i hi h => by omega⟩
          case round =>
            obtain ⟨j, hj, rfl, HJ⟩ := hrel
            by_cases hjl : j < kids.length
            · have d1 : decide ((j : Int) < (kids.length : Int)) = true := decide_eq_true (by omega)
              have q2 : (j : Int) < (kids.length : Int) := by omega
              obtain ⟨b2, off2, rfl, hb2, hk2⟩ := kids_at HNO.out.kids j hjl
              have HBJ : Hid (¬ ((k : Int) < kids[j] ∧ kids[j] < (l.length : Int)) → b = false) := Lib.hid (HBAD.out _ (List.getElem_mem hjl))
              have HSJ : Hid (((k : Int) < kids[j] ∧ kids[j] < (l.length : Int)) → ∀ i (hi : i < kids.length), i < j + 1 → (k : Int) < kids[i] ∧ kids[i] < (l.length : Int)) := Lib.hid (by
                intro h i hi h2
                by_cases hij : i = j
                · subst hij; exact h
                · exact HJ.out i hi (by omega))
              simp only at hk2
              generalize kids[j] = y at *
              by_cases hy1 : (k : Int) < y
              · have f1 : decide (y ≤ (k : Int)) = false := decide_eq_false (by omega)
                by_cases hy2 : y < (l.length : Int)
                · have f2 : decide (y ≥ (l.length : Int)) = false := decide_eq_false (by omega)
                  have f3 : decide ((l.length : Int) ≤ y) = false := decide_eq_false (by omega)
                  have HS2 := Lib.hid (HSJ.out ⟨hy1, hy2⟩)
                  clear hy1 hy2
                  go_wp2_with fail
                  go_round
                  case rel => exact ⟨j + 1, by omega, by go_num, HS2⟩
                  case measure => simp [intOf]; omega
                · have f2 : decide (y ≥ (l.length : Int)) = true := decide_eq_true (by omega)
                  have f3 : decide ((l.length : Int) ≤ y) = true := decide_eq_true (by omega)
                  have HB := Lib.hid (HBJ.out (fun h => hy2 h.2))
                  clear hy1 hy2
                  go_wp2_with fail
                  go_ret
                  exact ⟨ret_b HB.out.symm, Ext.refl _⟩
              · have f1 : decide (y ≤ (k : Int)) = true := decide_eq_true (by omega)
                have HB := Lib.hid (HBJ.out (fun h => hy1 h.1))
                clear hy1
                go_wp2_with fail
                go_ret
                exact ⟨ret_b HB.out.symm, Ext.refl _⟩
            · obtain rfl : j = kids.length := by omega
              have d1 : decide ((kids.length : Int) < (kids.length : Int)) = false := by simp
              have HS2 := Lib.hid (HST.out (fun y hy => by obtain ⟨i, hi, rfl⟩ := List.getElem_of_mem hy; exact HJ.out i hi hi))
              go_wp2_with fail
              go_round
              case rel => exact ⟨k + 1, by omega, by go_num, HS2⟩
              case measure => simp [intOf]; omega
        · obtain rfl : k = l.length := by omega
          have d0 : decide ((l.length : Int) < (l.length : Int)) = false := by simp
          have HRB : Hid (rangeB l = true) := Lib.hid ((rangeB_iff l).2 (fun i hi y hy => HR.out i hi hi y (by rw [← ksOf_getD l i hi]; exact hy)))
          have HE : Hid (endI l 0 = optI (endD (ksOf l) 0)) := Lib.hid rfl
          obtain ⟨eo, heo⟩ : ∃ eo, endD (ksOf l) 0 = eo := ⟨_, rfl⟩
          rw [heo] at HE
          have HEO := Lib.hid heo
          clear heo HR
          cases he : (optI eo == (l.length : Int)) with
          | false =>
            have he' : (optI eo != (l.length : Int)) = true := by rw [bne, he]; rfl
            have HB : Hid (b = false) := Lib.hid (by
              rw [← hb.out]
              refine rightR_end ?_
              rw [HEO.out]
              intro h
              rw [optI_eq, decide_eq_true h] at he
              cases he)
            go_wp2_with (refine (end_any l _ l.length c w rfl HT.out hlen (fun x hx => (HSM.out x hx).kids) l.length 0 (optI eo) 0 (by omega) rfl (by omega) HE).mono ?_; rintro e w2 ⟨rfl, rfl⟩)
            go_ret
            exact ⟨ret_b HB.out.symm, Ext.refl _⟩
          | true =>
            have he' : (optI eo != (l.length : Int)) = false := by rw [bne, he]; rfl
            have HALL : Hid (l.all (nodeB l) = b) := Lib.hid (by
              rw [← hb.out]
              symm
              refine rightR_all hp (by rw [HK0.out]; rfl) HRB.out ?_
              rw [HEO.out]
              rw [optI_eq] at he
              exact of_decide_eq_true he)
            have HIN : Hid (∀ x ∈ l, InRange l x.kids) := Lib.hid (by
              intro x hx y hy
              obtain ⟨i, hi, rfl⟩ := List.getElem_of_mem hx
              have h1 := (rangeB_iff l).1 HRB.out i hi y (by rw [ksOf_getD l i hi]; exact hy)
              exact ⟨y.toNat, by omega, by omega⟩)
            go_wp2_with (refine (end_any l _ l.length c w rfl HT.out hlen (fun x hx => (HSM.out x hx).kids) l.length 0 (optI eo) 0 (by omega) rfl (by omega) HE).mono ?_; rintro e w2 ⟨rfl, rfl⟩)
            clear he he'
            go_loopw [5] (fun i wr => ∃ k : Nat, k ≤ l.length ∧ i = .int .i64 k ∧ Hid (Ext w wr) ∧ Hid (∀ i (hi : i < l.length), i < k → nodeB l l[i] = true)) (fun i _ => l.length - (intOf i).toNat)
            case atStart => exact ⟨0, Nat.zero_le _, rfl, Lib.hid (Ext.refl _), Lib.hid fun i hi h => by omega⟩
            case round =>
              obtain ⟨k, hk, rfl, HX, HR⟩ := hrel
              obtain ⟨wa, rfl⟩ : ∃ wa : World, wa = wr := ⟨_, rfl⟩
              by_cases hlt : k < l.length
              · have d0 : decide ((k : Int) < (l.length : Int)) = true := decide_eq_true (by omega)
                have q1 : (k : Int) < (l.length : Int) := by omega
                have HT1 := Lib.hid (HT.out.ext HX.out)
                obtain ⟨b1, off1, hA, hb1, hcell⟩ := HT1.out.at_ k hlt
                injection hA with hA
                injection hA with hA1 hA2
                subst hA1 hA2
                have HNO : Hid (NodeOk wa l[k]) := Lib.hid (HT1.out.ok _ (List.getElem_mem hlt))
                have HNI : Hid (InRange l l[k].kids) := Lib.hid (HIN.out _ (List.getElem_mem hlt))
                have HNS : Hid (NodeSm l[k]) := Lib.hid (HSM.out _ (List.getElem_mem hlt))
                obtain ⟨t, ht⟩ : ∃ t, nodeB l l[k] = t := ⟨_, rfl⟩
                have HYES : Hid (t = true → ∀ i (hi : i < l.length), i < k + 1 → nodeB l l[i] = true) := Lib.hid (by
                  intro h i hi h2
                  by_cases hik : i = k
                  · subst hik; rw [ht]; exact h
                  · exact HR.out i hi (by omega))
                have HNOT : Hid (t = false → b = false) := Lib.hid (by
                  intro h
                  rw [← HALL.out, Bool.eq_false_iff]
                  intro hh
                  have := List.all_eq_true.1 hh l[k] (List.getElem_mem hlt)
                  rw [ht, h] at this
                  cases this)
                generalize l[k] = x at *
                obtain ⟨kind, pos, text, num, kA, kc, kids⟩ := x
                have c0 : wa.cell? ⟨bb, off + k * 5, none⟩ = some (.int .u8 kind) := hcell 0 (by omega)
                have c1 : wa.cell? ⟨bb, off + k * 5 + 1, none⟩ = some (.int .i64 pos) := hcell 1 (by omega)
                have c2 : wa.cell? ⟨bb, off + k * 5 + 2, none⟩ = some (.string text) := hcell 2 (by omega)
                have c3 : wa.cell? ⟨bb, off + k * 5 + 3, none⟩ = some (.int .i64 num) := hcell 3 (by omega)
                have c4 : wa.cell? ⟨bb, off + k * 5 + 4, none⟩ = some (.slice kA kids.length kc) := hcell 4 (by omega)
                clear hcell
                have HTV : Hid (t = (decide (1 ≤ kind) && (decide (kind ≤ 26) && (wordsN kind num text.data.toList && kidsOk kind (kindsOf l kids))))) := Lib.hid ht.symm
                clear ht
                go_upto_region 16 with fail
                by_cases hk1 : 1 ≤ kind
                · have f1 : decide (kind < 1) = false := decide_eq_false (by omega)
                  have f1' : ¬ kind < 1 := by omega
                  by_cases hk2 : kind ≤ 26
                  · have f2 : decide (kind > 26) = false := decide_eq_false (by omega)
                    have f2' : ¬ 26 < kind := by omega
                    have HTW : Hid (t = (wordsN kind num text.data.toList && kidsOk kind (kindsOf l kids))) := Lib.hid (by rw [HTV.out, decide_eq_true hk1, decide_eq_true hk2]; rfl)
                    obtain ⟨tw, HW⟩ : ∃ x, Hid (wordsN kind num text.data.toList = x) := ⟨_, Lib.hid rfl⟩
                    rw [HW.out] at HTW
                    cases tw with
                    | false =>
                      have HB : Hid (b = false) := Lib.hid (HNOT.out (by rw [HTW.out]; rfl))
                      apply wp_region_ext (by kernel_rfl) (by kernel_rfl) (by kernel_rfl)
                      apply step_det (.slice (some ⟨bb, off, none⟩) l.length c) rfl rfl rfl
                      · intro w' hw' hH
                        clear hH
                        simp [YieldsF, go_sem, q1]
                        exact Ext.refl _
                      apply step_det (.int .i64 (k : Int)) rfl rfl rfl
                      · intro w' hw' hH
                        clear hH
                        simp [YieldsF, go_sem, q1]
                        exact Ext.refl _
                      apply step_det (.pointer (some ⟨bb, off + k * 5, none⟩)) rfl rfl rfl
                      · intro w' hw' hH
                        clear hH
                        simp [YieldsF, go_sem, q1]
                        exact Ext.refl _
                      apply step_det (.pointer (some ⟨bb, off + k * 5, none⟩)) rfl rfl rfl
                      · intro w' hw' hH
                        clear hH
                        simp [YieldsF, go_sem, q1]
                        exact Ext.refl _
                      apply step_det (.int .u8 kind) rfl rfl rfl
                      · intro w' hw' hH
                        clear hH
                        have z0 := (hw'.cell (p := ⟨bb, off + k * 5, none⟩) hb1).trans c0
                        simp [YieldsF, go_sem, z0, q1]
                        exact Ext.refl _
                      apply step_det (.bool false) rfl rfl rfl
                      · intro w' hw' hH
                        clear hH
                        simp [YieldsF, go_sem, f1']
                        exact Ext.refl _
                      apply step_det (.bool false) rfl rfl rfl
                      · intro w' hw' hH
                        clear hH
                        simp [YieldsF, go_sem, q1]
                        exact Ext.refl _
                      apply step_on (.slice (some ⟨bb, off, none⟩) l.length c) (by kernel_rfl) rfl rfl
                      · intro w' hw' hH
                        clear hH
                        simp [YieldsF, go_sem, q1]
                        exact Ext.refl _
                      apply step_on (.int .i64 (k : Int)) (by kernel_rfl) rfl rfl
                      · intro w' hw' hH
                        clear hH
                        simp [YieldsF, go_sem, q1]
                        exact Ext.refl _
                      apply step_on (.pointer (some ⟨bb, off + k * 5, none⟩)) (by kernel_rfl) rfl rfl
                      · intro w' hw' hH
                        clear hH
                        simp [YieldsF, go_sem, q1]
                        exact Ext.refl _
                      apply step_on (.pointer (some ⟨bb, off + k * 5, none⟩)) (by kernel_rfl) rfl rfl
                      · intro w' hw' hH
                        clear hH
                        simp [YieldsF, go_sem, q1]
                        exact Ext.refl _
                      apply step_on (.int .u8 kind) (by kernel_rfl) rfl rfl
                      · intro w' hw' hH
                        clear hH
                        have z0 := (hw'.cell (p := ⟨bb, off + k * 5, none⟩) hb1).trans c0
                        simp [YieldsF, go_sem, z0, q1]
                        exact Ext.refl _
                      apply step_on (.bool false) (by kernel_rfl) rfl rfl
                      · intro w' hw' hH
                        clear hH
                        simp [YieldsF, go_sem, f2']
                        exact Ext.refl _
                      apply step_det (.bool false) rfl rfl rfl
                      · intro w' hw' hH
                        clear hH
                        simp [YieldsF, go_sem, q1]
                        exact Ext.refl _
                      apply step_det (.bool false) rfl rfl rfl
                      · intro w' hw' hH
                        clear hH
                        simp [YieldsF, go_sem, q1]
                        exact Ext.refl _
                      apply step_on (.slice (some ⟨bb, off, none⟩) l.length c) (by kernel_rfl) rfl rfl
                      · intro w' hw' hH
                        clear hH
                        simp [YieldsF, go_sem, q1]
                        exact Ext.refl _
                      apply step_on (.int .i64 (k : Int)) (by kernel_rfl) rfl rfl
                      · intro w' hw' hH
                        clear hH
                        simp [YieldsF, go_sem, q1]
                        exact Ext.refl _
                      apply step_on (.pointer (some ⟨bb, off + k * 5, none⟩)) (by kernel_rfl) rfl rfl
                      · intro w' hw' hH
                        clear hH
                        simp [YieldsF, go_sem, q1]
                        exact Ext.refl _
                      apply step_on (.agg #[.int .u8 kind, .int .i64 pos, .string text, .int .i64 num, .slice kA kids.length kc]) (by kernel_rfl) rfl rfl
                      · intro w' hw' hH
                        clear hH
                        have z0 := (hw'.cell (p := ⟨bb, off + k * 5, none⟩) hb1).trans c0
                        have z1 := (hw'.cell (p := ⟨bb, off + k * 5 + 1, none⟩) hb1).trans c1
                        have z2 := (hw'.cell (p := ⟨bb, off + k * 5 + 2, none⟩) hb1).trans c2
                        have z3 := (hw'.cell (p := ⟨bb, off + k * 5 + 3, none⟩) hb1).trans c3
                        have z4 := (hw'.cell (p := ⟨bb, off + k * 5 + 4, none⟩) hb1).trans c4
                        simp [YieldsF, go_sem, z0, z1, z2, z3, z4, q1]
                        exact Ext.refl _
                      apply step_on (.bool false) (by kernel_rfl) rfl rfl
                      · intro w' hw' hH
                        clear hH
                        simp [YieldsF, go_sem]
                        refine (words_any ⟨kind, pos, text, num, kA, kc, kids⟩ w' ⟨by omega, by omega⟩ HNS.out.text false HW.out).mono ?_
                        rintro e w2 ⟨rfl, hx⟩
                        exact ⟨_, rfl, rfl, hx⟩
                      apply step_on (.bool true) (by kernel_rfl) rfl rfl
                      · intro w' hw' hH
                        clear hH
                        simp [YieldsF, go_sem, q1]
                        exact Ext.refl _
                      apply step_det (.bool true) rfl rfl rfl
                      · intro w' hw' hH
                        clear hH
                        simp [YieldsF, go_sem, q1]
                        exact Ext.refl _
                      apply step_det (.bool true) rfl rfl rfl
                      · intro w' hw' hH
                        clear hH
                        simp [YieldsF, go_sem, q1]
                        exact Ext.refl _
                      apply step_off (by kernel_rfl) rfl
                      apply step_off (by kernel_rfl) rfl
                      apply step_off (by kernel_rfl) rfl
                      apply step_off (by kernel_rfl) rfl
                      apply step_off (by kernel_rfl) rfl
                      apply step_off (by kernel_rfl) rfl
                      apply step_off (by kernel_rfl) rfl
                      apply step_off (by kernel_rfl) rfl
                      apply step_off (by kernel_rfl) rfl
                      apply step_off (by kernel_rfl) rfl
                      apply step_off (by kernel_rfl) rfl
                      apply step_off (by kernel_rfl) rfl
                      apply step_off (by kernel_rfl) rfl
                      apply step_det (.bool true) rfl rfl rfl
                      · intro w' hw' hH
                        clear hH
                        simp [YieldsF, go_sem, q1]
                        exact Ext.refl _
                      apply WalkF_nil
                      intro w2 hw2 hH
                      clear hH
                      have HX2 : Hid (Ext w w2) := Lib.hid (HX.out.trans hw2)
                      clear hw2
                      try simp only [Act.put, List.setIfInBounds_toArray, List.set_cons_zero, List.set_cons_succ]
                      go_wp2_with fail
                      go_ret
                      exact ⟨ret_b HB.out.symm, HX2.out⟩
                    | true =>
                      obtain ⟨tk, HK⟩ : ∃ x, Hid (kidsOk kind (kindsOf l kids) = x) := ⟨_, Lib.hid rfl⟩
                      have HKL : Hid ((kindsOf l kids).length = kids.length) := Lib.hid (by simp [kindsOf])
                      have HTT : Hid (t = tk) := Lib.hid (by rw [HTW.out, HK.out]; simp)
                      cases tk with
                      | false =>
                        have HB : Hid (b = false) := Lib.hid (HNOT.out HTT.out)
                        apply wp_region_ext (by kernel_rfl) (by kernel_rfl) (by kernel_rfl)
                        apply step_det (.slice (some ⟨bb, off, none⟩) l.length c) rfl rfl rfl
                        · intro w' hw' hH
                          clear hH
                          simp [YieldsF, go_sem, q1]
                          exact Ext.refl _
                        apply step_det (.int .i64 (k : Int)) rfl rfl rfl
                        · intro w' hw' hH
                          clear hH
                          simp [YieldsF, go_sem, q1]
                          exact Ext.refl _
                        apply step_det (.pointer (some ⟨bb, off + k * 5, none⟩)) rfl rfl rfl
                        · intro w' hw' hH
                          clear hH
                          simp [YieldsF, go_sem, q1]
                          exact Ext.refl _
                        apply step_det (.pointer (some ⟨bb, off + k * 5, none⟩)) rfl rfl rfl
                        · intro w' hw' hH
                          clear hH
                          simp [YieldsF, go_sem, q1]
                          exact Ext.refl _
                        apply step_det (.int .u8 kind) rfl rfl rfl
                        · intro w' hw' hH
                          clear hH
                          have z0 := (hw'.cell (p := ⟨bb, off + k * 5, none⟩) hb1).trans c0
                          simp [YieldsF, go_sem, z0, q1]
                          exact Ext.refl _
                        apply step_det (.bool false) rfl rfl rfl
                        · intro w' hw' hH
                          clear hH
                          simp [YieldsF, go_sem, f1']
                          exact Ext.refl _
                        apply step_det (.bool false) rfl rfl rfl
                        · intro w' hw' hH
                          clear hH
                          simp [YieldsF, go_sem, q1]
                          exact Ext.refl _
                        apply step_on (.slice (some ⟨bb, off, none⟩) l.length c) (by kernel_rfl) rfl rfl
                        · intro w' hw' hH
                          clear hH
                          simp [YieldsF, go_sem, q1]
                          exact Ext.refl _
                        apply step_on (.int .i64 (k : Int)) (by kernel_rfl) rfl rfl
                        · intro w' hw' hH
                          clear hH
                          simp [YieldsF, go_sem, q1]
                          exact Ext.refl _
                        apply step_on (.pointer (some ⟨bb, off + k * 5, none⟩)) (by kernel_rfl) rfl rfl
                        · intro w' hw' hH
                          clear hH
                          simp [YieldsF, go_sem, q1]
                          exact Ext.refl _
                        apply step_on (.pointer (some ⟨bb, off + k * 5, none⟩)) (by kernel_rfl) rfl rfl
                        · intro w' hw' hH
                          clear hH
                          simp [YieldsF, go_sem, q1]
                          exact Ext.refl _
                        apply step_on (.int .u8 kind) (by kernel_rfl) rfl rfl
                        · intro w' hw' hH
                          clear hH
                          have z0 := (hw'.cell (p := ⟨bb, off + k * 5, none⟩) hb1).trans c0
                          simp [YieldsF, go_sem, z0, q1]
                          exact Ext.refl _
                        apply step_on (.bool false) (by kernel_rfl) rfl rfl
                        · intro w' hw' hH
                          clear hH
                          simp [YieldsF, go_sem, f2']
                          exact Ext.refl _
                        apply step_det (.bool false) rfl rfl rfl
                        · intro w' hw' hH
                          clear hH
                          simp [YieldsF, go_sem, q1]
                          exact Ext.refl _
                        apply step_det (.bool false) rfl rfl rfl
                        · intro w' hw' hH
                          clear hH
                          simp [YieldsF, go_sem, q1]
                          exact Ext.refl _
                        apply step_on (.slice (some ⟨bb, off, none⟩) l.length c) (by kernel_rfl) rfl rfl
                        · intro w' hw' hH
                          clear hH
                          simp [YieldsF, go_sem, q1]
                          exact Ext.refl _
                        apply step_on (.int .i64 (k : Int)) (by kernel_rfl) rfl rfl
                        · intro w' hw' hH
                          clear hH
                          simp [YieldsF, go_sem, q1]
                          exact Ext.refl _
                        apply step_on (.pointer (some ⟨bb, off + k * 5, none⟩)) (by kernel_rfl) rfl rfl
                        · intro w' hw' hH
                          clear hH
                          simp [YieldsF, go_sem, q1]
                          exact Ext.refl _
                        apply step_on (.agg #[.int .u8 kind, .int .i64 pos, .string text, .int .i64 num, .slice kA kids.length kc]) (by kernel_rfl) rfl rfl
                        · intro w' hw' hH
                          clear hH
                          have z0 := (hw'.cell (p := ⟨bb, off + k * 5, none⟩) hb1).trans c0
                          have z1 := (hw'.cell (p := ⟨bb, off + k * 5 + 1, none⟩) hb1).trans c1
                          have z2 := (hw'.cell (p := ⟨bb, off + k * 5 + 2, none⟩) hb1).trans c2
                          have z3 := (hw'.cell (p := ⟨bb, off + k * 5 + 3, none⟩) hb1).trans c3
                          have z4 := (hw'.cell (p := ⟨bb, off + k * 5 + 4, none⟩) hb1).trans c4
                          simp [YieldsF, go_sem, z0, z1, z2, z3, z4, q1]
                          exact Ext.refl _
                        apply step_on (.bool true) (by kernel_rfl) rfl rfl
                        · intro w' hw' hH
                          clear hH
                          simp [YieldsF, go_sem]
                          refine (words_any ⟨kind, pos, text, num, kA, kc, kids⟩ w' ⟨by omega, by omega⟩ HNS.out.text true HW.out).mono ?_
                          rintro e w2 ⟨rfl, hx⟩
                          exact ⟨_, rfl, rfl, hx⟩
                        apply step_on (.bool false) (by kernel_rfl) rfl rfl
                        · intro w' hw' hH
                          clear hH
                          simp [YieldsF, go_sem, q1]
                          exact Ext.refl _
                        apply step_det (.bool false) rfl rfl rfl
                        · intro w' hw' hH
                          clear hH
                          simp [YieldsF, go_sem, q1]
                          exact Ext.refl _
                        apply step_det (.bool false) rfl rfl rfl
                        · intro w' hw' hH
                          clear hH
                          simp [YieldsF, go_sem, q1]
                          exact Ext.refl _
                        apply step_on (.slice (some ⟨bb, off, none⟩) l.length c) (by kernel_rfl) rfl rfl
                        · intro w' hw' hH
                          clear hH
                          simp [YieldsF, go_sem, q1]
                          exact Ext.refl _
                        apply step_on (.int .i64 (k : Int)) (by kernel_rfl) rfl rfl
                        · intro w' hw' hH
                          clear hH
                          simp [YieldsF, go_sem, q1]
                          exact Ext.refl _
                        apply step_on (.pointer (some ⟨bb, off + k * 5, none⟩)) (by kernel_rfl) rfl rfl
                        · intro w' hw' hH
                          clear hH
                          simp [YieldsF, go_sem, q1]
                          exact Ext.refl _
                        apply step_on (.pointer (some ⟨bb, off + k * 5, none⟩)) (by kernel_rfl) rfl rfl
                        · intro w' hw' hH
                          clear hH
                          simp [YieldsF, go_sem, q1]
                          exact Ext.refl _
                        apply step_on (.int .u8 kind) (by kernel_rfl) rfl rfl
                        · intro w' hw' hH
                          clear hH
                          have z0 := (hw'.cell (p := ⟨bb, off + k * 5, none⟩) hb1).trans c0
                          simp [YieldsF, go_sem, z0, q1]
                          exact Ext.refl _
                        apply step_on (.slice (some ⟨bb, off, none⟩) l.length c) (by kernel_rfl) rfl rfl
                        · intro w' hw' hH
                          clear hH
                          simp [YieldsF, go_sem, q1]
                          exact Ext.refl _
                        apply step_on (.slice (some ⟨bb, off, none⟩) l.length c) (by kernel_rfl) rfl rfl
                        · intro w' hw' hH
                          clear hH
                          simp [YieldsF, go_sem, q1]
                          exact Ext.refl _
                        apply step_on (.int .i64 (k : Int)) (by kernel_rfl) rfl rfl
                        · intro w' hw' hH
                          clear hH
                          simp [YieldsF, go_sem, q1]
                          exact Ext.refl _
                        apply step_on (.pointer (some ⟨bb, off + k * 5, none⟩)) (by kernel_rfl) rfl rfl
                        · intro w' hw' hH
                          clear hH
                          simp [YieldsF, go_sem, q1]
                          exact Ext.refl _
                        apply step_on (.agg #[.int .u8 kind, .int .i64 pos, .string text, .int .i64 num, .slice kA kids.length kc]) (by kernel_rfl) rfl rfl
                        · intro w' hw' hH
                          clear hH
                          have z0 := (hw'.cell (p := ⟨bb, off + k * 5, none⟩) hb1).trans c0
                          have z1 := (hw'.cell (p := ⟨bb, off + k * 5 + 1, none⟩) hb1).trans c1
                          have z2 := (hw'.cell (p := ⟨bb, off + k * 5 + 2, none⟩) hb1).trans c2
                          have z3 := (hw'.cell (p := ⟨bb, off + k * 5 + 3, none⟩) hb1).trans c3
                          have z4 := (hw'.cell (p := ⟨bb, off + k * 5 + 4, none⟩) hb1).trans c4
                          simp [YieldsF, go_sem, z0, z1, z2, z3, z4, q1]
                          exact Ext.refl _
                        apply step_fact_on (fun v w' => ∃ A' c', v = .slice A' kids.length c' ∧ Cells w' A' (bcells (kindsOf l kids))) (by rintro v w w' ⟨A', c', h1, h2⟩ hx; exact ⟨A', c', h1, h2.ext hx⟩) (by kernel_rfl) rfl rfl
                        · intro w' hw' hH
                          clear hH
                          simp [YieldsF, go_sem]
                          refine (kinds_any l _ l.length c ⟨kind, pos, text, num, kA, kc, kids⟩ w' rfl (HT1.out.ext hw') hlen HNS.out.kids (HNO.out.ext hw') HNI.out).mono ?_
                          rintro e w2 ⟨A', c', rfl, h1, h2⟩
                          exact ⟨_, rfl, ⟨A', ⟨c', rfl⟩, h1⟩, h2⟩
                        intro vk
                        apply step_on (.bool false) (by kernel_rfl) rfl rfl
                        · intro w' hw' hH
                          obtain ⟨A', c', h1, h2⟩ := hH _ (List.mem_cons_self ..) ⟨99, rfl, by decide⟩
                          subst h1
                          clear hH
                          simp [YieldsF, go_sem]
                          refine (kids_any kind ⟨by omega, by omega⟩ A' (kindsOf l kids) _ c' w' HKL.out.symm h2 (by have := HKL.out; have := HNS.out.kids; simp only at this; omega) false HK.out).mono ?_
                          rintro e w2 ⟨rfl, hx⟩
                          exact ⟨_, rfl, rfl, hx⟩
                        apply step_on (.bool true) (by kernel_rfl) rfl rfl
                        · intro w' hw' hH
                          clear hH
                          simp [YieldsF, go_sem, q1]
                          exact Ext.refl _
                        apply step_det (.bool true) rfl rfl rfl
                        · intro w' hw' hH
                          clear hH
                          simp [YieldsF, go_sem, q1]
                          exact Ext.refl _
                        apply WalkF_nil
                        intro w2 hw2 hH
                        clear hH
                        have HX2 : Hid (Ext w w2) := Lib.hid (HX.out.trans hw2)
                        clear hw2
                        try simp only [Act.put, List.setIfInBounds_toArray, List.set_cons_zero, List.set_cons_succ]
                        go_wp2_with fail
                        go_ret
                        exact ⟨ret_b HB.out.symm, HX2.out⟩
                      | true =>
                        have HY := Lib.hid (HYES.out HTT.out)
                        apply wp_region_ext (by kernel_rfl) (by kernel_rfl) (by kernel_rfl)
                        apply step_det (.slice (some ⟨bb, off, none⟩) l.length c) rfl rfl rfl
                        · intro w' hw' hH
                          clear hH
                          simp [YieldsF, go_sem, q1]
                          exact Ext.refl _
                        apply step_det (.int .i64 (k : Int)) rfl rfl rfl
                        · intro w' hw' hH
                          clear hH
                          simp [YieldsF, go_sem, q1]
                          exact Ext.refl _
                        apply step_det (.pointer (some ⟨bb, off + k * 5, none⟩)) rfl rfl rfl
                        · intro w' hw' hH
                          clear hH
                          simp [YieldsF, go_sem, q1]
                          exact Ext.refl _
                        apply step_det (.pointer (some ⟨bb, off + k * 5, none⟩)) rfl rfl rfl
                        · intro w' hw' hH
                          clear hH
                          simp [YieldsF, go_sem, q1]
                          exact Ext.refl _
                        apply step_det (.int .u8 kind) rfl rfl rfl
                        · intro w' hw' hH
                          clear hH
                          have z0 := (hw'.cell (p := ⟨bb, off + k * 5, none⟩) hb1).trans c0
                          simp [YieldsF, go_sem, z0, q1]
                          exact Ext.refl _
                        apply step_det (.bool false) rfl rfl rfl
                        · intro w' hw' hH
                          clear hH
                          simp [YieldsF, go_sem, f1']
                          exact Ext.refl _
                        apply step_det (.bool false) rfl rfl rfl
                        · intro w' hw' hH
                          clear hH
                          simp [YieldsF, go_sem, q1]
                          exact Ext.refl _
                        apply step_on (.slice (some ⟨bb, off, none⟩) l.length c) (by kernel_rfl) rfl rfl
                        · intro w' hw' hH
                          clear hH
                          simp [YieldsF, go_sem, q1]
                          exact Ext.refl _
                        apply step_on (.int .i64 (k : Int)) (by kernel_rfl) rfl rfl
                        · intro w' hw' hH
                          clear hH
                          simp [YieldsF, go_sem, q1]
                          exact Ext.refl _
                        apply step_on (.pointer (some ⟨bb, off + k * 5, none⟩)) (by kernel_rfl) rfl rfl
                        · intro w' hw' hH
                          clear hH
                          simp [YieldsF, go_sem, q1]
                          exact Ext.refl _
                        apply step_on (.pointer (some ⟨bb, off + k * 5, none⟩)) (by kernel_rfl) rfl rfl
                        · intro w' hw' hH
                          clear hH
                          simp [YieldsF, go_sem, q1]
                          exact Ext.refl _
                        apply step_on (.int .u8 kind) (by kernel_rfl) rfl rfl
                        · intro w' hw' hH
                          clear hH
                          have z0 := (hw'.cell (p := ⟨bb, off + k * 5, none⟩) hb1).trans c0
                          simp [YieldsF, go_sem, z0, q1]
                          exact Ext.refl _
                        apply step_on (.bool false) (by kernel_rfl) rfl rfl
                        · intro w' hw' hH
                          clear hH
                          simp [YieldsF, go_sem, f2']
                          exact Ext.refl _
                        apply step_det (.bool false) rfl rfl rfl
                        · intro w' hw' hH
                          clear hH
                          simp [YieldsF, go_sem, q1]
                          exact Ext.refl _
                        apply step_det (.bool false) rfl rfl rfl
                        · intro w' hw' hH
                          clear hH
                          simp [YieldsF, go_sem, q1]
                          exact Ext.refl _
                        apply step_on (.slice (some ⟨bb, off, none⟩) l.length c) (by kernel_rfl) rfl rfl
                        · intro w' hw' hH
                          clear hH
                          simp [YieldsF, go_sem, q1]
                          exact Ext.refl _
                        apply step_on (.int .i64 (k : Int)) (by kernel_rfl) rfl rfl
                        · intro w' hw' hH
                          clear hH
                          simp [YieldsF, go_sem, q1]
                          exact Ext.refl _
                        apply step_on (.pointer (some ⟨bb, off + k * 5, none⟩)) (by kernel_rfl) rfl rfl
                        · intro w' hw' hH
                          clear hH
                          simp [YieldsF, go_sem, q1]
                          exact Ext.refl _
                        apply step_on (.agg #[.int .u8 kind, .int .i64 pos, .string text, .int .i64 num, .slice kA kids.length kc]) (by kernel_rfl) rfl rfl
                        · intro w' hw' hH
                          clear hH
                          have z0 := (hw'.cell (p := ⟨bb, off + k * 5, none⟩) hb1).trans c0
                          have z1 := (hw'.cell (p := ⟨bb, off + k * 5 + 1, none⟩) hb1).trans c1
                          have z2 := (hw'.cell (p := ⟨bb, off + k * 5 + 2, none⟩) hb1).trans c2
                          have z3 := (hw'.cell (p := ⟨bb, off + k * 5 + 3, none⟩) hb1).trans c3
                          have z4 := (hw'.cell (p := ⟨bb, off + k * 5 + 4, none⟩) hb1).trans c4
                          simp [YieldsF, go_sem, z0, z1, z2, z3, z4, q1]
                          exact Ext.refl _
                        apply step_on (.bool true) (by kernel_rfl) rfl rfl
                        · intro w' hw' hH
                          clear hH
                          simp [YieldsF, go_sem]
                          refine (words_any ⟨kind, pos, text, num, kA, kc, kids⟩ w' ⟨by omega, by omega⟩ HNS.out.text true HW.out).mono ?_
                          rintro e w2 ⟨rfl, hx⟩
                          exact ⟨_, rfl, rfl, hx⟩
                        apply step_on (.bool false) (by kernel_rfl) rfl rfl
                        · intro w' hw' hH
                          clear hH
                          simp [YieldsF, go_sem, q1]
                          exact Ext.refl _
                        apply step_det (.bool false) rfl rfl rfl
                        · intro w' hw' hH
                          clear hH
                          simp [YieldsF, go_sem, q1]
                          exact Ext.refl _
                        apply step_det (.bool false) rfl rfl rfl
                        · intro w' hw' hH
                          clear hH
                          simp [YieldsF, go_sem, q1]
                          exact Ext.refl _
                        apply step_on (.slice (some ⟨bb, off, none⟩) l.length c) (by kernel_rfl) rfl rfl
                        · intro w' hw' hH
                          clear hH
                          simp [YieldsF, go_sem, q1]
                          exact Ext.refl _
                        apply step_on (.int .i64 (k : Int)) (by kernel_rfl) rfl rfl
                        · intro w' hw' hH
                          clear hH
                          simp [YieldsF, go_sem, q1]
                          exact Ext.refl _
                        apply step_on (.pointer (some ⟨bb, off + k * 5, none⟩)) (by kernel_rfl) rfl rfl
                        · intro w' hw' hH
                          clear hH
                          simp [YieldsF, go_sem, q1]
                          exact Ext.refl _
                        apply step_on (.pointer (some ⟨bb, off + k * 5, none⟩)) (by kernel_rfl) rfl rfl
                        · intro w' hw' hH
                          clear hH
                          simp [YieldsF, go_sem, q1]
                          exact Ext.refl _
                        apply step_on (.int .u8 kind) (by kernel_rfl) rfl rfl
                        · intro w' hw' hH
                          clear hH
                          have z0 := (hw'.cell (p := ⟨bb, off + k * 5, none⟩) hb1).trans c0
                          simp [YieldsF, go_sem, z0, q1]
                          exact Ext.refl _
                        apply step_on (.slice (some ⟨bb, off, none⟩) l.length c) (by kernel_rfl) rfl rfl
                        · intro w' hw' hH
                          clear hH
                          simp [YieldsF, go_sem, q1]
                          exact Ext.refl _
                        apply step_on (.slice (some ⟨bb, off, none⟩) l.length c) (by kernel_rfl) rfl rfl
                        · intro w' hw' hH
                          clear hH
                          simp [YieldsF, go_sem, q1]
                          exact Ext.refl _
                        apply step_on (.int .i64 (k : Int)) (by kernel_rfl) rfl rfl
                        · intro w' hw' hH
                          clear hH
                          simp [YieldsF, go_sem, q1]
                          exact Ext.refl _
                        apply step_on (.pointer (some ⟨bb, off + k * 5, none⟩)) (by kernel_rfl) rfl rfl
                        · intro w' hw' hH
                          clear hH
                          simp [YieldsF, go_sem, q1]
                          exact Ext.refl _
                        apply step_on (.agg #[.int .u8 kind, .int .i64 pos, .string text, .int .i64 num, .slice kA kids.length kc]) (by kernel_rfl) rfl rfl
                        · intro w' hw' hH
                          clear hH
                          have z0 := (hw'.cell (p := ⟨bb, off + k * 5, none⟩) hb1).trans c0
                          have z1 := (hw'.cell (p := ⟨bb, off + k * 5 + 1, none⟩) hb1).trans c1
                          have z2 := (hw'.cell (p := ⟨bb, off + k * 5 + 2, none⟩) hb1).trans c2
                          have z3 := (hw'.cell (p := ⟨bb, off + k * 5 + 3, none⟩) hb1).trans c3
                          have z4 := (hw'.cell (p := ⟨bb, off + k * 5 + 4, none⟩) hb1).trans c4
                          simp [YieldsF, go_sem, z0, z1, z2, z3, z4, q1]
                          exact Ext.refl _
                        apply step_fact_on (fun v w' => ∃ A' c', v = .slice A' kids.length c' ∧ Cells w' A' (bcells (kindsOf l kids))) (by rintro v w w' ⟨A', c', h1, h2⟩ hx; exact ⟨A', c', h1, h2.ext hx⟩) (by kernel_rfl) rfl rfl
                        · intro w' hw' hH
                          clear hH
                          simp [YieldsF, go_sem]
                          refine (kinds_any l _ l.length c ⟨kind, pos, text, num, kA, kc, kids⟩ w' rfl (HT1.out.ext hw') hlen HNS.out.kids (HNO.out.ext hw') HNI.out).mono ?_
                          rintro e w2 ⟨A', c', rfl, h1, h2⟩
                          exact ⟨_, rfl, ⟨A', ⟨c', rfl⟩, h1⟩, h2⟩
                        intro vk
                        apply step_on (.bool true) (by kernel_rfl) rfl rfl
                        · intro w' hw' hH
                          obtain ⟨A', c', h1, h2⟩ := hH _ (List.mem_cons_self ..) ⟨99, rfl, by decide⟩
                          subst h1
                          clear hH
                          simp [YieldsF, go_sem]
                          refine (kids_any kind ⟨by omega, by omega⟩ A' (kindsOf l kids) _ c' w' HKL.out.symm h2 (by have := HKL.out; have := HNS.out.kids; simp only at this; omega) true HK.out).mono ?_
                          rintro e w2 ⟨rfl, hx⟩
                          exact ⟨_, rfl, rfl, hx⟩
                        apply step_on (.bool false) (by kernel_rfl) rfl rfl
                        · intro w' hw' hH
                          clear hH
                          simp [YieldsF, go_sem, q1]
                          exact Ext.refl _
                        apply step_det (.bool false) rfl rfl rfl
                        · intro w' hw' hH
                          clear hH
                          simp [YieldsF, go_sem, q1]
                          exact Ext.refl _
                        apply WalkF_nil
                        intro w2 hw2 hH
                        clear hH
                        have HX2 : Hid (Ext w w2) := Lib.hid (HX.out.trans hw2)
                        clear hw2
                        try simp only [Act.put, List.setIfInBounds_toArray, List.set_cons_zero, List.set_cons_succ]
                        go_wp2_with fail
                        go_roundw
                        case rel => exact ⟨k + 1, by omega, by go_num, HX2, HY⟩
                        case measure => simp [intOf]; omega
                  · have f2' : 26 < kind := by omega
                    have HB : Hid (b = false) := Lib.hid (HNOT.out (by rw [HTV.out, decide_eq_false hk2]; simp))
                    apply wp_region_ext (by kernel_rfl) (by kernel_rfl) (by kernel_rfl)
                    apply step_det (.slice (some ⟨bb, off, none⟩) l.length c) rfl rfl rfl
                    · intro w' hw' hH
                      clear hH
                      simp [YieldsF, go_sem, q1]
                      exact Ext.refl _
                    apply step_det (.int .i64 (k : Int)) rfl rfl rfl
                    · intro w' hw' hH
                      clear hH
                      simp [YieldsF, go_sem, q1]
                      exact Ext.refl _
                    apply step_det (.pointer (some ⟨bb, off + k * 5, none⟩)) rfl rfl rfl
                    · intro w' hw' hH
                      clear hH
                      simp [YieldsF, go_sem, q1]
                      exact Ext.refl _
                    apply step_det (.pointer (some ⟨bb, off + k * 5, none⟩)) rfl rfl rfl
                    · intro w' hw' hH
                      clear hH
                      simp [YieldsF, go_sem, q1]
                      exact Ext.refl _
                    apply step_det (.int .u8 kind) rfl rfl rfl
                    · intro w' hw' hH
                      clear hH
                      have z0 := (hw'.cell (p := ⟨bb, off + k * 5, none⟩) hb1).trans c0
                      simp [YieldsF, go_sem, z0, q1]
                      exact Ext.refl _
                    apply step_det (.bool false) rfl rfl rfl
                    · intro w' hw' hH
                      clear hH
                      simp [YieldsF, go_sem, f1']
                      exact Ext.refl _
                    apply step_det (.bool false) rfl rfl rfl
                    · intro w' hw' hH
                      clear hH
                      simp [YieldsF, go_sem, q1]
                      exact Ext.refl _
                    apply step_on (.slice (some ⟨bb, off, none⟩) l.length c) (by kernel_rfl) rfl rfl
                    · intro w' hw' hH
                      clear hH
                      simp [YieldsF, go_sem, q1]
                      exact Ext.refl _
                    apply step_on (.int .i64 (k : Int)) (by kernel_rfl) rfl rfl
                    · intro w' hw' hH
                      clear hH
                      simp [YieldsF, go_sem, q1]
                      exact Ext.refl _
                    apply step_on (.pointer (some ⟨bb, off + k * 5, none⟩)) (by kernel_rfl) rfl rfl
                    · intro w' hw' hH
                      clear hH
                      simp [YieldsF, go_sem, q1]
                      exact Ext.refl _
                    apply step_on (.pointer (some ⟨bb, off + k * 5, none⟩)) (by kernel_rfl) rfl rfl
                    · intro w' hw' hH
                      clear hH
                      simp [YieldsF, go_sem, q1]
                      exact Ext.refl _
                    apply step_on (.int .u8 kind) (by kernel_rfl) rfl rfl
                    · intro w' hw' hH
                      clear hH
                      have z0 := (hw'.cell (p := ⟨bb, off + k * 5, none⟩) hb1).trans c0
                      simp [YieldsF, go_sem, z0, q1]
                      exact Ext.refl _
                    apply step_on (.bool true) (by kernel_rfl) rfl rfl
                    · intro w' hw' hH
                      clear hH
                      simp [YieldsF, go_sem, f2']
                      exact Ext.refl _
                    apply step_det (.bool true) rfl rfl rfl
                    · intro w' hw' hH
                      clear hH
                      simp [YieldsF, go_sem, q1]
                      exact Ext.refl _
                    apply step_det (.bool true) rfl rfl rfl
                    · intro w' hw' hH
                      clear hH
                      simp [YieldsF, go_sem, q1]
                      exact Ext.refl _
                    apply step_off (by kernel_rfl) rfl
                    apply step_off (by kernel_rfl) rfl
                    apply step_off (by kernel_rfl) rfl
                    apply step_off (by kernel_rfl) rfl
                    apply step_off (by kernel_rfl) rfl
                    apply step_off (by kernel_rfl) rfl
                    apply step_det (.bool true) rfl rfl rfl
                    · intro w' hw' hH
                      clear hH
                      simp [YieldsF, go_sem, q1]
                      exact Ext.refl _
                    apply step_det (.bool true) rfl rfl rfl
                    · intro w' hw' hH
                      clear hH
                      simp [YieldsF, go_sem, q1]
                      exact Ext.refl _
                    apply step_off (by kernel_rfl) rfl
                    apply step_off (by kernel_rfl) rfl
                    apply step_off (by kernel_rfl) rfl
                    apply step_off (by kernel_rfl) rfl
                    apply step_off (by kernel_rfl) rfl
                    apply step_off (by kernel_rfl) rfl
                    apply step_off (by kernel_rfl) rfl
                    apply step_off (by kernel_rfl) rfl
                    apply step_off (by kernel_rfl) rfl
                    apply step_off (by kernel_rfl) rfl
                    apply step_off (by kernel_rfl) rfl
                    apply step_off (by kernel_rfl) rfl
                    apply step_off (by kernel_rfl) rfl
                    apply step_det (.bool true) rfl rfl rfl
                    · intro w' hw' hH
                      clear hH
                      simp [YieldsF, go_sem, q1]
                      exact Ext.refl _
                    apply WalkF_nil
                    intro w2 hw2 hH
                    clear hH
                    have HX2 : Hid (Ext w w2) := Lib.hid (HX.out.trans hw2)
                    clear hw2
                    try simp only [Act.put, List.setIfInBounds_toArray, List.set_cons_zero, List.set_cons_succ]
                    go_wp2_with fail
                    go_ret
                    exact ⟨ret_b HB.out.symm, HX2.out⟩
                · have f1' : kind < 1 := by omega
                  have HB : Hid (b = false) := Lib.hid (HNOT.out (by rw [HTV.out, decide_eq_false hk1]; simp))
                  apply wp_region_ext (by kernel_rfl) (by kernel_rfl) (by kernel_rfl)
                  apply step_det (.slice (some ⟨bb, off, none⟩) l.length c) rfl rfl rfl
                  · intro w' hw' hH
                    clear hH
                    simp [YieldsF, go_sem, q1]
                    exact Ext.refl _
                  apply step_det (.int .i64 (k : Int)) rfl rfl rfl
                  · intro w' hw' hH
                    clear hH
                    simp [YieldsF, go_sem, q1]
                    exact Ext.refl _
                  apply step_det (.pointer (some ⟨bb, off + k * 5, none⟩)) rfl rfl rfl
                  · intro w' hw' hH
                    clear hH
                    simp [YieldsF, go_sem, q1]
                    exact Ext.refl _
                  apply step_det (.pointer (some ⟨bb, off + k * 5, none⟩)) rfl rfl rfl
                  · intro w' hw' hH
                    clear hH
                    simp [YieldsF, go_sem, q1]
                    exact Ext.refl _
                  apply step_det (.int .u8 kind) rfl rfl rfl
                  · intro w' hw' hH
                    clear hH
                    have z0 := (hw'.cell (p := ⟨bb, off + k * 5, none⟩) hb1).trans c0
                    simp [YieldsF, go_sem, z0, q1]
                    exact Ext.refl _
                  apply step_det (.bool true) rfl rfl rfl
                  · intro w' hw' hH
                    clear hH
                    simp [YieldsF, go_sem, f1']
                    exact Ext.refl _
                  apply step_det (.bool true) rfl rfl rfl
                  · intro w' hw' hH
                    clear hH
                    simp [YieldsF, go_sem, q1]
                    exact Ext.refl _
                  apply step_off (by kernel_rfl) rfl
                  apply step_off (by kernel_rfl) rfl
                  apply step_off (by kernel_rfl) rfl
                  apply step_off (by kernel_rfl) rfl
                  apply step_off (by kernel_rfl) rfl
                  apply step_off (by kernel_rfl) rfl
                  apply step_det (.bool true) rfl rfl rfl
                  · intro w' hw' hH
                    clear hH
                    simp [YieldsF, go_sem, q1]
                    exact Ext.refl _
                  apply step_det (.bool true) rfl rfl rfl
                  · intro w' hw' hH
                    clear hH
                    simp [YieldsF, go_sem, q1]
                    exact Ext.refl _
                  apply step_off (by kernel_rfl) rfl
                  apply step_off (by kernel_rfl) rfl
                  apply step_off (by kernel_rfl) rfl
                  apply step_off (by kernel_rfl) rfl
                  apply step_off (by kernel_rfl) rfl
                  apply step_off (by kernel_rfl) rfl
                  apply step_det (.bool true) rfl rfl rfl
                  · intro w' hw' hH
                    clear hH
                    simp [YieldsF, go_sem, q1]
                    exact Ext.refl _
                  apply step_det (.bool true) rfl rfl rfl
                  · intro w' hw' hH
                    clear hH
                    simp [YieldsF, go_sem, q1]
                    exact Ext.refl _
                  apply step_off (by kernel_rfl) rfl
                  apply step_off (by kernel_rfl) rfl
                  apply step_off (by kernel_rfl) rfl
                  apply step_off (by kernel_rfl) rfl
                  apply step_off (by kernel_rfl) rfl
                  apply step_off (by kernel_rfl) rfl
                  apply step_off (by kernel_rfl) rfl
                  apply step_off (by kernel_rfl) rfl
                  apply step_off (by kernel_rfl) rfl
                  apply step_off (by kernel_rfl) rfl
                  apply step_off (by kernel_rfl) rfl
                  apply step_off (by kernel_rfl) rfl
                  apply step_off (by kernel_rfl) rfl
                  apply step_det (.bool true) rfl rfl rfl
                  · intro w' hw' hH
                    clear hH
                    simp [YieldsF, go_sem, q1]
                    exact Ext.refl _
                  apply WalkF_nil
                  intro w2 hw2 hH
                  clear hH
                  have HX2 : Hid (Ext w w2) := Lib.hid (HX.out.trans hw2)
                  clear hw2
                  try simp only [Act.put, List.setIfInBounds_toArray, List.set_cons_zero, List.set_cons_succ]
                  go_wp2_with fail
                  go_ret
                  exact ⟨ret_b HB.out.symm, HX2.out⟩
              · obtain rfl : k = l.length := by omega
                have d0 : decide ((l.length : Int) < (l.length : Int)) = false := by simp
                have HB : Hid (b = true) := Lib.hid (by
                  rw [← HALL.out, List.all_eq_true]
                  intro x hx
                  obtain ⟨i, hi, rfl⟩ := List.getElem_of_mem hx
                  exact HR.out i hi hi)
                go_wp2_with fail
                go_ret
                exact ⟨ret_b HB.out.symm, HX.out⟩
end Go.Proofs.Ythofccoefiogiaa
