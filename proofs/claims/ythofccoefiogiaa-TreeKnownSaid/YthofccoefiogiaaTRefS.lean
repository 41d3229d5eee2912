/- The document's Deep, Size and Same, walked. -/
import Derived.Test.YthofccoefiogiaaTRefR
import Derived.Test.YthofccoefiogiaaTRefD
namespace Go.Proofs.Ythofccoefiogiaa
open Go Go.RowKit
set_option linter.unusedVariables false
set_option linter.unusedSimpArgs false
theorem rightR_rangeB {l : List NodeM} (h : rightR l = true) : rangeB l = true ∧ 0 < l.length := by
  unfold rightR at h
  simp only [Bool.and_eq_true, decide_eq_true_eq] at h
  exact ⟨h.2.2.1, h.1⟩
set_option maxRecDepth 100000 in
set_option maxHeartbeats 8000000 in
theorem rDeep_any (l : List NodeM) (A : Option Addr) (n c : Nat) (w : World) (hn : n = l.length) (ht : TreeM w A l) (hlen : l.length ≤ 1000) (hsm : ∀ x ∈ l, NodeSm x) (r : Int) (hr : Hid (deepRM l = r)) :
    Calls Try.prog 35 #[.slice A n c] w fun e w' => e = .returned (.int .i64 r) ∧ Ext w w' := by
  subst hn
  have HT := Lib.hid ht
  have HSM := Lib.hid hsm
  clear ht hsm
  obtain ⟨d, HD⟩ : ∃ d, Hid (rightR l = d) := ⟨_, Lib.hid rfl⟩
  go_enter Try.func35, Try.ntmps35
  go_wp2_with fail
  refine (rRight_any l A l.length c w rfl HT.out hlen HSM.out d HD).mono ?_
  rintro e w1 ⟨rfl, hx1⟩
  have HX1 := Lib.hid hx1
  clear hx1
  cases d with
  | false =>
    have HZ : Hid (r = 0) := Lib.hid (by rw [← hr.out]; unfold deepRM; rw [HD.out]; rfl)
    go_wp2_with fail
    go_ret
    exact ⟨by rw [HZ.out]; rfl, HX1.out⟩
  | true =>
    have HRG := Lib.hid (rightR_rangeB HD.out)
    have HZ : Hid (deepF (kdOf l) (ksOf l) l.length 0 0 = r) := Lib.hid (by rw [← hr.out]; unfold deepRM; rw [HD.out]; rfl)
    go_wp2_with fail
    refine (deep_any l A l.length c rfl hlen (fun x hx => (HSM.out x hx).kids) HRG.out.1 l.length 0 0 0 r w1 (HT.out.ext HX1.out) hlen (by omega) rfl HRG.out.2 HZ).mono ?_
    rintro e w2 ⟨rfl, hx2⟩
    have HX2 : Hid (Ext w w2) := Lib.hid (HX1.out.trans hx2)
    clear hx2
    go_wp2_with fail
    go_ret
    exact ⟨rfl, HX2.out⟩
set_option maxRecDepth 100000 in
set_option maxHeartbeats 8000000 in
theorem rSize_any (l : List NodeM) (A : Option Addr) (n c : Nat) (i : Int) (w : World) (hn : n = l.length) (ht : TreeM w A l) (hlen : l.length ≤ 1000) (hsm : ∀ x ∈ l, NodeSm x) (r : Int) (hr : Hid (sizeM l i = r)) :
    Calls Try.prog 37 #[.slice A n c, .int .i64 i] w fun e w' => e = .returned (.int .i64 r) ∧ Ext w w' := by
  subst hn
  have HT := Lib.hid ht
  have HSM := Lib.hid hsm
  clear ht hsm
  obtain ⟨d, HD⟩ : ∃ d, Hid (rightR l = d) := ⟨_, Lib.hid rfl⟩
  have HDN : Hid (rightN l = d) := Lib.hid ((right_law l).trans HD.out)
  go_enter Try.func37, Try.ntmps37
  go_wp2_with fail
  refine (rRight_any l A l.length c w rfl HT.out hlen HSM.out d HD).mono ?_
  rintro e w1 ⟨rfl, hx1⟩
  have HX1 := Lib.hid hx1
  clear hx1
  cases d with
  | false =>
    have HZ : Hid (r = 0) := Lib.hid (by rw [← hr.out]; unfold sizeM; rw [HDN.out]; simp)
    go_wp2_with fail
    go_ret
    exact ⟨by rw [HZ.out]; rfl, HX1.out⟩
  | true =>
    by_cases h0 : i < 0
    · have d0 : decide (i < 0) = true := decide_eq_true h0
      have HZ : Hid (r = 0) := Lib.hid (by rw [← hr.out]; unfold sizeM; rw [if_neg (by omega)])
      go_wp2_with fail
      go_ret
      exact ⟨by rw [HZ.out]; rfl, HX1.out⟩
    · have d0 : decide (i < 0) = false := decide_eq_false h0
      by_cases h1 : i < (l.length : Int)
      · have d1 : decide (i ≥ (l.length : Int)) = false := decide_eq_false (by omega)
        have d2 : decide ((l.length : Int) ≤ i) = false := decide_eq_false (by omega)
        go_wp2_with fail
        obtain ⟨Z, hZ⟩ := right_some HDN.out
        have HE : Hid (endI l i.toNat = (Z.getD i.toNat 0 : Int)) := Lib.hid (by
          have h3 := (ends_some hZ).2.2.2 i.toNat (by rw [ksOf_len]; omega)
          unfold endI
          rw [h3]
          rfl)
        have HSZ : Hid (r = (Z.getD i.toNat 0 : Int) - i) := Lib.hid (by
          rw [← hr.out]
          have := sizeM_ends HDN.out hZ i.toNat (by omega)
          rw [show ((i.toNat : Nat) : Int) = i from by omega] at this
          exact this)
        have HZB : Hid (Z.getD i.toNat 0 ≤ l.length) := Lib.hid (by
          have h3 := (ends_some hZ).2.2.2 i.toNat (by rw [ksOf_len]; omega)
          have h4 := (endD_gt h3).2
          rw [ksOf_len] at h4
          exact h4)
        clear hZ
        generalize Z.getD i.toNat 0 = z at *
        have hzb := HZB.out
        refine (end_any l A l.length c w1 rfl (HT.out.ext HX1.out) hlen (fun x hx => (HSM.out x hx).kids) l.length i.toNat (z : Int) i (by omega) (by omega) (by omega) HE).mono ?_
        rintro e w2 ⟨rfl, rfl⟩
        go_wp2_with fail
        go_ret
        exact ⟨by rw [HSZ.out]; first | rfl | (congr 2; omega) | (go_num), HX1.out⟩
      · have d1 : decide (i ≥ (l.length : Int)) = true := decide_eq_true (by omega)
        have d2 : decide ((l.length : Int) ≤ i) = true := decide_eq_true (by omega)
        have HZ : Hid (r = 0) := Lib.hid (by rw [← hr.out]; unfold sizeM; rw [if_neg (by omega)])
        go_wp2_with fail
        go_ret
        exact ⟨by rw [HZ.out]; rfl, HX1.out⟩
end Go.Proofs.Ythofccoefiogiaa
