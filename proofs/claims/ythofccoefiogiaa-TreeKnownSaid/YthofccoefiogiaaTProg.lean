/- tree.Right and tree.Size, walked. -/
import Derived.Test.YthofccoefiogiaaTRight1
import Derived.Test.YthofccoefiogiaaTEnds
namespace Go.Proofs.Ythofccoefiogiaa
open Go Go.RowKit
set_option linter.unusedVariables false
set_option linter.unusedSimpArgs false
/-- What the statements ask of each node. -/
structure NodeSm (x : NodeM) : Prop where
  text : x.text.size ≤ 1000
  kids : x.kids.length ≤ 1000
theorem rightN_none {l : List NodeM} (h : endsN (ksOf l) = none) : rightN l = false := by unfold rightN; rw [h]; rfl
theorem rightN_some {l : List NodeM} {Z : List Nat} (h : endsN (ksOf l) = some Z) : rightN l = (kindAt l 0 == 1 && l.all (fitsM l)) := by unfold rightN; rw [h]; rfl
theorem nil_eql_nil (w : World) : (binOp .eql 29 (.slice none 0 0) (.slice none 0 0)).run Try.prog w = .ok (.bool true) w := by kernel_rfl
theorem some_eql_nil (w : World) (a : Addr) (n c : Nat) : (binOp .eql 29 (.slice (some a) n c) (.slice none 0 0)).run Try.prog w = .ok (.bool false) w := by kernel_rfl
set_option maxRecDepth 100000 in
set_option maxHeartbeats 8000000 in
theorem right_any (l : List NodeM) (A : Option Addr) (n c : Nat) (w : World) (hn : n = l.length) (ht : TreeM w A l) (hlen : l.length ≤ 1000) (hsm : ∀ x ∈ l, NodeSm x) (b : Bool) (hb : Hid (rightN l = b)) :
    Calls Try.prog 32 #[.agg #[.slice A n c]] w fun e w' => e = .returned (.bool b) ∧ Ext w w' := by
  subst hn
  have HT := Lib.hid ht
  have HSM := Lib.hid hsm
  clear ht hsm
  have s1 := nil_eql_nil
  have s2 := some_eql_nil
  obtain ⟨o, HO⟩ : ∃ o, Hid (endsN (ksOf l) = o) := ⟨_, Lib.hid rfl⟩
  have HB0 : Hid (Blk (w.alloc (.cells #[.slice A l.length c] 62)) w.heap.size 62 #[.slice A l.length c]) := Lib.hid (Blk.new _ _ _)
  have HX0 : Hid (Ext w (w.alloc (.cells #[.slice A l.length c] 62))) := Lib.hid (Ext.alloc _ _)
  go_enter Try.func32, Try.ntmps32
  have y0 := HB0.out.cell 0
  go_wp2_with fail
  refine (ends_any l A l.length c _ rfl (HT.out.ext HX0.out) hlen (fun x hx => (HSM.out x hx).kids) o HO).mono ?_
  rintro e w1 ⟨v, rfl, hv, hx1⟩
  have HB1 := Lib.hid (HB0.out.ext hx1)
  have HX1 : Hid (Ext w w1) := Lib.hid (HX0.out.trans hx1)
  clear hx1 y0
  cases o with
  | none =>
    have hv' : v = .slice none 0 0 := hv
    subst hv'
    have HB : Hid (b = false) := Lib.hid (by rw [← hb.out]; exact rightN_none HO.out)
    go_wp2_with fail
    go_ret
    exact ⟨ret_b HB.out.symm, HX1.out⟩
  | some Z =>
    obtain ⟨g, rfl, -⟩ := hv
    have hes := ends_some HO.out
    have hp : 0 < l.length := by have := hes.2.1; rw [ksOf_len] at this; omega
    have HIN := Lib.hid (right_inRange HO.out)
    have HRN := Lib.hid (rightN_some HO.out)
    clear hes
    have q0 : (0 : Int) < (l.length : Int) := by omega
    obtain ⟨bb, off, rfl, hbb, hcell⟩ := (HT.out.ext HX1.out).at_ 0 hp
    rw [Nat.zero_mul, Nat.add_zero] at hcell
    have k0 : w1.cell? ⟨bb, off, none⟩ = some (.int .u8 l[0].kind) := hcell 0 (by omega)
    have HK0 : Hid (kindAt l 0 = l[0].kind) := Lib.hid (kindAt_eq (a := 0) hp)
    clear hcell
    generalize l[0].kind = kz at *
    have y0 := HB1.out.cell 0
    generalize w.heap.size = gt at *
    cases hz : (kz == 1) with
    | false =>
      have hz' : (kz != 1) = true := by rw [bne, hz]; rfl
      have HB : Hid (b = false) := Lib.hid (by rw [← hb.out, HRN.out, HK0.out, hz]; rfl)
      go_wp2_with fail
      go_ret
      exact ⟨ret_b HB.out.symm, HX1.out⟩
    | true =>
      obtain rfl : kz = 1 := by simpa using hz
      clear hz
      obtain ⟨d, HD⟩ : ∃ d, Hid ((!l.all (fitsM l)) = d) := ⟨_, Lib.hid rfl⟩
      have HB : Hid ((!d) = b) := Lib.hid (by rw [← hb.out, HRN.out, HK0.out, ← HD.out, Bool.not_not]; rfl)
      go_wp2_with fail
      refine (contNode_any l _ l.length c gt w1 rfl (HT.out.ext HX1.out) hlen (fun x hx => ⟨(HSM.out x hx).text, (HSM.out x hx).kids, HIN.out x hx⟩) HB1.out d HD).mono ?_
      rintro e w2 ⟨rfl, hx2⟩
      have HX2 : Hid (Ext w w2) := Lib.hid (HX1.out.trans hx2)
      clear hx2 k0 y0
      go_wp2_with fail
      go_ret
      exact ⟨ret_b HB.out, HX2.out⟩
set_option maxRecDepth 100000 in
set_option maxHeartbeats 8000000 in
theorem size_any (l : List NodeM) (A : Option Addr) (n c : Nat) (i : Int) (w : World) (hn : n = l.length) (ht : TreeM w A l) (hlen : l.length ≤ 1000) (hsm : ∀ x ∈ l, NodeSm x) (r : Int) (hr : Hid (sizeM l i = r)) :
    Calls Try.prog 36 #[.agg #[.slice A n c], .int .i64 i] w fun e w' => e = .returned (.int .i64 r) ∧ Ext w w' := by
  subst hn
  have HT := Lib.hid ht
  have HSM := Lib.hid hsm
  clear ht hsm
  obtain ⟨d, HD⟩ : ∃ d, Hid (rightN l = d) := ⟨_, Lib.hid rfl⟩
  have HB0 : Hid (Blk (w.alloc (.cells #[.slice A l.length c] 62)) w.heap.size 62 #[.slice A l.length c]) := Lib.hid (Blk.new _ _ _)
  have HX0 : Hid (Ext w (w.alloc (.cells #[.slice A l.length c] 62))) := Lib.hid (Ext.alloc _ _)
  go_enter Try.func36, Try.ntmps36
  have y0 := HB0.out.cell 0
  go_wp2_with fail
  refine (right_any l A l.length c _ rfl (HT.out.ext HX0.out) hlen HSM.out d HD).mono ?_
  rintro e w1 ⟨rfl, hx1⟩
  have HB1 := Lib.hid (HB0.out.ext hx1)
  have HX1 : Hid (Ext w w1) := Lib.hid (HX0.out.trans hx1)
  clear hx1 y0
  generalize w.heap.size = gt at *
  have y0 := HB1.out.cell 0
  cases d with
  | false =>
    have HZ : Hid (r = 0) := Lib.hid (by rw [← hr.out]; unfold sizeM; rw [HD.out]; simp)
    go_wp2_with fail
    go_ret
    exact ⟨by rw [HZ.out]; rfl, HX1.out⟩
  | true =>
    by_cases h0 : i < 0
    · have d0 : decide (i < 0) = true := decide_eq_true h0
      have HZ : Hid (r = 0) := Lib.hid (by rw [← hr.out]; unfold sizeM; rw [if_neg (by omega)])
      go_wp2_with fail
      go_ret
      exact ⟨by rw [HZ.out]; rfl, HX1.out⟩
    · have d0 : decide (i < 0) = false := decide_eq_false h0
      by_cases h1 : i < (l.length : Int)
      · have d1 : decide (i ≥ (l.length : Int)) = false := decide_eq_false (by omega)
        have d2 : decide ((l.length : Int) ≤ i) = false := decide_eq_false (by omega)
        have q0 : (0 : Int) ≤ i := by omega
        go_wp2_with fail
        obtain ⟨Z, hZ⟩ := right_some HD.out
        have HZL : Hid (Z.length = l.length) := Lib.hid (by have := (ends_some hZ).1; rw [ksOf_len] at this; exact this)
        have HSZ : Hid (r = (Z.getD i.toNat 0 : Int) - i) := Lib.hid (by
          rw [← hr.out]
          have := sizeM_ends HD.out hZ i.toNat (by omega)
          rw [show ((i.toNat : Nat) : Int) = i from by omega] at this
          exact this)
        have HZB : Hid (Z.getD i.toNat 0 ≤ l.length) := Lib.hid (by
          have h3 := (ends_some hZ).2.2.2 i.toNat (by rw [ksOf_len]; omega)
          have h4 := (endD_gt h3).2
          rw [ksOf_len] at h4
          exact h4)
        have HO : Hid (endsN (ksOf l) = some Z) := Lib.hid hZ
        clear hZ
        refine (ends_any l A l.length c w1 rfl (HT.out.ext HX1.out) hlen (fun x hx => (HSM.out x hx).kids) (some Z) HO).mono ?_
        rintro e w2 ⟨v, rfl, hv, hx2⟩
        obtain ⟨g, rfl, hg⟩ := hv
        have HX2 : Hid (Ext w w2) := Lib.hid (HX1.out.trans hx2)
        clear hx2 y0
        obtain ⟨k, rfl⟩ : ∃ k : Nat, i = (k : Int) := ⟨i.toNat, by omega⟩
        rw [Int.toNat_natCast] at HSZ HZB
        have hzb := HZB.out
        have z0 : w2.cell? ⟨g, k, none⟩ = some (.int .i64 (Z.getD k 0 : Int)) := (hg.cell k).trans (zcells_at Z k (by have := HZL.out; omega))
        have q1 : (k : Int) < (Z.length : Int) := by have := HZL.out; omega
        clear hg
        generalize Z.getD k 0 = z at *
        go_wp2_with fail
        go_ret
        exact ⟨by rw [HSZ.out]; first | rfl | (congr 2; omega) | (go_num), HX2.out⟩
      · have d1 : decide (i ≥ (l.length : Int)) = true := decide_eq_true (by omega)
        have d2 : decide ((l.length : Int) ≤ i) = true := decide_eq_true (by omega)
        have HZ : Hid (r = 0) := Lib.hid (by rw [← hr.out]; unfold sizeM; rw [if_neg (by omega)])
        go_wp2_with fail
        go_ret
        exact ⟨by rw [HZ.out]; rfl, HX1.out⟩
end Go.Proofs.Ythofccoefiogiaa
