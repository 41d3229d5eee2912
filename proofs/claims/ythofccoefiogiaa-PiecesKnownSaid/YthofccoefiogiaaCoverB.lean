/- PiecesCover, walked. No condition. -/
import Derived.Test.YthofccoefiogiaaCover
namespace Go.Proofs.Ythofccoefiogiaa
open Go Go.RowKit
set_option linter.unusedVariables false
set_option linter.unusedSimpArgs false
set_option maxHeartbeats 1000000 in
theorem cover_long (A : Option Addr) (n cap : Nat) (way : Int) (w : World) (h : 200 < n) :
    Calls Try.prog 5 #[.slice A n cap, .int .u8 way] w fun e w' => e = .returned (.bool true) ∧ Ext w w' := by
  have e1 : decide ((200 : Int) < (n : Int)) = true := by simp; omega
  go_enter Try.func5, Try.ntmps5
  go_wp2_with fail
  refine (works10 _).mono ?_
  rintro e w1 ⟨rfl, hx1⟩
  have HX1 := Lib.hid hx1
  clear hx1
  go_wp2_with fail
  go_ret
  exact ⟨rfl, HX1.out⟩
theorem of_at (A : Option Addr) (is : List InstrD) (n cap : Nat) (way x r : Int) (w : World) (hn : n = is.length) (hlen : is.length ≤ 1000) (hc : Cells w A (icells is)) (us : List (Nat × Nat)) (hus : Hid (unitsN (opsOf is) way = us)) (hul : us.length ≤ 2000) (hr : Hid (ofA x us 0 = r)) :
    Calls Try.prog 22 #[.slice A n cap, .int .u8 way, .int .i64 x] w fun e w' => e = .returned (.int .i64 r) ∧ Ext w w' := by
  subst hn
  rw [← hr.out, ← hus.out]
  exact ofP_any A is cap way x hlen w hc (by rw [hus.out]; exact hul)
set_option maxHeartbeats 8000000 in
set_option maxRecDepth 4000 in
theorem cover_short (A : Option Addr) (is : List InstrD) (cap : Nat) (way : Int) (w : World) (h200 : is.length ≤ 200) (hc : Cells w A (icells is)) :
    Calls Try.prog 5 #[.slice A is.length cap, .int .u8 way] w fun e w' => e = .returned (.bool true) ∧ Ext w w' := by
  have e1 : decide ((200 : Int) < (is.length : Int)) = false := by simp; omega
  have hol : (opsOf is).length = is.length := by simp [opsOf]
  obtain ⟨l1, l2, l3, l4⟩ := units_law (opsOf is) way (by omega)
  rw [hol] at l3 l4
  have hop := fun i (h : i < is.length) => opsOf_at is i h
  obtain ⟨us, HUS⟩ : ∃ us, Hid (unitsN (opsOf is) way = us) := ⟨_, Lib.hid rfl⟩
  rw [HUS.out] at l1 l2 l3
  have L4 : Hid (∀ (i : Nat) (h : i < us.length), us[i].1 = endU us i ∧ endU us (i + 1) = us[i].2 ∧ us[i].1 < us[i].2 ∧ us[i].2 ≤ is.length ∧ (i + 1 < us.length → (opsOf is).getD (us[i].2 - 1) 0 = 15) ∧ ∀ k : Int, (us[i].1 : Int) ≤ k → k < (us[i].2 : Int) → ofA k us 0 = (i : Int)) := Lib.hid (by
    have := HUS.out
    subst this
    exact l4)
  have L2 := Lib.hid l2
  have L3 := Lib.hid l3
  have HC := Lib.hid hc
  have HOP := Lib.hid hop
  clear l2 l3 l4 hc hop
  go_enter Try.func5, Try.ntmps5
  go_wp2_with fail
  refine (units_v A is _ cap way us w rfl (by omega) HC.out HUS).mono ?_
  rintro e w1 ⟨A', c', rfl, _, hcu, hx⟩
  have HCU := Lib.hid hcu
  have HX1 := Lib.hid hx
  have HC1 := Lib.hid (HC.out.ext hx)
  clear hcu hx HC
  go_wp2_with fail
  go_loopw [5, 7] (fun at_ i wr => ∃ m : Nat, m ≤ us.length ∧ i = .int .i64 m ∧ at_ = .int .i64 (endU us m : Int) ∧ Hid (Ext w1 wr)) (fun _ i _ => us.length - (intOf i).toNat)
  case atStart => exact ⟨0, Nat.zero_le _, rfl, rfl, Ext.refl _⟩
  case round =>
    obtain ⟨m, hm, rfl, rfl, HX⟩ := hrel
    obtain ⟨wa, rfl⟩ : ∃ wa : World, wa = wr := ⟨_, rfl⟩
    by_cases hml : m < us.length
    · obtain ⟨bu, ou, rfl, hbu, hcc⟩ := HCU.out.at_ (by rw [ucells_len]; omega)
      obtain ⟨t1, t2⟩ := ucells_at us m hml
      obtain ⟨g1, g2, g3, g4, g5, g6⟩ := L4.out m hml
      have B1 := (hcc _ (by rw [ucells_len]; omega)).trans t1
      have B2 : w1.cell? ⟨bu, ou + m * 2 + 1, none⟩ = some (.int .i64 ((us[m]).2 : Int)) := by rw [Nat.add_assoc]; exact (hcc _ (by rw [ucells_len]; omega)).trans t2
      have G2 := Lib.hid g2
      clear t1 t2 hcc g2
      generalize us[m] = uu at *
      obtain ⟨fr, to⟩ := uu
      obtain ⟨q, rfl⟩ : ∃ q, to = q + 1 := ⟨to - 1, by simp only at g3; omega⟩
      simp only [Nat.add_sub_cancel] at g1 g3 g4 g5 g6 B1 B2 G2
      generalize endU us m = em at *
      subst g1
      have G6 := Lib.hid g6
      have hq : ((q + 1 : Nat) : Int) = (q : Int) + 1 := by omega
      rw [hq] at B2
      have HB1 := Lib.hid B1
      have HB2 := Lib.hid B2
      have hbu' : bu < w1.heap.size := hbu
      clear B1 B2 g6
      obtain ⟨b, off, rfl, hb, hcc⟩ := HC1.out.at_ (by rw [icells_len]; omega)
      have hqn : q < is.length := by omega
      have O1 : w1.cell? ⟨b, off + q * 13, none⟩ = some (.int .u8 (is[q]).op) := (hcc _ (by rw [icells_len]; omega)).trans (icells_at is q 0 hqn (by omega))
      have ho := HOP.out q hqn
      rw [ho] at g5
      generalize is[q] = xq at *
      have HO1 := Lib.hid O1
      have hb' : b < w1.heap.size := hb
      clear O1 hcc ho
      have c1 : wa.cell? ⟨bu, ou + m * 2, none⟩ = some (.int .i64 (fr : Int)) := (HX.out.cell (p := ⟨bu, _, none⟩) hbu').trans HB1.out
      have c2 : wa.cell? ⟨bu, ou + m * 2 + 1, none⟩ = some (.int .i64 ((q : Int) + 1)) := (HX.out.cell (p := ⟨bu, _, none⟩) hbu').trans HB2.out
      have c3 : wa.cell? ⟨b, off + q * 13, none⟩ = some (.int .u8 xq.op) := (HX.out.cell (p := ⟨b, _, none⟩) hb').trans HO1.out
      have d1 : decide ((q : Int) + 1 ≤ (fr : Int)) = false := by simp; omega
      have d2 : decide ((is.length : Int) < (q : Int) + 1) = false := by simp; omega
      have d0 : decide ((m : Int) < (us.length : Int)) = true := by simp; exact hml
      have hcase : (∃ t, Hid (decide ((m : Int) < (us.length : Int) - 1) = t) ∧ (t = true → xq.op = 15)) := ⟨_, Lib.hid rfl, fun h => g5 (by have := of_decide_eq_true h; omega)⟩
      obtain ⟨t, HT, ht⟩ := hcase
      have HT15 := Lib.hid ht
      clear ht g5
      cases t with
      | true =>
        have h15 : xq.op = 15 := HT15.out rfl
        have hT := HT.out
        clear HT15
        rw [h15] at c3
        go_wp2_with fail
        clear c1 c2 c3 d1 d2
        go_loopw [8] (fun kk w2 => ∃ j : Nat, fr ≤ j ∧ j ≤ q + 1 ∧ kk = .int .i64 j ∧ Hid (Ext w1 w2)) (fun kk _ => (q + 1) - (intOf kk).toNat)
        case atStart => exact ⟨fr, Nat.le_refl _, by omega, rfl, HX⟩
        case round =>
          obtain ⟨j, hj1, hj2, rfl, HXj⟩ := hrel
          obtain ⟨wb, rfl⟩ : ∃ wb : World, wb = wr := ⟨_, rfl⟩
          have c2 : wb.cell? ⟨bu, ou + m * 2 + 1, none⟩ = some (.int .i64 ((q : Int) + 1)) := (HXj.out.cell (p := ⟨bu, _, none⟩) hbu').trans HB2.out
          by_cases hjq : j < q + 1
          · have d3 : decide ((j : Int) < (q : Int) + 1) = true := by simp; omega
            have HJ : Hid (ofA (j : Int) us 0 = (m : Int)) := Lib.hid (G6.out (j : Int) (by omega) (by omega))
            go_wp2_with fail
            refine (of_at _ is _ cap way (j : Int) (m : Int) _ rfl (by omega) (HC1.out.ext HXj.out) us HUS (by omega) HJ).mono ?_
            rintro e w3 ⟨rfl, hx3⟩
            have HX3 : Hid (Ext w1 w3) := Ext.trans HXj.out hx3
            clear hx3 c2
            go_wp2_with fail
            refine ⟨⟨j + 1, by omega, by omega, by go_num, HX3⟩, by simp [intOf]; omega⟩
          · obtain rfl : j = q + 1 := by omega
            have d3 : decide ((q : Int) + 1 < (q : Int) + 1) = false := by simp
            go_wp2_with fail
            refine ⟨⟨m + 1, by omega, by go_num, ?_, HXj⟩, by simp [intOf]; omega⟩
            rw [G2.out]
            go_num
      | false =>
        have hT := HT.out
        clear HT15
        go_wp2_with fail
        clear c1 c2 c3 d1 d2
        go_loopw [8] (fun kk w2 => ∃ j : Nat, fr ≤ j ∧ j ≤ q + 1 ∧ kk = .int .i64 j ∧ Hid (Ext w1 w2)) (fun kk _ => (q + 1) - (intOf kk).toNat)
        case atStart => exact ⟨fr, Nat.le_refl _, by omega, rfl, HX⟩
        case round =>
          obtain ⟨j, hj1, hj2, rfl, HXj⟩ := hrel
          obtain ⟨wb, rfl⟩ : ∃ wb : World, wb = wr := ⟨_, rfl⟩
          have c2 : wb.cell? ⟨bu, ou + m * 2 + 1, none⟩ = some (.int .i64 ((q : Int) + 1)) := (HXj.out.cell (p := ⟨bu, _, none⟩) hbu').trans HB2.out
          by_cases hjq : j < q + 1
          · have d3 : decide ((j : Int) < (q : Int) + 1) = true := by simp; omega
            have HJ : Hid (ofA (j : Int) us 0 = (m : Int)) := Lib.hid (G6.out (j : Int) (by omega) (by omega))
            go_wp2_with fail
            refine (of_at _ is _ cap way (j : Int) (m : Int) _ rfl (by omega) (HC1.out.ext HXj.out) us HUS (by omega) HJ).mono ?_
            rintro e w3 ⟨rfl, hx3⟩
            have HX3 : Hid (Ext w1 w3) := Ext.trans HXj.out hx3
            clear hx3 c2
            go_wp2_with fail
            refine ⟨⟨j + 1, by omega, by omega, by go_num, HX3⟩, by simp [intOf]; omega⟩
          · obtain rfl : j = q + 1 := by omega
            have d3 : decide ((q : Int) + 1 < (q : Int) + 1) = false := by simp
            go_wp2_with fail
            refine ⟨⟨m + 1, by omega, by go_num, ?_, HXj⟩, by simp [intOf]; omega⟩
            rw [G2.out]
            go_num
    · obtain rfl : m = us.length := by omega
      have d0 : decide ((us.length : Int) < (us.length : Int)) = false := by simp
      have HE : endU us us.length = is.length := L3.out
      rw [HE]
      clear HE
      by_cases hw1 : way = 1
      · subst hw1
        go_wp2_with fail
        refine (works10 _).mono ?_
        rintro e w9 ⟨rfl, hx9⟩
        have HX9 : Hid (Ext w w9) := Ext.trans HX1.out (Ext.trans HX.out hx9)
        clear hx9
        go_wp2_with fail
        go_ret
        exact ⟨rfl, HX9.out⟩
      · have e5 : (way == 1) = false := beq_eq_false_iff_ne.2 hw1
        have d5 : decide ((us.length : Int) ≤ 1) = true := by have := L2.out hw1; simp; omega
        go_wp2_with fail
        refine (works10 _).mono ?_
        rintro e w9 ⟨rfl, hx9⟩
        have HX9 : Hid (Ext w w9) := Ext.trans HX1.out (Ext.trans HX.out hx9)
        clear hx9
        go_wp2_with fail
        go_ret
        exact ⟨rfl, HX9.out⟩
theorem cover_any (A : Option Addr) (is : List InstrD) (cap : Nat) (way : Int) (w : World) (hc : Cells w A (icells is)) :
    Calls Try.prog 5 #[.slice A is.length cap, .int .u8 way] w fun e w' => e = .returned (.bool true) ∧ Ext w w' := by
  by_cases h : 200 < is.length
  · exact cover_long A is.length cap way w h
  · exact cover_short A is cap way w (by omega) hc
end Go.Proofs.Ythofccoefiogiaa
