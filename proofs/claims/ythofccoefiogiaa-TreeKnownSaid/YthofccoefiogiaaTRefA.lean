/- The document's all, is, end, Find, walked. -/
import Derived.Test.YthofccoefiogiaaTEnds
import Derived.Test.YthofccoefiogiaaTName
import Derived.Test.YthofccoefiogiaaTFits2
namespace Go.Proofs.Ythofccoefiogiaa
open Go Go.RowKit
set_option linter.unusedVariables false
set_option linter.unusedSimpArgs false
theorem Ext.drewN {a w : World} (h : Ext a w) (n : Nat) : Ext a (w.drewN n) := by
  induction n with
  | zero => exact h
  | succ n ih => exact Below.drew ih
theorem allR_yes {ls : List Int} {frm : Nat} {what : Int} (h : ∀ j, frm ≤ j → j < ls.length → wantB what (ls.getD j 0) = true) : allR ls frm what = true := by
  unfold allR
  rw [List.all_eq_true]
  intro x hx
  obtain ⟨i, hi, rfl⟩ := List.getElem_of_mem hx
  rw [List.length_drop] at hi
  rw [List.getElem_drop]
  have := h (frm + i) (by omega) (by omega)
  rwa [List.getD_eq_getElem?_getD, List.getElem?_eq_getElem (by omega)] at this
theorem allR_no {ls : List Int} {frm : Nat} {what : Int} (j : Nat) (h1 : frm ≤ j) (h2 : j < ls.length) (h : wantB what (ls.getD j 0) = false) : allR ls frm what = false := by
  unfold allR
  rw [Bool.eq_false_iff]
  intro hh
  rw [List.all_eq_true] at hh
  have := hh ls[j] (by
    rw [show ls[j] = (ls.drop frm)[j - frm]'(by rw [List.length_drop]; omega) from by rw [List.getElem_drop]; congr 1; omega]
    exact List.getElem_mem _)
  rw [List.getD_eq_getElem?_getD, List.getElem?_eq_getElem h2] at h
  simp only [Option.getD_some] at h
  rw [h] at this
  cases this
set_option maxRecDepth 100000 in
set_option maxHeartbeats 8000000 in
theorem all_any (L : Option Addr) (ls : List Int) (n c frm : Nat) (f what : Int) (w : World) (hn : n = ls.length) (hf : f = (frm : Int)) (hl : Cells w L (bcells ls)) (hlen : ls.length ≤ 1000) (hfr : frm ≤ ls.length) (hw : what = 0 ∨ what = 1 ∨ what = 5) (b : Bool) (hb : Hid (allR ls frm what = b)) :
    Calls Try.prog 104 #[.slice L n c, .int .i64 f, .int .u8 what] w fun e w' => e = .returned (.bool b) ∧ w = w' := by
  subst hn hf
  have HL := Lib.hid hl
  clear hl
  go_enter Try.func104, Try.ntmps104
  go_wp2_with fail
  go_loop [7] (fun i => ∃ k : Nat, frm ≤ k ∧ k ≤ ls.length ∧ i = .int .i64 k ∧ Hid (∀ j, frm ≤ j → j < k → wantB what (ls.getD j 0) = true)) (fun i => ls.length - (intOf i).toNat)
  case atStart => exact ⟨frm, Nat.le_refl _, hfr, rfl, Lib.hid fun j h1 h2 => by omega⟩
  case round =>
    obtain ⟨k, hk0, hk, rfl, HR⟩ := hrel
    by_cases hlt : k < ls.length
    · have d0 : decide ((k : Int) < (ls.length : Int)) = true := decide_eq_true (by omega)
      obtain ⟨bb, off, rfl, hbb, hcell⟩ := bytes_at HL.out k hlt
      have hge : ls.getD k 0 = ls[k] := by simp [List.getD_eq_getElem?_getD, hlt]
      obtain ⟨t, ht⟩ : ∃ t, wantB what ls[k] = t := ⟨_, rfl⟩
      have HYES : Hid (t = true → ∀ j, frm ≤ j → j < k + 1 → wantB what (ls.getD j 0) = true) := Lib.hid (by
        intro h j h1 h2
        by_cases hj : j = k
        · subst hj; rw [hge, ht]; exact h
        · exact HR.out j h1 (by omega))
      have HNO : Hid (t = false → b = false) := Lib.hid (by
        intro h
        rw [← hb.out]
        exact allR_no k hk0 hlt (by rw [hge, ht]; exact h))
      clear hge
      generalize ls[k] = x at *
      rcases hw with rfl | rfl | rfl
      · have HT : Hid (exprB x = t) := Lib.hid ht
        clear ht
        cases t with
        | true =>
          go_wp2_with (first | (go_at_call 106; refine (Expr_any _ _).mono ?_; rintro e w' ⟨rfl, rfl⟩; rw [HT.out]) | (go_at_call 125; refine (Stmt_any _ _).mono ?_; rintro e w' ⟨rfl, rfl⟩; rw [HT.out]))
          go_round
          case rel => exact ⟨k + 1, by omega, by omega, by go_num, Lib.hid (HYES.out (by simp))⟩
          case measure => simp [intOf]; omega
        | false =>
          go_wp2_with (first | (go_at_call 106; refine (Expr_any _ _).mono ?_; rintro e w' ⟨rfl, rfl⟩; rw [HT.out]) | (go_at_call 125; refine (Stmt_any _ _).mono ?_; rintro e w' ⟨rfl, rfl⟩; rw [HT.out]))
          go_ret
          exact ⟨ret_b (HNO.out (by simp)).symm, rfl⟩
      · have HT : Hid (stmtB x = t) := Lib.hid ht
        clear ht
        cases t with
        | true =>
          go_wp2_with (first | (go_at_call 106; refine (Expr_any _ _).mono ?_; rintro e w' ⟨rfl, rfl⟩; rw [HT.out]) | (go_at_call 125; refine (Stmt_any _ _).mono ?_; rintro e w' ⟨rfl, rfl⟩; rw [HT.out]))
          go_round
          case rel => exact ⟨k + 1, by omega, by omega, by go_num, Lib.hid (HYES.out (by simp))⟩
          case measure => simp [intOf]; omega
        | false =>
          go_wp2_with (first | (go_at_call 106; refine (Expr_any _ _).mono ?_; rintro e w' ⟨rfl, rfl⟩; rw [HT.out]) | (go_at_call 125; refine (Stmt_any _ _).mono ?_; rintro e w' ⟨rfl, rfl⟩; rw [HT.out]))
          go_ret
          exact ⟨ret_b (HNO.out (by simp)).symm, rfl⟩
      · have ht5 : (x == 5) = t := ht
        have ht6 : (x != 5) = !t := by rw [bne, ht5]
        clear ht
        cases t with
        | true =>
          go_wp2_with fail
          go_round
          case rel => exact ⟨k + 1, by omega, by omega, by go_num, Lib.hid (HYES.out (by simp))⟩
          case measure => simp [intOf]; omega
        | false =>
          go_wp2_with fail
          go_ret
          exact ⟨ret_b (HNO.out (by simp)).symm, rfl⟩
    · obtain rfl : k = ls.length := by omega
      have d0 : decide ((ls.length : Int) < (ls.length : Int)) = false := by simp
      go_wp2_with fail
      go_ret
      exact ⟨ret_b (by rw [← hb.out]; exact (allR_yes HR.out).symm), rfl⟩
theorem isR_no {ls ws : List Int} (j : Nat) (h2 : j < ls.length) (h : isOne (ws.getD j 0) (ls.getD j 0) = false) : isR ls ws = false := by
  unfold isR
  have : (List.range ls.length).all (fun i => isOne (ws.getD i 0) (ls.getD i 0)) = false := by
    rw [Bool.eq_false_iff]
    intro hh
    rw [List.all_eq_true] at hh
    have := hh j (List.mem_range.2 h2)
    rw [h] at this
    cases this
  rw [this, Bool.and_false]
theorem isR_yes {ls ws : List Int} (hl : ls.length = ws.length) (h : ∀ j, j < ls.length → isOne (ws.getD j 0) (ls.getD j 0) = true) : isR ls ws = true := by
  unfold isR
  rw [show (ls.length == ws.length) = true from by simp [hl], Bool.true_and, List.all_eq_true]
  intro j hj
  exact h j (List.mem_range.1 hj)
theorem isR_len {ls ws : List Int} (hl : ls.length ≠ ws.length) : isR ls ws = false := by
  unfold isR
  rw [show (ls.length == ws.length) = false from beq_eq_false_iff_ne.2 hl, Bool.false_and]
set_option maxRecDepth 100000 in
set_option maxHeartbeats 8000000 in
theorem is_any (L W : Option Addr) (ls ws : List Int) (n c m d : Nat) (w : World) (hn : n = ls.length) (hm : m = ws.length) (hl : Cells w L (bcells ls)) (hw : Cells w W (bcells ws)) (hlen : ls.length ≤ 1000) (hwl : ws.length ≤ 1000) (hw0 : ∀ x ∈ ws, 0 ≤ x) (b : Bool) (hb : Hid (isR ls ws = b)) :
    Calls Try.prog 105 #[.slice L n c, .slice W m d] w fun e w' => e = .returned (.bool b) ∧ Ext w w' := by
  subst hn hm
  have HL := Lib.hid hl
  have HW := Lib.hid hw
  have HW0 := Lib.hid hw0
  clear hl hw hw0
  by_cases hlw : ls.length = ws.length
  · have e0 : ((ls.length : Int) == (ws.length : Int)) = true := by rw [hlw]; simp
    have e1 : ((ls.length : Int) != (ws.length : Int)) = false := by rw [hlw]; simp
    have HLW := Lib.hid hlw
    clear hlw
    go_enter Try.func105, Try.ntmps105
    go_wp2_with fail
    go_loopw [5] (fun i wr => ∃ k : Nat, k ≤ ls.length ∧ i = .int .i64 k ∧ Hid (Ext w wr) ∧ Hid (∀ j, j < k → isOne (ws.getD j 0) (ls.getD j 0) = true)) (fun i _ => ls.length - (intOf i).toNat)
    case atStart => exact ⟨0, Nat.zero_le _, rfl, Lib.hid (Ext.refl _), Lib.hid fun j hj => by omega⟩
    case round =>
      obtain ⟨k, hk, rfl, HX, HR⟩ := hrel
      obtain ⟨wa, rfl⟩ : ∃ wa : World, wa = wr := ⟨_, rfl⟩
      by_cases hlt : k < ls.length
      · have d0 : decide ((k : Int) < (ls.length : Int)) = true := decide_eq_true (by omega)
        have hlt2 : k < ws.length := by have := HLW.out; omega
        obtain ⟨b1, off1, rfl, hb1, hc1⟩ := bytes_at (HL.out.ext HX.out) k hlt
        obtain ⟨b2, off2, rfl, hb2, hc2⟩ := bytes_at (HW.out.ext HX.out) k hlt2
        have hge : ls.getD k 0 = ls[k] := by simp [List.getD_eq_getElem?_getD, hlt]
        have hgw : ws.getD k 0 = ws[k] := by simp [List.getD_eq_getElem?_getD, hlt2]
        obtain ⟨t, ht⟩ : ∃ t, isOne ws[k] ls[k] = t := ⟨_, rfl⟩
        have hx0 : 0 ≤ ws[k] := HW0.out _ (List.getElem_mem hlt2)
        have HYES : Hid (t = true → ∀ j, j < k + 1 → isOne (ws.getD j 0) (ls.getD j 0) = true) := Lib.hid (by
          intro h j h2
          by_cases hj : j = k
          · subst hj; rw [hge, hgw, ht]; exact h
          · exact HR.out j (by omega))
        have HNO : Hid (t = false → b = false) := Lib.hid (by
          intro h
          rw [← hb.out]
          exact isR_no k hlt (by rw [hge, hgw, ht]; exact h))
        clear hge hgw
        have q1 : (k : Int) < (ls.length : Int) := by omega
        have q2 : (k : Int) < (ws.length : Int) := by omega
        generalize ls[k] = x at *
        generalize ws[k] = y at *
        by_cases hy : y = 0
        · subst hy
          have HT : Hid (exprB x = t) := Lib.hid (by rw [← ht]; rfl)
          clear ht
          cases t with
          | true =>
            go_wp2_with fail
            go_quiet ((go_at_call 106; exact Calls.quiet_of_same ((Expr_any x _).mono fun e w' h => ⟨by rw [h.1, HT.out], h.2.symm⟩)))
            rename_i nq
            have HX1 := Lib.hid (HX.out.drewN nq)
            go_wp2_with fail
            go_roundw
            case rel => exact ⟨k + 1, by omega, by go_num, HX1, Lib.hid (HYES.out (by simp))⟩
            case measure => simp [intOf]; omega
          | false =>
            go_wp2_with fail
            go_quiet ((go_at_call 106; exact Calls.quiet_of_same ((Expr_any x _).mono fun e w' h => ⟨by rw [h.1, HT.out], h.2.symm⟩)))
            rename_i nq
            have HX1 := Lib.hid (HX.out.drewN nq)
            go_wp2_with fail
            go_ret
            exact ⟨ret_b (HNO.out (by simp)).symm, HX1.out⟩
        · have e5 : (y == 0) = false := beq_eq_false_iff_ne.2 hy
          have hy0 : 0 < y := by omega
          have d5 : decide (0 < y) = true := decide_eq_true hy0
          have ht5 : (x == y) = t := by rw [← ht]; unfold isOne; rw [if_neg hy]
          have ht6 : (x != y) = !t := by rw [bne, ht5]
          clear ht hy
          cases t with
          | true =>
            go_wp2_with fail
            go_quiet (fail)
            rename_i nq
            have HX1 := Lib.hid (HX.out.drewN nq)
            go_wp2_with fail
            go_roundw
            case rel => exact ⟨k + 1, by omega, by go_num, HX1, Lib.hid (HYES.out (by simp))⟩
            case measure => simp [intOf]; omega
          | false =>
            go_wp2_with fail
            go_quiet (fail)
            rename_i nq
            have HX1 := Lib.hid (HX.out.drewN nq)
            go_wp2_with fail
            go_ret
            exact ⟨ret_b (HNO.out (by simp)).symm, HX1.out⟩
      · obtain rfl : k = ls.length := by omega
        have d0 : decide ((ls.length : Int) < (ls.length : Int)) = false := by simp
        go_wp2_with fail
        go_ret
        exact ⟨ret_b (by rw [← hb.out]; exact (isR_yes HLW.out HR.out).symm), HX.out⟩
  · have e0 : ((ls.length : Int) == (ws.length : Int)) = false := by rw [beq_eq_false_iff_ne]; omega
    have e1 : ((ls.length : Int) != (ws.length : Int)) = true := by rw [bne, e0]; rfl
    have HB : Hid (b = false) := Lib.hid (by rw [← hb.out]; exact isR_len hlw)
    go_enter Try.func105, Try.ntmps105
    go_wp2_with fail
    go_ret
    exact ⟨ret_b HB.out.symm, Ext.refl _⟩
end Go.Proofs.Ythofccoefiogiaa
