/- The document's kids and kinds, walked. -/
import Derived.Test.YthofccoefiogiaaTRefA
namespace Go.Proofs.Ythofccoefiogiaa
open Go Go.RowKit
set_option linter.unusedVariables false
set_option linter.unusedSimpArgs false
theorem bcells_new (w : World) (ls : List Int) : Cells (w.alloc (.cells (bcells ls).toArray 5)) (some ⟨w.heap.size, 0, none⟩) (bcells ls) := by
  have := Cells.new w 5 (bcells ls).toArray
  simpa using this
theorem all_part (ls : List Int) : ls.all partB = true ∨ ls.all partB = false := by cases ls.all partB <;> simp
set_option maxRecDepth 100000 in
set_option maxHeartbeats 8000000 in
theorem kids1_any (L : Option Addr) (ls : List Int) (n c : Nat) (w : World) (hn : n = ls.length) (hl : Cells w L (bcells ls)) (hlen : ls.length ≤ 1000) (b : Bool) (hb : Hid (kidsOk 1 ls = b)) :
    Calls Try.prog 70 #[.int .u8 1, .slice L n c] w fun e w' => e = .returned (.bool b) ∧ w = w' := by
  subst hn
  have HL := Lib.hid hl
  clear hl
  have HB : Hid (ls.all partB = b) := Lib.hid (by rw [← hb.out]; rfl)
  go_enter Try.func70, Try.ntmps70
  go_wp2_with fail
  go_loop [5] (fun i => ∃ k : Nat, k ≤ ls.length ∧ i = .int .i64 k ∧ Hid (∀ j (hj : j < ls.length), j < k → partB ls[j] = true)) (fun i => ls.length - (intOf i).toNat)
  case atStart => exact ⟨0, Nat.zero_le _, rfl, Lib.hid fun j h1 h2 => by omega⟩
  case round =>
    obtain ⟨k, hk, rfl, HR⟩ := hrel
    by_cases hlt : k < ls.length
    · have d0 : decide ((k : Int) < (ls.length : Int)) = true := decide_eq_true (by omega)
      obtain ⟨bb, off, rfl, hbb, hcell⟩ := bytes_at HL.out k hlt
      obtain ⟨t, ht⟩ : ∃ t, partB ls[k] = t := ⟨_, rfl⟩
      have HYES : Hid (t = true → ∀ j (hj : j < ls.length), j < k + 1 → partB ls[j] = true) := Lib.hid (by
        intro h j h1 h2
        by_cases hj : j = k
        · subst hj; rw [ht]; exact h
        · exact HR.out j h1 (by omega))
      have HNO : Hid (t = false → b = false) := Lib.hid (by
        intro h
        rw [← HB.out, Bool.eq_false_iff]
        intro hh
        have := List.all_eq_true.1 hh ls[k] (List.getElem_mem hlt)
        rw [ht, h] at this
        cases this)
      generalize ls[k] = x at *
      unfold partB at ht
      by_cases h2 : x = 2
      · subst h2
        have HT : Hid (t = true) := Lib.hid (by rw [← ht]; rfl)
        clear ht
        go_wp2_with fail
        go_round
        case rel => exact ⟨k + 1, by omega, by go_num, Lib.hid (HYES.out HT.out)⟩
        case measure => simp [intOf]; omega
      · have e2 : (x == 2) = false := beq_eq_false_iff_ne.2 h2
        have e2' : (x != 2) = true := by rw [bne, e2]; rfl
        by_cases h3 : x = 3
        · subst h3
          have HT : Hid (t = true) := Lib.hid (by rw [← ht]; rfl)
          clear ht
          go_wp2_with fail
          go_round
          case rel => exact ⟨k + 1, by omega, by go_num, Lib.hid (HYES.out HT.out)⟩
          case measure => simp [intOf]; omega
        · have e3 : (x == 3) = false := beq_eq_false_iff_ne.2 h3
          have e3' : (x != 3) = true := by rw [bne, e3]; rfl
          have HT : Hid (t = false) := Lib.hid (by rw [← ht, e2, e3]; rfl)
          clear ht
          go_wp2_with fail
          go_ret
          exact ⟨ret_b (HNO.out HT.out).symm, rfl⟩
    · obtain rfl : k = ls.length := by omega
      have d0 : decide ((ls.length : Int) < (ls.length : Int)) = false := by simp
      go_wp2_with fail
      go_ret
      exact ⟨ret_b (by rw [← HB.out]; symm; rw [List.all_eq_true]; intro x hx; obtain ⟨i, hi, rfl⟩ := List.getElem_of_mem hx; exact HR.out i hi hi), rfl⟩
set_option maxRecDepth 100000 in
set_option maxHeartbeats 8000000 in
theorem kids2_any (L : Option Addr) (ls : List Int) (n c : Nat) (w : World) (hn : n = ls.length) (hl : Cells w L (bcells ls)) (hlen : ls.length ≤ 1000) (b : Bool) (hb : Hid (kidsOk 2 ls = b)) :
    Calls Try.prog 70 #[.int .u8 2, .slice L n c] w fun e w' => e = .returned (.bool b) ∧ Ext w w' := by
  subst hn
  have HL := Lib.hid hl
  clear hl
  by_cases h0 : 0 < ls.length
  · have d0 : decide ((ls.length : Int) > 0) = true := decide_eq_true (by omega)
    have d1 : decide (0 < ls.length) = true := decide_eq_true h0
    have HB : Hid (allR ls 0 5 = b) := Lib.hid (by rw [← hb.out]; show _ = (decide (0 < ls.length) && allR ls 0 5); rw [d1, Bool.true_and])
    go_enter Try.func70, Try.ntmps70
    go_wp2_with (go_at_call 104; refine (all_any L ls _ c 0 0 5 _ rfl rfl HL.out hlen (Nat.zero_le _) (by simp) b HB).mono ?_; rintro e w2 ⟨rfl, rfl⟩)
    go_ret
    exact ⟨rfl, Ext.refl _⟩
  · have d0 : decide ((ls.length : Int) > 0) = false := decide_eq_false (by omega)
    have d1 : decide (0 < ls.length) = false := decide_eq_false h0
    have HB : Hid (b = false) := Lib.hid (by rw [← hb.out]; show (decide (0 < ls.length) && allR ls 0 5) = _; rw [d1, Bool.false_and])
    go_enter Try.func70, Try.ntmps70
    go_wp2_with fail
    go_ret
    exact ⟨ret_b HB.out.symm, Ext.refl _⟩
set_option maxRecDepth 100000 in
set_option maxHeartbeats 8000000 in
theorem kids3_any (L : Option Addr) (ls : List Int) (n c : Nat) (w : World) (hn : n = ls.length) (hl : Cells w L (bcells ls)) (hlen : ls.length ≤ 1000) (b : Bool) (hb : Hid (kidsOk 3 ls = b)) :
    Calls Try.prog 70 #[.int .u8 3, .slice L n c] w fun e w' => e = .returned (.bool b) ∧ Ext w w' := by
  subst hn
  have HL := Lib.hid hl
  clear hl
  have HB : Hid (isR ls [4, 6] = b) := Lib.hid (by rw [← hb.out]; rfl)
  go_enter Try.func70, Try.ntmps70
  go_wp2_with (go_at_call 105; refine (is_any L _ ls [4, 6] _ c _ _ _ rfl rfl (HL.out.ext (Ext.alloc _ _)) (by exact bcells_new _ [4, 6]) hlen (by decide) (by decide) b HB).mono ?_; rintro e w2 ⟨rfl, hx2⟩; have HX2 := Lib.hid ((Ext.alloc _ _).trans hx2); clear hx2)
  go_ret
  exact ⟨rfl, HX2.out⟩
set_option maxRecDepth 100000 in
set_option maxHeartbeats 8000000 in
theorem kids4_any (L : Option Addr) (ls : List Int) (n c : Nat) (w : World) (hn : n = ls.length) (hl : Cells w L (bcells ls)) (hlen : ls.length ≤ 1000) (b : Bool) (hb : Hid (kidsOk 4 ls = b)) :
    Calls Try.prog 70 #[.int .u8 4, .slice L n c] w fun e w' => e = .returned (.bool b) ∧ Ext w w' := by
  subst hn
  have HL := Lib.hid hl
  clear hl
  have HB : Hid (allR ls 0 5 = b) := Lib.hid (by rw [← hb.out]; rfl)
  go_enter Try.func70, Try.ntmps70
  go_wp2_with (go_at_call 104; refine (all_any L ls _ c 0 0 5 _ rfl rfl HL.out hlen (Nat.zero_le _) (by simp) b HB).mono ?_; rintro e w2 ⟨rfl, rfl⟩)
  go_ret
  exact ⟨rfl, Ext.refl _⟩
set_option maxRecDepth 100000 in
set_option maxHeartbeats 8000000 in
theorem kids5_any (L : Option Addr) (ls : List Int) (n c : Nat) (w : World) (hn : n = ls.length) (hl : Cells w L (bcells ls)) (hlen : ls.length ≤ 1000) (b : Bool) (hb : Hid (kidsOk 5 ls = b)) :
    Calls Try.prog 70 #[.int .u8 5, .slice L n c] w fun e w' => e = .returned (.bool b) ∧ Ext w w' := by
  subst hn
  have HL := Lib.hid hl
  clear hl
  have HB : Hid ((ls.length == 0) = b) := Lib.hid (by rw [← hb.out]; rfl)
  have HB2 : Hid (((ls.length : Int) == 0) = b) := Lib.hid (by rw [← HB.out, Bool.eq_iff_iff]; simp only [beq_iff_eq]; omega)
  go_enter Try.func70, Try.ntmps70
  go_wp2_with fail
  go_ret
  exact ⟨ret_b (by first | exact HB2.out | exact HB.out | (rw [← HB.out]; cases ls <;> simp)), Ext.refl _⟩
set_option maxRecDepth 100000 in
set_option maxHeartbeats 8000000 in
theorem kids6_any (L : Option Addr) (ls : List Int) (n c : Nat) (w : World) (hn : n = ls.length) (hl : Cells w L (bcells ls)) (hlen : ls.length ≤ 1000) (b : Bool) (hb : Hid (kidsOk 6 ls = b)) :
    Calls Try.prog 70 #[.int .u8 6, .slice L n c] w fun e w' => e = .returned (.bool b) ∧ Ext w w' := by
  subst hn
  have HL := Lib.hid hl
  clear hl
  have HB : Hid (allR ls 0 1 = b) := Lib.hid (by rw [← hb.out]; rfl)
  go_enter Try.func70, Try.ntmps70
  go_wp2_with (go_at_call 104; refine (all_any L ls _ c 0 0 1 _ rfl rfl HL.out hlen (Nat.zero_le _) (by simp) b HB).mono ?_; rintro e w2 ⟨rfl, rfl⟩)
  go_ret
  exact ⟨rfl, Ext.refl _⟩
set_option maxRecDepth 100000 in
set_option maxHeartbeats 8000000 in
theorem kids7_any (L : Option Addr) (ls : List Int) (n c : Nat) (w : World) (hn : n = ls.length) (hl : Cells w L (bcells ls)) (hlen : ls.length ≤ 1000) (b : Bool) (hb : Hid (kidsOk 7 ls = b)) :
    Calls Try.prog 70 #[.int .u8 7, .slice L n c] w fun e w' => e = .returned (.bool b) ∧ Ext w w' := by
  subst hn
  have HL := Lib.hid hl
  clear hl
  have HB : Hid (isR ls [20, 5] = b) := Lib.hid (by rw [← hb.out]; rfl)
  go_enter Try.func70, Try.ntmps70
  go_wp2_with (go_at_call 105; refine (is_any L _ ls [20, 5] _ c _ _ _ rfl rfl (HL.out.ext (Ext.alloc _ _)) (by exact bcells_new _ [20, 5]) hlen (by decide) (by decide) b HB).mono ?_; rintro e w2 ⟨rfl, hx2⟩; have HX2 := Lib.hid ((Ext.alloc _ _).trans hx2); clear hx2)
  go_ret
  exact ⟨rfl, HX2.out⟩
set_option maxRecDepth 100000 in
set_option maxHeartbeats 8000000 in
theorem kids8_any (L : Option Addr) (ls : List Int) (n c : Nat) (w : World) (hn : n = ls.length) (hl : Cells w L (bcells ls)) (hlen : ls.length ≤ 1000) (b : Bool) (hb : Hid (kidsOk 8 ls = b)) :
    Calls Try.prog 70 #[.int .u8 8, .slice L n c] w fun e w' => e = .returned (.bool b) ∧ Ext w w' := by
  subst hn
  have HL := Lib.hid hl
  clear hl
  have HB : Hid (isR ls [20, 5, 0] = b) := Lib.hid (by rw [← hb.out]; rfl)
  go_enter Try.func70, Try.ntmps70
  go_wp2_with (go_at_call 105; refine (is_any L _ ls [20, 5, 0] _ c _ _ _ rfl rfl (HL.out.ext (Ext.alloc _ _)) (by exact bcells_new _ [20, 5, 0]) hlen (by decide) (by decide) b HB).mono ?_; rintro e w2 ⟨rfl, hx2⟩; have HX2 := Lib.hid ((Ext.alloc _ _).trans hx2); clear hx2)
  go_ret
  exact ⟨rfl, HX2.out⟩
set_option maxRecDepth 100000 in
set_option maxHeartbeats 8000000 in
theorem kids9_any (L : Option Addr) (ls : List Int) (n c : Nat) (w : World) (hn : n = ls.length) (hl : Cells w L (bcells ls)) (hlen : ls.length ≤ 1000) (b : Bool) (hb : Hid (kidsOk 9 ls = b)) :
    Calls Try.prog 70 #[.int .u8 9, .slice L n c] w fun e w' => e = .returned (.bool b) ∧ Ext w w' := by
  subst hn
  have HL := Lib.hid hl
  clear hl
  by_cases h0 : 1 < ls.length
  · have d0 : decide ((ls.length : Int) > 1) = true := decide_eq_true (by omega)
    have d1 : decide (1 < ls.length) = true := decide_eq_true h0
    have d2 : decide ((1 : Int) < (ls.length : Int)) = true := decide_eq_true (by omega)
    obtain ⟨bb, off, rfl, hbb, hcell⟩ := bytes_at HL.out 0 (by omega)
    have hg0 : ls.getD 0 0 = ls[0] := by simp [List.getD_eq_getElem?_getD, show 0 < ls.length from by omega]
    have q0 : (0 : Int) < (ls.length : Int) := by omega
    have HB : Hid ((ls[0] == 20 && allR ls 1 0) = b) := Lib.hid (by rw [← hb.out]; show _ = (decide (1 < ls.length) && (ls.getD 0 0 == 20 && allR ls 1 0)); rw [d1, Bool.true_and, hg0])
    clear hg0
    rw [Nat.add_zero] at hcell
    generalize ls[0] = x at *
    by_cases hx : x = 20
    · subst hx
      have HB2 : Hid (allR ls 1 0 = b) := Lib.hid (by rw [← HB.out]; rfl)
      go_enter Try.func70, Try.ntmps70
      go_wp2_with (go_at_call 104; refine (all_any _ ls _ c 1 1 0 _ rfl rfl HL.out hlen (by omega) (by simp) b HB2).mono ?_; rintro e w2 ⟨rfl, rfl⟩)
      go_ret
      exact ⟨rfl, Ext.refl _⟩
    · have e1 : (x == 20) = false := beq_eq_false_iff_ne.2 hx
      have HB2 : Hid (b = false) := Lib.hid (by rw [← HB.out, e1, Bool.false_and])
      go_enter Try.func70, Try.ntmps70
      go_wp2_with fail
      go_ret
      exact ⟨ret_b HB2.out.symm, Ext.refl _⟩
  · have d0 : decide ((ls.length : Int) > 1) = false := decide_eq_false (by omega)
    have d1 : decide (1 < ls.length) = false := decide_eq_false h0
    have d2 : decide ((1 : Int) < (ls.length : Int)) = false := decide_eq_false (by omega)
    have HB : Hid (b = false) := Lib.hid (by rw [← hb.out]; show (decide (1 < ls.length) && _) = _; rw [d1, Bool.false_and])
    go_enter Try.func70, Try.ntmps70
    go_wp2_with fail
    go_ret
    exact ⟨ret_b HB.out.symm, Ext.refl _⟩
set_option maxRecDepth 100000 in
set_option maxHeartbeats 8000000 in
theorem kids10_any (L : Option Addr) (ls : List Int) (n c : Nat) (w : World) (hn : n = ls.length) (hl : Cells w L (bcells ls)) (hlen : ls.length ≤ 1000) (b : Bool) (hb : Hid (kidsOk 10 ls = b)) :
    Calls Try.prog 70 #[.int .u8 10, .slice L n c] w fun e w' => e = .returned (.bool b) ∧ Ext w w' := by
  subst hn
  have HL := Lib.hid hl
  clear hl
  have HB : Hid (isR ls [20] = b) := Lib.hid (by rw [← hb.out]; rfl)
  go_enter Try.func70, Try.ntmps70
  go_wp2_with (go_at_call 105; refine (is_any L _ ls [20] _ c _ _ _ rfl rfl (HL.out.ext (Ext.alloc _ _)) (by exact bcells_new _ [20]) hlen (by decide) (by decide) b HB).mono ?_; rintro e w2 ⟨rfl, hx2⟩; have HX2 := Lib.hid ((Ext.alloc _ _).trans hx2); clear hx2)
  go_ret
  exact ⟨rfl, HX2.out⟩
set_option maxRecDepth 100000 in
set_option maxHeartbeats 8000000 in
theorem kids11_any (L : Option Addr) (ls : List Int) (n c : Nat) (w : World) (hn : n = ls.length) (hl : Cells w L (bcells ls)) (hlen : ls.length ≤ 1000) (b : Bool) (hb : Hid (kidsOk 11 ls = b)) :
    Calls Try.prog 70 #[.int .u8 11, .slice L n c] w fun e w' => e = .returned (.bool b) ∧ Ext w w' := by
  subst hn
  have HL := Lib.hid hl
  clear hl
  have HB : Hid (isR ls [5, 5] = b) := Lib.hid (by rw [← hb.out]; rfl)
  go_enter Try.func70, Try.ntmps70
  go_wp2_with (go_at_call 105; refine (is_any L _ ls [5, 5] _ c _ _ _ rfl rfl (HL.out.ext (Ext.alloc _ _)) (by exact bcells_new _ [5, 5]) hlen (by decide) (by decide) b HB).mono ?_; rintro e w2 ⟨rfl, hx2⟩; have HX2 := Lib.hid ((Ext.alloc _ _).trans hx2); clear hx2)
  go_ret
  exact ⟨rfl, HX2.out⟩
set_option maxRecDepth 100000 in
set_option maxHeartbeats 8000000 in
theorem kids12_any (L : Option Addr) (ls : List Int) (n c : Nat) (w : World) (hn : n = ls.length) (hl : Cells w L (bcells ls)) (hlen : ls.length ≤ 1000) (b : Bool) (hb : Hid (kidsOk 12 ls = b)) :
    Calls Try.prog 70 #[.int .u8 12, .slice L n c] w fun e w' => e = .returned (.bool b) ∧ Ext w w' := by
  subst hn
  have HL := Lib.hid hl
  clear hl
  have HB : Hid (isR ls [5] = b) := Lib.hid (by rw [← hb.out]; rfl)
  go_enter Try.func70, Try.ntmps70
  go_wp2_with (go_at_call 105; refine (is_any L _ ls [5] _ c _ _ _ rfl rfl (HL.out.ext (Ext.alloc _ _)) (by exact bcells_new _ [5]) hlen (by decide) (by decide) b HB).mono ?_; rintro e w2 ⟨rfl, hx2⟩; have HX2 := Lib.hid ((Ext.alloc _ _).trans hx2); clear hx2)
  go_ret
  exact ⟨rfl, HX2.out⟩
set_option maxRecDepth 100000 in
set_option maxHeartbeats 8000000 in
theorem kids13_any (L : Option Addr) (ls : List Int) (n c : Nat) (w : World) (hn : n = ls.length) (hl : Cells w L (bcells ls)) (hlen : ls.length ≤ 1000) (b : Bool) (hb : Hid (kidsOk 13 ls = b)) :
    Calls Try.prog 70 #[.int .u8 13, .slice L n c] w fun e w' => e = .returned (.bool b) ∧ Ext w w' := by
  subst hn
  have HL := Lib.hid hl
  clear hl
  obtain ⟨b1, HB1⟩ : ∃ x, Hid (isR ls [5] = x) := ⟨_, Lib.hid rfl⟩
  obtain ⟨b2, HB2⟩ : ∃ x, Hid (isR ls [20] = x) := ⟨_, Lib.hid rfl⟩
  have HB : Hid ((b1 || b2) = b) := Lib.hid (by rw [← hb.out, ← HB1.out, ← HB2.out]; rfl)
  cases b1 with
  | true =>
    go_enter Try.func70, Try.ntmps70
    go_wp2_with (go_at_call 105; refine (is_any L _ ls [5] _ c _ _ _ rfl rfl (HL.out.ext (Ext.alloc _ _)) (by exact bcells_new _ [5]) hlen (by decide) (by decide) true HB1).mono ?_; rintro e w2 ⟨rfl, hx2⟩; have HX2 := Lib.hid ((Ext.alloc _ _).trans hx2); clear hx2)
    go_ret
    exact ⟨ret_b (by rw [← HB.out]; rfl), HX2.out⟩
  | false =>
    go_enter Try.func70, Try.ntmps70
    go_wp2_with fail
    refine (is_any L _ ls [5] _ c _ _ _ rfl rfl (HL.out.ext (Ext.alloc _ _)) (by exact bcells_new _ [5]) hlen (by decide) (by decide) false HB1).mono ?_
    rintro e w2 ⟨rfl, hx2⟩
    have HX2 := Lib.hid ((Ext.alloc _ _).trans hx2)
    clear hx2
    go_wp2_with fail
    refine (is_any L _ ls [20] _ c _ _ _ rfl rfl (HL.out.ext (HX2.out.trans (Ext.alloc _ _))) (by exact bcells_new _ [20]) hlen (by decide) (by decide) b2 HB2).mono ?_
    rintro e w3 ⟨rfl, hx3⟩
    have HX3 := Lib.hid ((HX2.out.trans (Ext.alloc _ _)).trans hx3)
    clear hx3
    go_wp2_with fail
    go_ret
    exact ⟨ret_b (by rw [← HB.out]; simp), HX3.out⟩
set_option maxRecDepth 100000 in
set_option maxHeartbeats 8000000 in
theorem kids14_any (L : Option Addr) (ls : List Int) (n c : Nat) (w : World) (hn : n = ls.length) (hl : Cells w L (bcells ls)) (hlen : ls.length ≤ 1000) (b : Bool) (hb : Hid (kidsOk 14 ls = b)) :
    Calls Try.prog 70 #[.int .u8 14, .slice L n c] w fun e w' => e = .returned (.bool b) ∧ Ext w w' := by
  subst hn
  have HL := Lib.hid hl
  clear hl
  obtain ⟨b1, HB1⟩ : ∃ x, Hid (isR ls [0, 0, 6] = x) := ⟨_, Lib.hid rfl⟩
  obtain ⟨b2, HB2⟩ : ∃ x, Hid (isR ls [0, 0, 6, 6] = x) := ⟨_, Lib.hid rfl⟩
  have HB : Hid ((b1 || b2) = b) := Lib.hid (by rw [← hb.out, ← HB1.out, ← HB2.out]; rfl)
  cases b1 with
  | true =>
    go_enter Try.func70, Try.ntmps70
    go_wp2_with (go_at_call 105; refine (is_any L _ ls [0, 0, 6] _ c _ _ _ rfl rfl (HL.out.ext (Ext.alloc _ _)) (by exact bcells_new _ [0, 0, 6]) hlen (by decide) (by decide) true HB1).mono ?_; rintro e w2 ⟨rfl, hx2⟩; have HX2 := Lib.hid ((Ext.alloc _ _).trans hx2); clear hx2)
    go_ret
    exact ⟨ret_b (by rw [← HB.out]; rfl), HX2.out⟩
  | false =>
    go_enter Try.func70, Try.ntmps70
    go_wp2_with fail
    refine (is_any L _ ls [0, 0, 6] _ c _ _ _ rfl rfl (HL.out.ext (Ext.alloc _ _)) (by exact bcells_new _ [0, 0, 6]) hlen (by decide) (by decide) false HB1).mono ?_
    rintro e w2 ⟨rfl, hx2⟩
    have HX2 := Lib.hid ((Ext.alloc _ _).trans hx2)
    clear hx2
    go_wp2_with fail
    refine (is_any L _ ls [0, 0, 6, 6] _ c _ _ _ rfl rfl (HL.out.ext (HX2.out.trans (Ext.alloc _ _))) (by exact bcells_new _ [0, 0, 6, 6]) hlen (by decide) (by decide) b2 HB2).mono ?_
    rintro e w3 ⟨rfl, hx3⟩
    have HX3 := Lib.hid ((HX2.out.trans (Ext.alloc _ _)).trans hx3)
    clear hx3
    go_wp2_with fail
    go_ret
    exact ⟨ret_b (by rw [← HB.out]; simp), HX3.out⟩
set_option maxRecDepth 100000 in
set_option maxHeartbeats 8000000 in
theorem kids15_any (L : Option Addr) (ls : List Int) (n c : Nat) (w : World) (hn : n = ls.length) (hl : Cells w L (bcells ls)) (hlen : ls.length ≤ 1000) (b : Bool) (hb : Hid (kidsOk 15 ls = b)) :
    Calls Try.prog 70 #[.int .u8 15, .slice L n c] w fun e w' => e = .returned (.bool b) ∧ Ext w w' := by
  subst hn
  have HL := Lib.hid hl
  clear hl
  have HB : Hid (isR ls [21, 21, 6] = b) := Lib.hid (by rw [← hb.out]; rfl)
  go_enter Try.func70, Try.ntmps70
  go_wp2_with (go_at_call 105; refine (is_any L _ ls [21, 21, 6] _ c _ _ _ rfl rfl (HL.out.ext (Ext.alloc _ _)) (by exact bcells_new _ [21, 21, 6]) hlen (by decide) (by decide) b HB).mono ?_; rintro e w2 ⟨rfl, hx2⟩; have HX2 := Lib.hid ((Ext.alloc _ _).trans hx2); clear hx2)
  go_ret
  exact ⟨rfl, HX2.out⟩
set_option maxRecDepth 100000 in
set_option maxHeartbeats 8000000 in
theorem kids16_any (L : Option Addr) (ls : List Int) (n c : Nat) (w : World) (hn : n = ls.length) (hl : Cells w L (bcells ls)) (hlen : ls.length ≤ 1000) (b : Bool) (hb : Hid (kidsOk 16 ls = b)) :
    Calls Try.prog 70 #[.int .u8 16, .slice L n c] w fun e w' => e = .returned (.bool b) ∧ Ext w w' := by
  subst hn
  have HL := Lib.hid hl
  clear hl
  have HB : Hid (isR ls [0] = b) := Lib.hid (by rw [← hb.out]; rfl)
  go_enter Try.func70, Try.ntmps70
  go_wp2_with (go_at_call 105; refine (is_any L _ ls [0] _ c _ _ _ rfl rfl (HL.out.ext (Ext.alloc _ _)) (by exact bcells_new _ [0]) hlen (by decide) (by decide) b HB).mono ?_; rintro e w2 ⟨rfl, hx2⟩; have HX2 := Lib.hid ((Ext.alloc _ _).trans hx2); clear hx2)
  go_ret
  exact ⟨rfl, HX2.out⟩
set_option maxRecDepth 100000 in
set_option maxHeartbeats 8000000 in
theorem kids17_any (L : Option Addr) (ls : List Int) (n c : Nat) (w : World) (hn : n = ls.length) (hl : Cells w L (bcells ls)) (hlen : ls.length ≤ 1000) (b : Bool) (hb : Hid (kidsOk 17 ls = b)) :
    Calls Try.prog 70 #[.int .u8 17, .slice L n c] w fun e w' => e = .returned (.bool b) ∧ Ext w w' := by
  subst hn
  have HL := Lib.hid hl
  clear hl
  have HB : Hid (isR ls [0] = b) := Lib.hid (by rw [← hb.out]; rfl)
  go_enter Try.func70, Try.ntmps70
  go_wp2_with (go_at_call 105; refine (is_any L _ ls [0] _ c _ _ _ rfl rfl (HL.out.ext (Ext.alloc _ _)) (by exact bcells_new _ [0]) hlen (by decide) (by decide) b HB).mono ?_; rintro e w2 ⟨rfl, hx2⟩; have HX2 := Lib.hid ((Ext.alloc _ _).trans hx2); clear hx2)
  go_ret
  exact ⟨rfl, HX2.out⟩
set_option maxRecDepth 100000 in
set_option maxHeartbeats 8000000 in
theorem kids18_any (L : Option Addr) (ls : List Int) (n c : Nat) (w : World) (hn : n = ls.length) (hl : Cells w L (bcells ls)) (hlen : ls.length ≤ 1000) (b : Bool) (hb : Hid (kidsOk 18 ls = b)) :
    Calls Try.prog 70 #[.int .u8 18, .slice L n c] w fun e w' => e = .returned (.bool b) ∧ Ext w w' := by
  subst hn
  have HL := Lib.hid hl
  clear hl
  have HB : Hid ((ls.length == 0) = b) := Lib.hid (by rw [← hb.out]; rfl)
  have HB2 : Hid (((ls.length : Int) == 0) = b) := Lib.hid (by rw [← HB.out, Bool.eq_iff_iff]; simp only [beq_iff_eq]; omega)
  go_enter Try.func70, Try.ntmps70
  go_wp2_with fail
  go_ret
  exact ⟨ret_b (by first | exact HB2.out | exact HB.out | (rw [← HB.out]; cases ls <;> simp)), Ext.refl _⟩
set_option maxRecDepth 100000 in
set_option maxHeartbeats 8000000 in
theorem kids19_any (L : Option Addr) (ls : List Int) (n c : Nat) (w : World) (hn : n = ls.length) (hl : Cells w L (bcells ls)) (hlen : ls.length ≤ 1000) (b : Bool) (hb : Hid (kidsOk 19 ls = b)) :
    Calls Try.prog 70 #[.int .u8 19, .slice L n c] w fun e w' => e = .returned (.bool b) ∧ Ext w w' := by
  subst hn
  have HL := Lib.hid hl
  clear hl
  have HB : Hid ((ls.length == 0) = b) := Lib.hid (by rw [← hb.out]; rfl)
  have HB2 : Hid (((ls.length : Int) == 0) = b) := Lib.hid (by rw [← HB.out, Bool.eq_iff_iff]; simp only [beq_iff_eq]; omega)
  go_enter Try.func70, Try.ntmps70
  go_wp2_with fail
  go_ret
  exact ⟨ret_b (by first | exact HB2.out | exact HB.out | (rw [← HB.out]; cases ls <;> simp)), Ext.refl _⟩
set_option maxRecDepth 100000 in
set_option maxHeartbeats 8000000 in
theorem kids20_any (L : Option Addr) (ls : List Int) (n c : Nat) (w : World) (hn : n = ls.length) (hl : Cells w L (bcells ls)) (hlen : ls.length ≤ 1000) (b : Bool) (hb : Hid (kidsOk 20 ls = b)) :
    Calls Try.prog 70 #[.int .u8 20, .slice L n c] w fun e w' => e = .returned (.bool b) ∧ Ext w w' := by
  subst hn
  have HL := Lib.hid hl
  clear hl
  have HB : Hid (isR ls [0] = b) := Lib.hid (by rw [← hb.out]; rfl)
  go_enter Try.func70, Try.ntmps70
  go_wp2_with (go_at_call 105; refine (is_any L _ ls [0] _ c _ _ _ rfl rfl (HL.out.ext (Ext.alloc _ _)) (by exact bcells_new _ [0]) hlen (by decide) (by decide) b HB).mono ?_; rintro e w2 ⟨rfl, hx2⟩; have HX2 := Lib.hid ((Ext.alloc _ _).trans hx2); clear hx2)
  go_ret
  exact ⟨rfl, HX2.out⟩
set_option maxRecDepth 100000 in
set_option maxHeartbeats 8000000 in
theorem kids21_any (L : Option Addr) (ls : List Int) (n c : Nat) (w : World) (hn : n = ls.length) (hl : Cells w L (bcells ls)) (hlen : ls.length ≤ 1000) (b : Bool) (hb : Hid (kidsOk 21 ls = b)) :
    Calls Try.prog 70 #[.int .u8 21, .slice L n c] w fun e w' => e = .returned (.bool b) ∧ Ext w w' := by
  subst hn
  have HL := Lib.hid hl
  clear hl
  have HB : Hid ((ls.length == 0) = b) := Lib.hid (by rw [← hb.out]; rfl)
  have HB2 : Hid (((ls.length : Int) == 0) = b) := Lib.hid (by rw [← HB.out, Bool.eq_iff_iff]; simp only [beq_iff_eq]; omega)
  go_enter Try.func70, Try.ntmps70
  go_wp2_with fail
  go_ret
  exact ⟨ret_b (by first | exact HB2.out | exact HB.out | (rw [← HB.out]; cases ls <;> simp)), Ext.refl _⟩
set_option maxRecDepth 100000 in
set_option maxHeartbeats 8000000 in
theorem kids22_any (L : Option Addr) (ls : List Int) (n c : Nat) (w : World) (hn : n = ls.length) (hl : Cells w L (bcells ls)) (hlen : ls.length ≤ 1000) (b : Bool) (hb : Hid (kidsOk 22 ls = b)) :
    Calls Try.prog 70 #[.int .u8 22, .slice L n c] w fun e w' => e = .returned (.bool b) ∧ Ext w w' := by
  subst hn
  have HL := Lib.hid hl
  clear hl
  have HB : Hid ((ls.length == 0) = b) := Lib.hid (by rw [← hb.out]; rfl)
  have HB2 : Hid (((ls.length : Int) == 0) = b) := Lib.hid (by rw [← HB.out, Bool.eq_iff_iff]; simp only [beq_iff_eq]; omega)
  go_enter Try.func70, Try.ntmps70
  go_wp2_with fail
  go_ret
  exact ⟨ret_b (by first | exact HB2.out | exact HB.out | (rw [← HB.out]; cases ls <;> simp)), Ext.refl _⟩
set_option maxRecDepth 100000 in
set_option maxHeartbeats 8000000 in
theorem kids23_any (L : Option Addr) (ls : List Int) (n c : Nat) (w : World) (hn : n = ls.length) (hl : Cells w L (bcells ls)) (hlen : ls.length ≤ 1000) (b : Bool) (hb : Hid (kidsOk 23 ls = b)) :
    Calls Try.prog 70 #[.int .u8 23, .slice L n c] w fun e w' => e = .returned (.bool b) ∧ Ext w w' := by
  subst hn
  have HL := Lib.hid hl
  clear hl
  have HB : Hid (isR ls [0, 0] = b) := Lib.hid (by rw [← hb.out]; rfl)
  go_enter Try.func70, Try.ntmps70
  go_wp2_with (go_at_call 105; refine (is_any L _ ls [0, 0] _ c _ _ _ rfl rfl (HL.out.ext (Ext.alloc _ _)) (by exact bcells_new _ [0, 0]) hlen (by decide) (by decide) b HB).mono ?_; rintro e w2 ⟨rfl, hx2⟩; have HX2 := Lib.hid ((Ext.alloc _ _).trans hx2); clear hx2)
  go_ret
  exact ⟨rfl, HX2.out⟩
set_option maxRecDepth 100000 in
set_option maxHeartbeats 8000000 in
theorem kids24_any (L : Option Addr) (ls : List Int) (n c : Nat) (w : World) (hn : n = ls.length) (hl : Cells w L (bcells ls)) (hlen : ls.length ≤ 1000) (b : Bool) (hb : Hid (kidsOk 24 ls = b)) :
    Calls Try.prog 70 #[.int .u8 24, .slice L n c] w fun e w' => e = .returned (.bool b) ∧ Ext w w' := by
  subst hn
  have HL := Lib.hid hl
  clear hl
  have HB : Hid (isR ls [0, 0] = b) := Lib.hid (by rw [← hb.out]; rfl)
  go_enter Try.func70, Try.ntmps70
  go_wp2_with (go_at_call 105; refine (is_any L _ ls [0, 0] _ c _ _ _ rfl rfl (HL.out.ext (Ext.alloc _ _)) (by exact bcells_new _ [0, 0]) hlen (by decide) (by decide) b HB).mono ?_; rintro e w2 ⟨rfl, hx2⟩; have HX2 := Lib.hid ((Ext.alloc _ _).trans hx2); clear hx2)
  go_ret
  exact ⟨rfl, HX2.out⟩
set_option maxRecDepth 100000 in
set_option maxHeartbeats 8000000 in
theorem kids25_any (L : Option Addr) (ls : List Int) (n c : Nat) (w : World) (hn : n = ls.length) (hl : Cells w L (bcells ls)) (hlen : ls.length ≤ 1000) (b : Bool) (hb : Hid (kidsOk 25 ls = b)) :
    Calls Try.prog 70 #[.int .u8 25, .slice L n c] w fun e w' => e = .returned (.bool b) ∧ Ext w w' := by
  subst hn
  have HL := Lib.hid hl
  clear hl
  have HB : Hid (isR ls [0, 0] = b) := Lib.hid (by rw [← hb.out]; rfl)
  go_enter Try.func70, Try.ntmps70
  go_wp2_with (go_at_call 105; refine (is_any L _ ls [0, 0] _ c _ _ _ rfl rfl (HL.out.ext (Ext.alloc _ _)) (by exact bcells_new _ [0, 0]) hlen (by decide) (by decide) b HB).mono ?_; rintro e w2 ⟨rfl, hx2⟩; have HX2 := Lib.hid ((Ext.alloc _ _).trans hx2); clear hx2)
  go_ret
  exact ⟨rfl, HX2.out⟩
set_option maxRecDepth 100000 in
set_option maxHeartbeats 8000000 in
theorem kids26_any (L : Option Addr) (ls : List Int) (n c : Nat) (w : World) (hn : n = ls.length) (hl : Cells w L (bcells ls)) (hlen : ls.length ≤ 1000) (b : Bool) (hb : Hid (kidsOk 26 ls = b)) :
    Calls Try.prog 70 #[.int .u8 26, .slice L n c] w fun e w' => e = .returned (.bool b) ∧ Ext w w' := by
  subst hn
  have HL := Lib.hid hl
  clear hl
  have HB : Hid (isR ls [0] = b) := Lib.hid (by rw [← hb.out]; rfl)
  go_enter Try.func70, Try.ntmps70
  go_wp2_with (go_at_call 105; refine (is_any L _ ls [0] _ c _ _ _ rfl rfl (HL.out.ext (Ext.alloc _ _)) (by exact bcells_new _ [0]) hlen (by decide) (by decide) b HB).mono ?_; rintro e w2 ⟨rfl, hx2⟩; have HX2 := Lib.hid ((Ext.alloc _ _).trans hx2); clear hx2)
  go_ret
  exact ⟨rfl, HX2.out⟩
theorem kids_any (kind : Int) (hk : 1 ≤ kind ∧ kind ≤ 26) (L : Option Addr) (ls : List Int) (n c : Nat) (w : World) (hn : n = ls.length) (hl : Cells w L (bcells ls)) (hlen : ls.length ≤ 1000) (b : Bool) (hb : Hid (kidsOk kind ls = b)) :
    Calls Try.prog 70 #[.int .u8 kind, .slice L n c] w fun e w' => e = .returned (.bool b) ∧ Ext w w' := by
  have hc : kind = 1 ∨ kind = 2 ∨ kind = 3 ∨ kind = 4 ∨ kind = 5 ∨ kind = 6 ∨ kind = 7 ∨ kind = 8 ∨ kind = 9 ∨ kind = 10 ∨ kind = 11 ∨ kind = 12 ∨ kind = 13 ∨ kind = 14 ∨ kind = 15 ∨ kind = 16 ∨ kind = 17 ∨ kind = 18 ∨ kind = 19 ∨ kind = 20 ∨ kind = 21 ∨ kind = 22 ∨ kind = 23 ∨ kind = 24 ∨ kind = 25 ∨ kind = 26 := by omega
  rcases hc with rfl | rfl | rfl | rfl | rfl | rfl | rfl | rfl | rfl | rfl | rfl | rfl | rfl | rfl | rfl | rfl | rfl | rfl | rfl | rfl | rfl | rfl | rfl | rfl | rfl | rfl
  · exact (kids1_any L ls n c w hn hl hlen b hb).mono fun e w' h => ⟨h.1, by rw [h.2]; exact Ext.refl _⟩
  · exact kids2_any L ls n c w hn hl hlen b hb
  · exact kids3_any L ls n c w hn hl hlen b hb
  · exact kids4_any L ls n c w hn hl hlen b hb
  · exact kids5_any L ls n c w hn hl hlen b hb
  · exact kids6_any L ls n c w hn hl hlen b hb
  · exact kids7_any L ls n c w hn hl hlen b hb
  · exact kids8_any L ls n c w hn hl hlen b hb
  · exact kids9_any L ls n c w hn hl hlen b hb
  · exact kids10_any L ls n c w hn hl hlen b hb
  · exact kids11_any L ls n c w hn hl hlen b hb
  · exact kids12_any L ls n c w hn hl hlen b hb
  · exact kids13_any L ls n c w hn hl hlen b hb
  · exact kids14_any L ls n c w hn hl hlen b hb
  · exact kids15_any L ls n c w hn hl hlen b hb
  · exact kids16_any L ls n c w hn hl hlen b hb
  · exact kids17_any L ls n c w hn hl hlen b hb
  · exact kids18_any L ls n c w hn hl hlen b hb
  · exact kids19_any L ls n c w hn hl hlen b hb
  · exact kids20_any L ls n c w hn hl hlen b hb
  · exact kids21_any L ls n c w hn hl hlen b hb
  · exact kids22_any L ls n c w hn hl hlen b hb
  · exact kids23_any L ls n c w hn hl hlen b hb
  · exact kids24_any L ls n c w hn hl hlen b hb
  · exact kids25_any L ls n c w hn hl hlen b hb
  · exact kids26_any L ls n c w hn hl hlen b hb
end Go.Proofs.Ythofccoefiogiaa
