/- Chapter 01, modes: walks of the program and of its reference, function by function: what each call returns, for every input of its kind and in whatever memory; what was in memory stays. -/
import Derived.Test.YtinakfhijcmodaaPlain
namespace Go.Proofs.Ytinakfhijcmodaa
open Go.RowKit
set_option linter.unusedVariables false
set_option linter.unusedSimpArgs false
theorem known_v (m : Int) (v : Bool) (w : World) (h0 : 0 ≤ m) (h1 : m < 256) (h : Hid (decide (m ≤ 5) = v)) :
    Calls Try.prog 12 #[.int .u8 m] w fun e w' => e = .returned (.bool v) ∧ w = w' := by
  rw [← h.out]; exact known_any m w h0 h1
theorem refknown_v (m : Int) (v : Bool) (w : World) (h0 : 0 ≤ m) (h1 : m < 256) (h : Hid (decide (m ≤ 5) = v)) :
    Calls Try.prog 13 #[.int .u8 m] w fun e w' => e = .returned (.bool v) ∧ w = w' := by
  rw [← h.out]; exact refknown_any m w h0 h1
theorem refjoin_at (A : Option Addr) (l : List Int) (n c : Nat) (v : Int) (w : World) (hn : n = l.length) (hl : l.length ≤ 1000) (hr : Row8 w A l) (hm : ∀ k, 0 ≤ l.getD k 0 ∧ l.getD k 0 < 256) (h : Hid (joinN l = v)) :
    Calls Try.prog 17 #[.slice A n c] w fun e w' => e = .returned (.int .u8 v) ∧ Ext w w' := by
  subst hn; rw [← h.out, ← join_eq]; exact refjoin_any A l c w hl hr hm
theorem refjoin_two' (w : World) (g : Nat) (a b v : Int) (hg : g = w.heap.size) (ha : 0 ≤ a ∧ a < 256) (hb : 0 ≤ b ∧ b < 256) (h : Hid (joinN [a, b] = v)) :
    Calls Try.prog 17 #[.slice (some ⟨g, 0, none⟩) 2 2] (w.alloc (.cells #[.int .u8 a, .int .u8 b] 31)) fun e w' => e = .returned (.int .u8 v) ∧ Ext (w.alloc (.cells #[.int .u8 a, .int .u8 b] 31)) w' := by
  subst hg; exact refjoin_at _ [a, b] 2 2 v _ rfl (by simp) (row8_two w a b) (bd2 _ _ ha hb) h
theorem refmeet_at (a b v : Int) (w : World) (h0 : 0 ≤ a) (h1 : a < 256) (h2 : 0 ≤ b) (h3 : b < 256) (h : Hid (meetN a b = v)) :
    Calls Try.prog 19 #[.int .u8 a, .int .u8 b] w fun e w' => e = .returned (.int .u8 v) ∧ Ext w w' := by
  rw [← h.out, ← meet_eq a b h0 h2]; exact refmeet_any a b w h0 h1 h2 h3
theorem refbeside_v (a b : Int) (v : Bool) (w : World) (h0 : 0 ≤ a) (h1 : a < 256) (h2 : 0 ≤ b) (h3 : b < 256) (h : Hid (besideN a b = v)) :
    Calls Try.prog 21 #[.int .u8 a, .int .u8 b] w fun e w' => e = .returned (.bool v) ∧ Ext w w' := by
  rw [← h.out, ← beside_eq a b h0 h2]; exact refbeside_at a b w h0 h1 h2 h3 _ _ (ofM_bd a h0 h1) (ofM_bd b h2 h3) (Lib.hid rfl) (Lib.hid rfl)
theorem refahead_v (a v : Int) (w : World) (h0 : 0 ≤ a) (h1 : a < 256) (h : Hid (meetN a 2 = v)) :
    Calls Try.prog 23 #[.int .u8 a] w fun e w' => e = .returned (.int .u8 v) ∧ Ext w w' := by
  rw [← h.out, ← ahead_eq a h0]; exact refahead_any a _ w h0 h1 (Lib.hid rfl)
theorem refrow_v (a v : Int) (w : World) (h0 : 0 ≤ a) (h1 : a < 256) (h : Hid (rowM a = v)) :
    Calls Try.prog 25 #[.int .u8 a] w fun e w' => e = .returned (.int .u8 v) ∧ Ext w w' := by
  rw [← h.out, ← row_eq a h0]; exact refrow_any a _ w h0 h1 (Lib.hid rfl)
theorem reftext_v (a : Int) (v : ByteArray) (w : World) (h0 : 0 ≤ a) (h1 : a < 256) (h : Hid (textN (ofM a) = v)) :
    Calls Try.prog 27 #[.int .u8 a] w fun e w' => e = .returned (.string v) ∧ Ext w w' := by
  rw [← h.out]; exact reftext_any a _ w h0 h1 (Lib.hid rfl)
theorem works_ext (w : World) : Calls Try.prog 28 #[] w fun e w' => e = .returned (.bool true) ∧ Ext w w' := works_any w

set_option maxHeartbeats 4000000 in
theorem two_any (a b : Int) (w : World) (h0 : 0 ≤ a) (h1 : a < 256) (h2 : 0 ≤ b) (h3 : b < 256) :
    Calls Try.prog 4 #[.int .u8 a, .int .u8 b] w fun e w' => e = .returned (.bool true) ∧ Ext w w' := by
  obtain ⟨vk, HK⟩ : ∃ v, Hid (decide (a ≤ 5) = v) := ⟨_, Lib.hid rfl⟩
  obtain ⟨vc, HC⟩ : ∃ v, Hid (coversN a b = v) := ⟨_, Lib.hid rfl⟩
  obtain ⟨vj, HJ⟩ : ∃ v, Hid (joinN [a, b] = v) := ⟨_, Lib.hid rfl⟩
  obtain ⟨vm, HM⟩ : ∃ v, Hid (meetN a b = v) := ⟨_, Lib.hid rfl⟩
  obtain ⟨vb, HB⟩ : ∃ v, Hid (besideN a b = v) := ⟨_, Lib.hid rfl⟩
  obtain ⟨va, HA⟩ : ∃ v, Hid (meetN a 2 = v) := ⟨_, Lib.hid rfl⟩
  obtain ⟨vr, HR⟩ : ∃ v, Hid (rowM a = v) := ⟨_, Lib.hid rfl⟩
  obtain ⟨vt, HT⟩ : ∃ v, Hid (textN (ofM a) = v) := ⟨_, Lib.hid rfl⟩
  go_enter Try.func4, Try.ntmps4
  go_wp2_with fail
  refine (known_v a vk _ h0 h1 HK).mono ?_
  rintro e w' ⟨rfl, rfl⟩
  go_wp2_with fail
  refine (refknown_v a vk _ h0 h1 HK).mono ?_
  rintro e w' ⟨rfl, rfl⟩
  go_wp2_with fail
  refine (covers_at a b vc _ h0 h1 h2 h3 HC).mono ?_
  rintro e w' ⟨rfl, rfl⟩
  go_wp2_with fail
  refine (refcovers_at a b vc _ h0 h1 h2 h3 HC).mono ?_
  rintro e w' ⟨rfl, rfl⟩
  go_wp2_with fail
  refine (join_two' _ _ a b vj (by simp) ⟨h0, h1⟩ ⟨h2, h3⟩ HJ).mono ?_
  rintro e w' ⟨rfl, rfl⟩
  go_wp2_with fail
  refine (refjoin_two' _ _ a b vj (by simp) ⟨h0, h1⟩ ⟨h2, h3⟩ HJ).mono ?_
  rintro e w1 ⟨rfl, hx1⟩
  have HX1 := Lib.hid hx1
  clear hx1
  go_wp2_with fail
  refine (meet_at a b vm _ h0 h1 h2 h3 HM).mono ?_
  rintro e w' ⟨rfl, rfl⟩
  go_wp2_with fail
  refine (refmeet_at a b vm _ h0 h1 h2 h3 HM).mono ?_
  rintro e w2 ⟨rfl, hx2⟩
  have HX2 := Lib.hid hx2
  clear hx2
  go_wp2_with fail
  refine (beside_at a b vb _ h0 h1 h2 h3 HB).mono ?_
  rintro e w' ⟨rfl, rfl⟩
  go_wp2_with fail
  refine (refbeside_v a b vb _ h0 h1 h2 h3 HB).mono ?_
  rintro e w3 ⟨rfl, hx3⟩
  have HX3 := Lib.hid hx3
  clear hx3
  go_wp2_with fail
  refine (ahead_at a va _ h0 h1 HA).mono ?_
  rintro e w' ⟨rfl, rfl⟩
  go_wp2_with fail
  refine (refahead_v a va _ h0 h1 HA).mono ?_
  rintro e w4 ⟨rfl, hx4⟩
  have HX4 := Lib.hid hx4
  clear hx4
  go_wp2_with fail
  refine (row_at a vr _ h0 h1 HR).mono ?_
  rintro e w' ⟨rfl, rfl⟩
  go_wp2_with fail
  refine (refrow_v a vr _ h0 h1 HR).mono ?_
  rintro e w5 ⟨rfl, hx5⟩
  have HX5 := Lib.hid hx5
  clear hx5
  go_wp2_with fail
  refine (text_v a vt _ h0 h1 HT).mono ?_
  rintro e w' ⟨rfl, rfl⟩
  go_wp2_with fail
  refine (reftext_v a vt _ h0 h1 HT).mono ?_
  rintro e w6 ⟨rfl, hx6⟩
  have HX6 := Lib.hid hx6
  clear hx6
  go_wp2_with fail
  refine (works_ext _).mono ?_
  rintro e w7 ⟨rfl, hx7⟩
  have HX7 := Lib.hid hx7
  clear hx7
  go_wp2_with fail
  go_ret
  exact ⟨rfl, (Ext.trans (Ext.trans (Ext.trans (Ext.trans (Ext.trans (Ext.trans (Ext.trans (Ext.trans (Ext.trans (Ext.refl _) (Ext.alloc _ _)) (Ext.alloc _ _)) (HX1.out)) (HX2.out)) (HX3.out)) (HX4.out)) (HX5.out)) (HX6.out)) (HX7.out))⟩
theorem eqv {a b : Int} (h : (a == b) = true) : a = b := by simpa using h
theorem beqv {a b : Bool} (h : (a == b) = true) : a = b := by simpa using h
theorem lat_parts (a b c : Int) (h0 : 0 ≤ a) (h1 : a ≤ 5) (h2 : 0 ≤ b) (h3 : b ≤ 5) (h4 : 0 ≤ c) (h5 : c ≤ 5) :
    joinN [b, a] = joinN [a, b] ∧ meetN b a = meetN a b ∧ joinN [a, joinN [b, c]] = joinN [joinN [a, b], c] ∧ meetN a (meetN b c) = meetN (meetN a b) c ∧ joinN [a, meetN a b] = a ∧ meetN a (joinN [a, b]) = a ∧ (joinN [a, b] == a) = coversN a b ∧ (meetN a b == b) = coversN a b := by
  obtain ⟨x, hx, rfl⟩ := nat_six a ⟨h0, by omega⟩
  obtain ⟨y, hy, rfl⟩ := nat_six b ⟨h2, by omega⟩
  obtain ⟨z, hz, rfl⟩ := nat_six c ⟨h4, by omega⟩
  have h := lat_key x hx y hy z hz
  unfold latB at h
  simp only [Bool.and_eq_true] at h
  obtain ⟨⟨⟨⟨⟨⟨⟨e1, e2⟩, e3⟩, e4⟩, e5⟩, e6⟩, e7⟩, e8⟩ := h
  exact ⟨(eqv e1).symm, (eqv e2).symm, (eqv e3).symm, (eqv e4).symm, eqv e5, eqv e6, (beqv e7).symm, (beqv e8).symm⟩
set_option maxHeartbeats 4000000 in
theorem lattice_no (a b c : Int) (w : World) (h0 : 0 ≤ a) (h1 : a < 256) (h2 : 0 ≤ b) (h3 : b < 256) (h4 : 0 ≤ c) (h5 : c < 256) (hn : 5 < a ∨ 5 < b ∨ 5 < c) :
    Calls Try.prog 6 #[.int .u8 a, .int .u8 b, .int .u8 c] w fun e w' => e = .returned (.bool true) ∧ Ext w w' := by
  by_cases ha : 5 < a
  · have HA : Hid (decide (a ≤ 5) = false) := Lib.hid (by simp; omega)
    go_enter Try.func6, Try.ntmps6
    go_wp2_with fail
    refine (known_v a false _ (by omega) (by omega) HA).mono ?_
    rintro e w' ⟨rfl, rfl⟩
    go_wp2_with fail
    refine (works_ext _).mono ?_
    rintro e w1 ⟨rfl, hx1⟩
    have HX1 := Lib.hid hx1
    clear hx1
    go_wp2_with fail
    go_ret
    exact ⟨rfl, (Ext.trans (Ext.refl _) (HX1.out))⟩
  have HA : Hid (decide (a ≤ 5) = true) := Lib.hid (by simp; omega)
  by_cases hb : 5 < b
  · have HB : Hid (decide (b ≤ 5) = false) := Lib.hid (by simp; omega)
    go_enter Try.func6, Try.ntmps6
    go_wp2_with fail
    refine (known_v a true _ (by omega) (by omega) HA).mono ?_
    rintro e w' ⟨rfl, rfl⟩
    go_wp2_with fail
    refine (known_v b false _ (by omega) (by omega) HB).mono ?_
    rintro e w' ⟨rfl, rfl⟩
    go_wp2_with fail
    refine (works_ext _).mono ?_
    rintro e w1 ⟨rfl, hx1⟩
    have HX1 := Lib.hid hx1
    clear hx1
    go_wp2_with fail
    go_ret
    exact ⟨rfl, (Ext.trans (Ext.refl _) (HX1.out))⟩
  have HB : Hid (decide (b ≤ 5) = true) := Lib.hid (by simp; omega)
  have HC : Hid (decide (c ≤ 5) = false) := Lib.hid (by simp; omega)
  go_enter Try.func6, Try.ntmps6
  go_wp2_with fail
  refine (known_v a true _ (by omega) (by omega) HA).mono ?_
  rintro e w' ⟨rfl, rfl⟩
  go_wp2_with fail
  refine (known_v b true _ (by omega) (by omega) HB).mono ?_
  rintro e w' ⟨rfl, rfl⟩
  go_wp2_with fail
  refine (known_v c false _ (by omega) (by omega) HC).mono ?_
  rintro e w' ⟨rfl, rfl⟩
  go_wp2_with fail
  refine (works_ext _).mono ?_
  rintro e w1 ⟨rfl, hx1⟩
  have HX1 := Lib.hid hx1
  clear hx1
  go_wp2_with fail
  go_ret
  exact ⟨rfl, (Ext.trans (Ext.refl _) (HX1.out))⟩
set_option maxHeartbeats 8000000 in
theorem lattice_yes (a b c : Int) (w : World) (h0 : 0 ≤ a) (h1 : a ≤ 5) (h2 : 0 ≤ b) (h3 : b ≤ 5) (h4 : 0 ≤ c) (h5 : c ≤ 5) :
    Calls Try.prog 6 #[.int .u8 a, .int .u8 b, .int .u8 c] w fun e w' => e = .returned (.bool true) ∧ Ext w w' := by
  obtain ⟨e1, e2, e3, e4, e5, e6, e7, e8⟩ := lat_parts a b c h0 h1 h2 h3 h4 h5
  have HKA : Hid (decide (a ≤ 5) = true) := Lib.hid (by simp; omega)
  have HKB : Hid (decide (b ≤ 5) = true) := Lib.hid (by simp; omega)
  have HKC : Hid (decide (c ≤ 5) = true) := Lib.hid (by simp; omega)
  have bj := join_bd [a, b]
  have bm := meet_bd a b
  have bk := join_bd [b, c]
  have bn := meet_bd b c
  obtain ⟨j, HJ⟩ : ∃ v, Hid (joinN [a, b] = v) := ⟨_, Lib.hid rfl⟩
  obtain ⟨m, HM⟩ : ∃ v, Hid (meetN a b = v) := ⟨_, Lib.hid rfl⟩
  obtain ⟨k, HK⟩ : ∃ v, Hid (joinN [b, c] = v) := ⟨_, Lib.hid rfl⟩
  obtain ⟨n, HN⟩ : ∃ v, Hid (meetN b c = v) := ⟨_, Lib.hid rfl⟩
  obtain ⟨vc, HC⟩ : ∃ v, Hid (coversN a b = v) := ⟨_, Lib.hid rfl⟩
  rw [HJ.out] at e1 e3 e6 e7 bj
  rw [HM.out] at e2 e4 e5 e8 bm
  rw [HK.out] at e3 bk
  rw [HN.out] at e4 bn
  rw [HC.out] at e7 e8
  obtain ⟨p, HP⟩ : ∃ v, Hid (joinN [j, c] = v) := ⟨_, Lib.hid rfl⟩
  obtain ⟨q, HQ⟩ : ∃ v, Hid (meetN m c = v) := ⟨_, Lib.hid rfl⟩
  rw [HP.out] at e3
  rw [HQ.out] at e4
  have E1 := Lib.hid e1
  have E2 := Lib.hid e2
  have E3 := Lib.hid e3
  have E4 := Lib.hid e4
  have E5 := Lib.hid e5
  have E6 := Lib.hid e6
  clear e1 e2 e3 e4 e5 e6
  go_enter Try.func6, Try.ntmps6
  go_wp2_with fail
  refine (known_v a true _ (by omega) (by omega) HKA).mono ?_
  rintro e w' ⟨rfl, rfl⟩
  go_wp2_with fail
  refine (known_v b true _ (by omega) (by omega) HKB).mono ?_
  rintro e w' ⟨rfl, rfl⟩
  go_wp2_with fail
  refine (known_v c true _ (by omega) (by omega) HKC).mono ?_
  rintro e w' ⟨rfl, rfl⟩
  go_wp2_with fail
  refine (join_two' _ _ a b j (by simp) ⟨(by omega), (by omega)⟩ ⟨(by omega), (by omega)⟩ HJ).mono ?_
  rintro e w' ⟨rfl, rfl⟩
  go_wp2_with fail
  refine (meet_at a b m _ (by omega) (by omega) (by omega) (by omega) HM).mono ?_
  rintro e w' ⟨rfl, rfl⟩
  go_wp2_with fail
  refine (join_two' _ _ b a j (by simp) ⟨(by omega), (by omega)⟩ ⟨(by omega), (by omega)⟩ E1).mono ?_
  rintro e w' ⟨rfl, rfl⟩
  go_wp2_with fail
  refine (meet_at b a m _ (by omega) (by omega) (by omega) (by omega) E2).mono ?_
  rintro e w' ⟨rfl, rfl⟩
  go_wp2_with fail
  refine (join_two' _ _ j c p (by simp) ⟨(by omega), (by omega)⟩ ⟨(by omega), (by omega)⟩ HP).mono ?_
  rintro e w' ⟨rfl, rfl⟩
  go_wp2_with fail
  refine (join_two' _ _ b c k (by simp) ⟨(by omega), (by omega)⟩ ⟨(by omega), (by omega)⟩ HK).mono ?_
  rintro e w' ⟨rfl, rfl⟩
  go_wp2_with fail
  refine (join_two' _ _ a k p (by simp) ⟨(by omega), (by omega)⟩ ⟨(by omega), (by omega)⟩ E3).mono ?_
  rintro e w' ⟨rfl, rfl⟩
  go_wp2_with fail
  refine (meet_at m c q _ (by omega) (by omega) (by omega) (by omega) HQ).mono ?_
  rintro e w' ⟨rfl, rfl⟩
  go_wp2_with fail
  refine (meet_at b c n _ (by omega) (by omega) (by omega) (by omega) HN).mono ?_
  rintro e w' ⟨rfl, rfl⟩
  go_wp2_with fail
  refine (meet_at a n q _ (by omega) (by omega) (by omega) (by omega) E4).mono ?_
  rintro e w' ⟨rfl, rfl⟩
  go_wp2_with fail
  refine (join_two' _ _ a m a (by simp) ⟨(by omega), (by omega)⟩ ⟨(by omega), (by omega)⟩ E5).mono ?_
  rintro e w' ⟨rfl, rfl⟩
  go_wp2_with fail
  refine (meet_at a j a _ (by omega) (by omega) (by omega) (by omega) E6).mono ?_
  rintro e w' ⟨rfl, rfl⟩
  go_wp2_with fail
  refine (covers_at a b vc _ (by omega) (by omega) (by omega) (by omega) HC).mono ?_
  rintro e w' ⟨rfl, rfl⟩
  go_wp2_with fail
  refine (covers_at a b vc _ (by omega) (by omega) (by omega) (by omega) HC).mono ?_
  rintro e w' ⟨rfl, rfl⟩
  go_wp2_with fail
  refine (works_ext _).mono ?_
  rintro e w1 ⟨rfl, hx1⟩
  have HX1 := Lib.hid hx1
  clear hx1
  go_wp2_with fail
  go_ret
  exact ⟨rfl, (Ext.trans (Ext.trans (Ext.trans (Ext.trans (Ext.trans (Ext.trans (Ext.trans (Ext.refl _) (Ext.alloc _ _)) (Ext.alloc _ _)) (Ext.alloc _ _)) (Ext.alloc _ _)) (Ext.alloc _ _)) (Ext.alloc _ _)) (HX1.out))⟩
theorem lattice_any (a b c : Int) (w : World) (h0 : 0 ≤ a) (h1 : a < 256) (h2 : 0 ≤ b) (h3 : b < 256) (h4 : 0 ≤ c) (h5 : c < 256) :
    Calls Try.prog 6 #[.int .u8 a, .int .u8 b, .int .u8 c] w fun e w' => e = .returned (.bool true) ∧ Ext w w' := by
  by_cases h : a ≤ 5 ∧ b ≤ 5 ∧ c ≤ 5
  · exact lattice_yes a b c w h0 h.1 h2 h.2.1 h4 h.2.2
  · exact lattice_no a b c w h0 h1 h2 h3 h4 h5 (by omega)
end Go.Proofs.Ytinakfhijcmodaa
