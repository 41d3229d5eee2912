/- Chapter 01, modes: walks of the program and of its reference, function by function: what each call returns, for every input of its kind and in whatever memory; what was in memory stays. -/
import Derived.Test.YtinakfhijcmodaaT11
namespace Go.Proofs.Ytinakfhijcmodaa
open Go.RowKit
set_option linter.unusedVariables false
set_option linter.unusedSimpArgs false
set_option maxHeartbeats 4000000 in
theorem rises_0 (a b c : Int) (w : World) (h0 : 0 ≤ a) (h1 : a < 256) (h2 : 0 ≤ b) (h3 : b < 256) (h4 : 0 ≤ c) (h5 : c < 256) (HCAB : Hid (coversN a b = true)) (HJJ : Hid (coversN (joinN [a, c]) (joinN [b, c]) = true)) (HMM : Hid (coversN (meetN a c) (meetN b c) = true)) (HAA : Hid (coversN (meetN a 2) (meetN b 2) = true)) (HRR : Hid (coversN (rowM a) (rowM b) = true)) (HCA : Hid (besideN c a = false)) (HVJ : Hid (besideN c (joinN [a, b]) = false)) :
    Calls Try.prog 8 #[.int .u8 a, .int .u8 b, .int .u8 c] w fun e w' => e = .returned (.bool true) ∧ Ext w w' := by
  have bjac := join_bd [a, c]
  obtain ⟨jac, Hjac⟩ : ∃ v, Hid (joinN [a, c] = v) := ⟨_, Lib.hid rfl⟩
  rw [Hjac.out] at bjac HJJ
  have bjbc := join_bd [b, c]
  obtain ⟨jbc, Hjbc⟩ : ∃ v, Hid (joinN [b, c] = v) := ⟨_, Lib.hid rfl⟩
  rw [Hjbc.out] at bjbc HJJ
  have bmac := meet_bd a c
  obtain ⟨mac, Hmac⟩ : ∃ v, Hid (meetN a c = v) := ⟨_, Lib.hid rfl⟩
  rw [Hmac.out] at bmac HMM
  have bmbc := meet_bd b c
  obtain ⟨mbc, Hmbc⟩ : ∃ v, Hid (meetN b c = v) := ⟨_, Lib.hid rfl⟩
  rw [Hmbc.out] at bmbc HMM
  have baa := meet_bd a 2
  obtain ⟨aa, Haa⟩ : ∃ v, Hid (meetN a 2 = v) := ⟨_, Lib.hid rfl⟩
  rw [Haa.out] at baa HAA
  have bab := meet_bd b 2
  obtain ⟨ab, Hab⟩ : ∃ v, Hid (meetN b 2 = v) := ⟨_, Lib.hid rfl⟩
  rw [Hab.out] at bab HAA
  have bra := row_bd a
  obtain ⟨ra, Hra⟩ : ∃ v, Hid (rowM a = v) := ⟨_, Lib.hid rfl⟩
  rw [Hra.out] at bra HRR
  have brb := row_bd b
  obtain ⟨rb, Hrb⟩ : ∃ v, Hid (rowM b = v) := ⟨_, Lib.hid rfl⟩
  rw [Hrb.out] at brb HRR
  have bjab := join_bd [a, b]
  obtain ⟨jab, Hjab⟩ : ∃ v, Hid (joinN [a, b] = v) := ⟨_, Lib.hid rfl⟩
  rw [Hjab.out] at bjab HVJ
  go_enter Try.func8, Try.ntmps8
  go_wp2_with fail
  refine (covers_at a b true _ (by omega) (by omega) (by omega) (by omega) HCAB).mono ?_
  rintro e w' ⟨rfl, rfl⟩
  go_wp2_with fail
  refine (join_two' _ _ a c jac (by simp) ⟨(by omega), (by omega)⟩ ⟨(by omega), (by omega)⟩ Hjac).mono ?_
  rintro e w' ⟨rfl, rfl⟩
  go_wp2_with fail
  refine (join_two' _ _ b c jbc (by simp) ⟨(by omega), (by omega)⟩ ⟨(by omega), (by omega)⟩ Hjbc).mono ?_
  rintro e w' ⟨rfl, rfl⟩
  go_wp2_with fail
  refine (covers_at jac jbc true _ (by omega) (by omega) (by omega) (by omega) HJJ).mono ?_
  rintro e w' ⟨rfl, rfl⟩
  go_wp2_with fail
  refine (meet_at a c mac _ (by omega) (by omega) (by omega) (by omega) Hmac).mono ?_
  rintro e w' ⟨rfl, rfl⟩
  go_wp2_with fail
  refine (meet_at b c mbc _ (by omega) (by omega) (by omega) (by omega) Hmbc).mono ?_
  rintro e w' ⟨rfl, rfl⟩
  go_wp2_with fail
  refine (covers_at mac mbc true _ (by omega) (by omega) (by omega) (by omega) HMM).mono ?_
  rintro e w' ⟨rfl, rfl⟩
  go_wp2_with fail
  refine (beside_at c a false _ (by omega) (by omega) (by omega) (by omega) HCA).mono ?_
  rintro e w' ⟨rfl, rfl⟩
  go_wp2_with fail
  refine (join_two' _ _ a b jab (by simp) ⟨(by omega), (by omega)⟩ ⟨(by omega), (by omega)⟩ Hjab).mono ?_
  rintro e w' ⟨rfl, rfl⟩
  go_wp2_with fail
  refine (beside_at c jab false _ (by omega) (by omega) (by omega) (by omega) HVJ).mono ?_
  rintro e w' ⟨rfl, rfl⟩
  go_wp2_with fail
  refine (covers_at a b true _ (by omega) (by omega) (by omega) (by omega) HCAB).mono ?_
  rintro e w' ⟨rfl, rfl⟩
  go_wp2_with fail
  refine (ahead_at a aa _ (by omega) (by omega) Haa).mono ?_
  rintro e w' ⟨rfl, rfl⟩
  go_wp2_with fail
  refine (ahead_at b ab _ (by omega) (by omega) Hab).mono ?_
  rintro e w' ⟨rfl, rfl⟩
  go_wp2_with fail
  refine (covers_at aa ab true _ (by omega) (by omega) (by omega) (by omega) HAA).mono ?_
  rintro e w' ⟨rfl, rfl⟩
  go_wp2_with fail
  refine (row_at a ra _ (by omega) (by omega) Hra).mono ?_
  rintro e w' ⟨rfl, rfl⟩
  go_wp2_with fail
  refine (row_at b rb _ (by omega) (by omega) Hrb).mono ?_
  rintro e w' ⟨rfl, rfl⟩
  go_wp2_with fail
  refine (covers_at ra rb true _ (by omega) (by omega) (by omega) (by omega) HRR).mono ?_
  rintro e w' ⟨rfl, rfl⟩
  go_wp2_with fail
  refine (works_ext _).mono ?_
  rintro e w1 ⟨rfl, hx1⟩
  have HX1 := Lib.hid hx1
  clear hx1
  go_wp2_with fail
  go_ret
  exact ⟨rfl, (Ext.trans (Ext.trans (Ext.trans (Ext.trans (Ext.refl _) (Ext.alloc _ _)) (Ext.alloc _ _)) (Ext.alloc _ _)) (HX1.out))⟩
set_option maxHeartbeats 4000000 in
theorem rises_1 (a b c : Int) (w : World) (h0 : 0 ≤ a) (h1 : a < 256) (h2 : 0 ≤ b) (h3 : b < 256) (h4 : 0 ≤ c) (h5 : c < 256) (HCAB : Hid (coversN a b = true)) (HJJ : Hid (coversN (joinN [a, c]) (joinN [b, c]) = true)) (HMM : Hid (coversN (meetN a c) (meetN b c) = true)) (HAA : Hid (coversN (meetN a 2) (meetN b 2) = true)) (HRR : Hid (coversN (rowM a) (rowM b) = true)) (HCA : Hid (besideN c a = true)) (HCB : Hid (besideN c b = false)) (HVJ : Hid (besideN c (joinN [a, b]) = false)) :
    Calls Try.prog 8 #[.int .u8 a, .int .u8 b, .int .u8 c] w fun e w' => e = .returned (.bool true) ∧ Ext w w' := by
  have bjac := join_bd [a, c]
  obtain ⟨jac, Hjac⟩ : ∃ v, Hid (joinN [a, c] = v) := ⟨_, Lib.hid rfl⟩
  rw [Hjac.out] at bjac HJJ
  have bjbc := join_bd [b, c]
  obtain ⟨jbc, Hjbc⟩ : ∃ v, Hid (joinN [b, c] = v) := ⟨_, Lib.hid rfl⟩
  rw [Hjbc.out] at bjbc HJJ
  have bmac := meet_bd a c
  obtain ⟨mac, Hmac⟩ : ∃ v, Hid (meetN a c = v) := ⟨_, Lib.hid rfl⟩
  rw [Hmac.out] at bmac HMM
  have bmbc := meet_bd b c
  obtain ⟨mbc, Hmbc⟩ : ∃ v, Hid (meetN b c = v) := ⟨_, Lib.hid rfl⟩
  rw [Hmbc.out] at bmbc HMM
  have baa := meet_bd a 2
  obtain ⟨aa, Haa⟩ : ∃ v, Hid (meetN a 2 = v) := ⟨_, Lib.hid rfl⟩
  rw [Haa.out] at baa HAA
  have bab := meet_bd b 2
  obtain ⟨ab, Hab⟩ : ∃ v, Hid (meetN b 2 = v) := ⟨_, Lib.hid rfl⟩
  rw [Hab.out] at bab HAA
  have bra := row_bd a
  obtain ⟨ra, Hra⟩ : ∃ v, Hid (rowM a = v) := ⟨_, Lib.hid rfl⟩
  rw [Hra.out] at bra HRR
  have brb := row_bd b
  obtain ⟨rb, Hrb⟩ : ∃ v, Hid (rowM b = v) := ⟨_, Lib.hid rfl⟩
  rw [Hrb.out] at brb HRR
  have bjab := join_bd [a, b]
  obtain ⟨jab, Hjab⟩ : ∃ v, Hid (joinN [a, b] = v) := ⟨_, Lib.hid rfl⟩
  rw [Hjab.out] at bjab HVJ
  go_enter Try.func8, Try.ntmps8
  go_wp2_with fail
  refine (covers_at a b true _ (by omega) (by omega) (by omega) (by omega) HCAB).mono ?_
  rintro e w' ⟨rfl, rfl⟩
  go_wp2_with fail
  refine (join_two' _ _ a c jac (by simp) ⟨(by omega), (by omega)⟩ ⟨(by omega), (by omega)⟩ Hjac).mono ?_
  rintro e w' ⟨rfl, rfl⟩
  go_wp2_with fail
  refine (join_two' _ _ b c jbc (by simp) ⟨(by omega), (by omega)⟩ ⟨(by omega), (by omega)⟩ Hjbc).mono ?_
  rintro e w' ⟨rfl, rfl⟩
  go_wp2_with fail
  refine (covers_at jac jbc true _ (by omega) (by omega) (by omega) (by omega) HJJ).mono ?_
  rintro e w' ⟨rfl, rfl⟩
  go_wp2_with fail
  refine (meet_at a c mac _ (by omega) (by omega) (by omega) (by omega) Hmac).mono ?_
  rintro e w' ⟨rfl, rfl⟩
  go_wp2_with fail
  refine (meet_at b c mbc _ (by omega) (by omega) (by omega) (by omega) Hmbc).mono ?_
  rintro e w' ⟨rfl, rfl⟩
  go_wp2_with fail
  refine (covers_at mac mbc true _ (by omega) (by omega) (by omega) (by omega) HMM).mono ?_
  rintro e w' ⟨rfl, rfl⟩
  go_wp2_with fail
  refine (beside_at c a true _ (by omega) (by omega) (by omega) (by omega) HCA).mono ?_
  rintro e w' ⟨rfl, rfl⟩
  go_wp2_with fail
  refine (beside_at c b false _ (by omega) (by omega) (by omega) (by omega) HCB).mono ?_
  rintro e w' ⟨rfl, rfl⟩
  go_wp2_with fail
  refine (join_two' _ _ a b jab (by simp) ⟨(by omega), (by omega)⟩ ⟨(by omega), (by omega)⟩ Hjab).mono ?_
  rintro e w' ⟨rfl, rfl⟩
  go_wp2_with fail
  refine (beside_at c jab false _ (by omega) (by omega) (by omega) (by omega) HVJ).mono ?_
  rintro e w' ⟨rfl, rfl⟩
  go_wp2_with fail
  refine (covers_at a b true _ (by omega) (by omega) (by omega) (by omega) HCAB).mono ?_
  rintro e w' ⟨rfl, rfl⟩
  go_wp2_with fail
  refine (ahead_at a aa _ (by omega) (by omega) Haa).mono ?_
  rintro e w' ⟨rfl, rfl⟩
  go_wp2_with fail
  refine (ahead_at b ab _ (by omega) (by omega) Hab).mono ?_
  rintro e w' ⟨rfl, rfl⟩
  go_wp2_with fail
  refine (covers_at aa ab true _ (by omega) (by omega) (by omega) (by omega) HAA).mono ?_
  rintro e w' ⟨rfl, rfl⟩
  go_wp2_with fail
  refine (row_at a ra _ (by omega) (by omega) Hra).mono ?_
  rintro e w' ⟨rfl, rfl⟩
  go_wp2_with fail
  refine (row_at b rb _ (by omega) (by omega) Hrb).mono ?_
  rintro e w' ⟨rfl, rfl⟩
  go_wp2_with fail
  refine (covers_at ra rb true _ (by omega) (by omega) (by omega) (by omega) HRR).mono ?_
  rintro e w' ⟨rfl, rfl⟩
  go_wp2_with fail
  refine (works_ext _).mono ?_
  rintro e w1 ⟨rfl, hx1⟩
  have HX1 := Lib.hid hx1
  clear hx1
  go_wp2_with fail
  go_ret
  exact ⟨rfl, (Ext.trans (Ext.trans (Ext.trans (Ext.trans (Ext.refl _) (Ext.alloc _ _)) (Ext.alloc _ _)) (Ext.alloc _ _)) (HX1.out))⟩
set_option maxHeartbeats 4000000 in
theorem rises_2 (a b c : Int) (w : World) (h0 : 0 ≤ a) (h1 : a < 256) (h2 : 0 ≤ b) (h3 : b < 256) (h4 : 0 ≤ c) (h5 : c < 256) (HCAB : Hid (coversN a b = true)) (HJJ : Hid (coversN (joinN [a, c]) (joinN [b, c]) = true)) (HMM : Hid (coversN (meetN a c) (meetN b c) = true)) (HAA : Hid (coversN (meetN a 2) (meetN b 2) = true)) (HRR : Hid (coversN (rowM a) (rowM b) = true)) (HCA : Hid (besideN c a = true)) (HCB : Hid (besideN c b = true)) (HVJ : Hid (besideN c (joinN [a, b]) = false)) :
    Calls Try.prog 8 #[.int .u8 a, .int .u8 b, .int .u8 c] w fun e w' => e = .returned (.bool true) ∧ Ext w w' := by
  have bjac := join_bd [a, c]
  obtain ⟨jac, Hjac⟩ : ∃ v, Hid (joinN [a, c] = v) := ⟨_, Lib.hid rfl⟩
  rw [Hjac.out] at bjac HJJ
  have bjbc := join_bd [b, c]
  obtain ⟨jbc, Hjbc⟩ : ∃ v, Hid (joinN [b, c] = v) := ⟨_, Lib.hid rfl⟩
  rw [Hjbc.out] at bjbc HJJ
  have bmac := meet_bd a c
  obtain ⟨mac, Hmac⟩ : ∃ v, Hid (meetN a c = v) := ⟨_, Lib.hid rfl⟩
  rw [Hmac.out] at bmac HMM
  have bmbc := meet_bd b c
  obtain ⟨mbc, Hmbc⟩ : ∃ v, Hid (meetN b c = v) := ⟨_, Lib.hid rfl⟩
  rw [Hmbc.out] at bmbc HMM
  have baa := meet_bd a 2
  obtain ⟨aa, Haa⟩ : ∃ v, Hid (meetN a 2 = v) := ⟨_, Lib.hid rfl⟩
  rw [Haa.out] at baa HAA
  have bab := meet_bd b 2
  obtain ⟨ab, Hab⟩ : ∃ v, Hid (meetN b 2 = v) := ⟨_, Lib.hid rfl⟩
  rw [Hab.out] at bab HAA
  have bra := row_bd a
  obtain ⟨ra, Hra⟩ : ∃ v, Hid (rowM a = v) := ⟨_, Lib.hid rfl⟩
  rw [Hra.out] at bra HRR
  have brb := row_bd b
  obtain ⟨rb, Hrb⟩ : ∃ v, Hid (rowM b = v) := ⟨_, Lib.hid rfl⟩
  rw [Hrb.out] at brb HRR
  have bjab := join_bd [a, b]
  obtain ⟨jab, Hjab⟩ : ∃ v, Hid (joinN [a, b] = v) := ⟨_, Lib.hid rfl⟩
  rw [Hjab.out] at bjab HVJ
  go_enter Try.func8, Try.ntmps8
  go_wp2_with fail
  refine (covers_at a b true _ (by omega) (by omega) (by omega) (by omega) HCAB).mono ?_
  rintro e w' ⟨rfl, rfl⟩
  go_wp2_with fail
  refine (join_two' _ _ a c jac (by simp) ⟨(by omega), (by omega)⟩ ⟨(by omega), (by omega)⟩ Hjac).mono ?_
  rintro e w' ⟨rfl, rfl⟩
  go_wp2_with fail
  refine (join_two' _ _ b c jbc (by simp) ⟨(by omega), (by omega)⟩ ⟨(by omega), (by omega)⟩ Hjbc).mono ?_
  rintro e w' ⟨rfl, rfl⟩
  go_wp2_with fail
  refine (covers_at jac jbc true _ (by omega) (by omega) (by omega) (by omega) HJJ).mono ?_
  rintro e w' ⟨rfl, rfl⟩
  go_wp2_with fail
  refine (meet_at a c mac _ (by omega) (by omega) (by omega) (by omega) Hmac).mono ?_
  rintro e w' ⟨rfl, rfl⟩
  go_wp2_with fail
  refine (meet_at b c mbc _ (by omega) (by omega) (by omega) (by omega) Hmbc).mono ?_
  rintro e w' ⟨rfl, rfl⟩
  go_wp2_with fail
  refine (covers_at mac mbc true _ (by omega) (by omega) (by omega) (by omega) HMM).mono ?_
  rintro e w' ⟨rfl, rfl⟩
  go_wp2_with fail
  refine (beside_at c a true _ (by omega) (by omega) (by omega) (by omega) HCA).mono ?_
  rintro e w' ⟨rfl, rfl⟩
  go_wp2_with fail
  refine (beside_at c b true _ (by omega) (by omega) (by omega) (by omega) HCB).mono ?_
  rintro e w' ⟨rfl, rfl⟩
  go_wp2_with fail
  refine (join_two' _ _ a b jab (by simp) ⟨(by omega), (by omega)⟩ ⟨(by omega), (by omega)⟩ Hjab).mono ?_
  rintro e w' ⟨rfl, rfl⟩
  go_wp2_with fail
  refine (beside_at c jab false _ (by omega) (by omega) (by omega) (by omega) HVJ).mono ?_
  rintro e w' ⟨rfl, rfl⟩
  go_wp2_with fail
  refine (covers_at a b true _ (by omega) (by omega) (by omega) (by omega) HCAB).mono ?_
  rintro e w' ⟨rfl, rfl⟩
  go_wp2_with fail
  refine (ahead_at a aa _ (by omega) (by omega) Haa).mono ?_
  rintro e w' ⟨rfl, rfl⟩
  go_wp2_with fail
  refine (ahead_at b ab _ (by omega) (by omega) Hab).mono ?_
  rintro e w' ⟨rfl, rfl⟩
  go_wp2_with fail
  refine (covers_at aa ab true _ (by omega) (by omega) (by omega) (by omega) HAA).mono ?_
  rintro e w' ⟨rfl, rfl⟩
  go_wp2_with fail
  refine (row_at a ra _ (by omega) (by omega) Hra).mono ?_
  rintro e w' ⟨rfl, rfl⟩
  go_wp2_with fail
  refine (row_at b rb _ (by omega) (by omega) Hrb).mono ?_
  rintro e w' ⟨rfl, rfl⟩
  go_wp2_with fail
  refine (covers_at ra rb true _ (by omega) (by omega) (by omega) (by omega) HRR).mono ?_
  rintro e w' ⟨rfl, rfl⟩
  go_wp2_with fail
  refine (works_ext _).mono ?_
  rintro e w1 ⟨rfl, hx1⟩
  have HX1 := Lib.hid hx1
  clear hx1
  go_wp2_with fail
  go_ret
  exact ⟨rfl, (Ext.trans (Ext.trans (Ext.trans (Ext.trans (Ext.refl _) (Ext.alloc _ _)) (Ext.alloc _ _)) (Ext.alloc _ _)) (HX1.out))⟩
set_option maxHeartbeats 4000000 in
theorem rises_3 (a b c : Int) (w : World) (h0 : 0 ≤ a) (h1 : a < 256) (h2 : 0 ≤ b) (h3 : b < 256) (h4 : 0 ≤ c) (h5 : c < 256) (HCAB : Hid (coversN a b = true)) (HJJ : Hid (coversN (joinN [a, c]) (joinN [b, c]) = true)) (HMM : Hid (coversN (meetN a c) (meetN b c) = true)) (HAA : Hid (coversN (meetN a 2) (meetN b 2) = true)) (HRR : Hid (coversN (rowM a) (rowM b) = true)) (HCA : Hid (besideN c a = true)) (HCB : Hid (besideN c b = true)) (HVJ : Hid (besideN c (joinN [a, b]) = true)) :
    Calls Try.prog 8 #[.int .u8 a, .int .u8 b, .int .u8 c] w fun e w' => e = .returned (.bool true) ∧ Ext w w' := by
  have bjac := join_bd [a, c]
  obtain ⟨jac, Hjac⟩ : ∃ v, Hid (joinN [a, c] = v) := ⟨_, Lib.hid rfl⟩
  rw [Hjac.out] at bjac HJJ
  have bjbc := join_bd [b, c]
  obtain ⟨jbc, Hjbc⟩ : ∃ v, Hid (joinN [b, c] = v) := ⟨_, Lib.hid rfl⟩
  rw [Hjbc.out] at bjbc HJJ
  have bmac := meet_bd a c
  obtain ⟨mac, Hmac⟩ : ∃ v, Hid (meetN a c = v) := ⟨_, Lib.hid rfl⟩
  rw [Hmac.out] at bmac HMM
  have bmbc := meet_bd b c
  obtain ⟨mbc, Hmbc⟩ : ∃ v, Hid (meetN b c = v) := ⟨_, Lib.hid rfl⟩
  rw [Hmbc.out] at bmbc HMM
  have baa := meet_bd a 2
  obtain ⟨aa, Haa⟩ : ∃ v, Hid (meetN a 2 = v) := ⟨_, Lib.hid rfl⟩
  rw [Haa.out] at baa HAA
  have bab := meet_bd b 2
  obtain ⟨ab, Hab⟩ : ∃ v, Hid (meetN b 2 = v) := ⟨_, Lib.hid rfl⟩
  rw [Hab.out] at bab HAA
  have bra := row_bd a
  obtain ⟨ra, Hra⟩ : ∃ v, Hid (rowM a = v) := ⟨_, Lib.hid rfl⟩
  rw [Hra.out] at bra HRR
  have brb := row_bd b
  obtain ⟨rb, Hrb⟩ : ∃ v, Hid (rowM b = v) := ⟨_, Lib.hid rfl⟩
  rw [Hrb.out] at brb HRR
  have bjab := join_bd [a, b]
  obtain ⟨jab, Hjab⟩ : ∃ v, Hid (joinN [a, b] = v) := ⟨_, Lib.hid rfl⟩
  rw [Hjab.out] at bjab HVJ
  go_enter Try.func8, Try.ntmps8
  go_wp2_with fail
  refine (covers_at a b true _ (by omega) (by omega) (by omega) (by omega) HCAB).mono ?_
  rintro e w' ⟨rfl, rfl⟩
  go_wp2_with fail
  refine (join_two' _ _ a c jac (by simp) ⟨(by omega), (by omega)⟩ ⟨(by omega), (by omega)⟩ Hjac).mono ?_
  rintro e w' ⟨rfl, rfl⟩
  go_wp2_with fail
  refine (join_two' _ _ b c jbc (by simp) ⟨(by omega), (by omega)⟩ ⟨(by omega), (by omega)⟩ Hjbc).mono ?_
  rintro e w' ⟨rfl, rfl⟩
  go_wp2_with fail
  refine (covers_at jac jbc true _ (by omega) (by omega) (by omega) (by omega) HJJ).mono ?_
  rintro e w' ⟨rfl, rfl⟩
  go_wp2_with fail
  refine (meet_at a c mac _ (by omega) (by omega) (by omega) (by omega) Hmac).mono ?_
  rintro e w' ⟨rfl, rfl⟩
  go_wp2_with fail
  refine (meet_at b c mbc _ (by omega) (by omega) (by omega) (by omega) Hmbc).mono ?_
  rintro e w' ⟨rfl, rfl⟩
  go_wp2_with fail
  refine (covers_at mac mbc true _ (by omega) (by omega) (by omega) (by omega) HMM).mono ?_
  rintro e w' ⟨rfl, rfl⟩
  go_wp2_with fail
  refine (beside_at c a true _ (by omega) (by omega) (by omega) (by omega) HCA).mono ?_
  rintro e w' ⟨rfl, rfl⟩
  go_wp2_with fail
  refine (beside_at c b true _ (by omega) (by omega) (by omega) (by omega) HCB).mono ?_
  rintro e w' ⟨rfl, rfl⟩
  go_wp2_with fail
  refine (join_two' _ _ a b jab (by simp) ⟨(by omega), (by omega)⟩ ⟨(by omega), (by omega)⟩ Hjab).mono ?_
  rintro e w' ⟨rfl, rfl⟩
  go_wp2_with fail
  refine (beside_at c jab true _ (by omega) (by omega) (by omega) (by omega) HVJ).mono ?_
  rintro e w' ⟨rfl, rfl⟩
  go_wp2_with fail
  refine (covers_at a b true _ (by omega) (by omega) (by omega) (by omega) HCAB).mono ?_
  rintro e w' ⟨rfl, rfl⟩
  go_wp2_with fail
  refine (ahead_at a aa _ (by omega) (by omega) Haa).mono ?_
  rintro e w' ⟨rfl, rfl⟩
  go_wp2_with fail
  refine (ahead_at b ab _ (by omega) (by omega) Hab).mono ?_
  rintro e w' ⟨rfl, rfl⟩
  go_wp2_with fail
  refine (covers_at aa ab true _ (by omega) (by omega) (by omega) (by omega) HAA).mono ?_
  rintro e w' ⟨rfl, rfl⟩
  go_wp2_with fail
  refine (row_at a ra _ (by omega) (by omega) Hra).mono ?_
  rintro e w' ⟨rfl, rfl⟩
  go_wp2_with fail
  refine (row_at b rb _ (by omega) (by omega) Hrb).mono ?_
  rintro e w' ⟨rfl, rfl⟩
  go_wp2_with fail
  refine (covers_at ra rb true _ (by omega) (by omega) (by omega) (by omega) HRR).mono ?_
  rintro e w' ⟨rfl, rfl⟩
  go_wp2_with fail
  refine (works_ext _).mono ?_
  rintro e w1 ⟨rfl, hx1⟩
  have HX1 := Lib.hid hx1
  clear hx1
  go_wp2_with fail
  go_ret
  exact ⟨rfl, (Ext.trans (Ext.trans (Ext.trans (Ext.trans (Ext.refl _) (Ext.alloc _ _)) (Ext.alloc _ _)) (Ext.alloc _ _)) (HX1.out))⟩
set_option maxHeartbeats 4000000 in
theorem rises_4 (a b c : Int) (w : World) (h0 : 0 ≤ a) (h1 : a < 256) (h2 : 0 ≤ b) (h3 : b < 256) (h4 : 0 ≤ c) (h5 : c < 256) (HCAB : Hid (coversN a b = false)) (HCA : Hid (besideN c a = false)) (HVJ : Hid (besideN c (joinN [a, b]) = false)) :
    Calls Try.prog 8 #[.int .u8 a, .int .u8 b, .int .u8 c] w fun e w' => e = .returned (.bool true) ∧ Ext w w' := by
  have bjab := join_bd [a, b]
  obtain ⟨jab, Hjab⟩ : ∃ v, Hid (joinN [a, b] = v) := ⟨_, Lib.hid rfl⟩
  rw [Hjab.out] at bjab HVJ
  go_enter Try.func8, Try.ntmps8
  go_wp2_with fail
  refine (covers_at a b false _ (by omega) (by omega) (by omega) (by omega) HCAB).mono ?_
  rintro e w' ⟨rfl, rfl⟩
  go_wp2_with fail
  refine (beside_at c a false _ (by omega) (by omega) (by omega) (by omega) HCA).mono ?_
  rintro e w' ⟨rfl, rfl⟩
  go_wp2_with fail
  refine (join_two' _ _ a b jab (by simp) ⟨(by omega), (by omega)⟩ ⟨(by omega), (by omega)⟩ Hjab).mono ?_
  rintro e w' ⟨rfl, rfl⟩
  go_wp2_with fail
  refine (beside_at c jab false _ (by omega) (by omega) (by omega) (by omega) HVJ).mono ?_
  rintro e w' ⟨rfl, rfl⟩
  go_wp2_with fail
  refine (covers_at a b false _ (by omega) (by omega) (by omega) (by omega) HCAB).mono ?_
  rintro e w' ⟨rfl, rfl⟩
  go_wp2_with fail
  refine (works_ext _).mono ?_
  rintro e w1 ⟨rfl, hx1⟩
  have HX1 := Lib.hid hx1
  clear hx1
  go_wp2_with fail
  go_ret
  exact ⟨rfl, (Ext.trans (Ext.trans (Ext.refl _) (Ext.alloc _ _)) (HX1.out))⟩
set_option maxHeartbeats 4000000 in
theorem rises_5 (a b c : Int) (w : World) (h0 : 0 ≤ a) (h1 : a < 256) (h2 : 0 ≤ b) (h3 : b < 256) (h4 : 0 ≤ c) (h5 : c < 256) (HCAB : Hid (coversN a b = false)) (HCA : Hid (besideN c a = true)) (HCB : Hid (besideN c b = false)) (HVJ : Hid (besideN c (joinN [a, b]) = false)) :
    Calls Try.prog 8 #[.int .u8 a, .int .u8 b, .int .u8 c] w fun e w' => e = .returned (.bool true) ∧ Ext w w' := by
  have bjab := join_bd [a, b]
  obtain ⟨jab, Hjab⟩ : ∃ v, Hid (joinN [a, b] = v) := ⟨_, Lib.hid rfl⟩
  rw [Hjab.out] at bjab HVJ
  go_enter Try.func8, Try.ntmps8
  go_wp2_with fail
  refine (covers_at a b false _ (by omega) (by omega) (by omega) (by omega) HCAB).mono ?_
  rintro e w' ⟨rfl, rfl⟩
  go_wp2_with fail
  refine (beside_at c a true _ (by omega) (by omega) (by omega) (by omega) HCA).mono ?_
  rintro e w' ⟨rfl, rfl⟩
  go_wp2_with fail
  refine (beside_at c b false _ (by omega) (by omega) (by omega) (by omega) HCB).mono ?_
  rintro e w' ⟨rfl, rfl⟩
  go_wp2_with fail
  refine (join_two' _ _ a b jab (by simp) ⟨(by omega), (by omega)⟩ ⟨(by omega), (by omega)⟩ Hjab).mono ?_
  rintro e w' ⟨rfl, rfl⟩
  go_wp2_with fail
  refine (beside_at c jab false _ (by omega) (by omega) (by omega) (by omega) HVJ).mono ?_
  rintro e w' ⟨rfl, rfl⟩
  go_wp2_with fail
  refine (covers_at a b false _ (by omega) (by omega) (by omega) (by omega) HCAB).mono ?_
  rintro e w' ⟨rfl, rfl⟩
  go_wp2_with fail
  refine (works_ext _).mono ?_
  rintro e w1 ⟨rfl, hx1⟩
  have HX1 := Lib.hid hx1
  clear hx1
  go_wp2_with fail
  go_ret
  exact ⟨rfl, (Ext.trans (Ext.trans (Ext.refl _) (Ext.alloc _ _)) (HX1.out))⟩
set_option maxHeartbeats 4000000 in
theorem rises_6 (a b c : Int) (w : World) (h0 : 0 ≤ a) (h1 : a < 256) (h2 : 0 ≤ b) (h3 : b < 256) (h4 : 0 ≤ c) (h5 : c < 256) (HCAB : Hid (coversN a b = false)) (HCA : Hid (besideN c a = true)) (HCB : Hid (besideN c b = true)) (HVJ : Hid (besideN c (joinN [a, b]) = false)) :
    Calls Try.prog 8 #[.int .u8 a, .int .u8 b, .int .u8 c] w fun e w' => e = .returned (.bool true) ∧ Ext w w' := by
  have bjab := join_bd [a, b]
  obtain ⟨jab, Hjab⟩ : ∃ v, Hid (joinN [a, b] = v) := ⟨_, Lib.hid rfl⟩
  rw [Hjab.out] at bjab HVJ
  go_enter Try.func8, Try.ntmps8
  go_wp2_with fail
  refine (covers_at a b false _ (by omega) (by omega) (by omega) (by omega) HCAB).mono ?_
  rintro e w' ⟨rfl, rfl⟩
  go_wp2_with fail
  refine (beside_at c a true _ (by omega) (by omega) (by omega) (by omega) HCA).mono ?_
  rintro e w' ⟨rfl, rfl⟩
  go_wp2_with fail
  refine (beside_at c b true _ (by omega) (by omega) (by omega) (by omega) HCB).mono ?_
  rintro e w' ⟨rfl, rfl⟩
  go_wp2_with fail
  refine (join_two' _ _ a b jab (by simp) ⟨(by omega), (by omega)⟩ ⟨(by omega), (by omega)⟩ Hjab).mono ?_
  rintro e w' ⟨rfl, rfl⟩
  go_wp2_with fail
  refine (beside_at c jab false _ (by omega) (by omega) (by omega) (by omega) HVJ).mono ?_
  rintro e w' ⟨rfl, rfl⟩
  go_wp2_with fail
  refine (covers_at a b false _ (by omega) (by omega) (by omega) (by omega) HCAB).mono ?_
  rintro e w' ⟨rfl, rfl⟩
  go_wp2_with fail
  refine (works_ext _).mono ?_
  rintro e w1 ⟨rfl, hx1⟩
  have HX1 := Lib.hid hx1
  clear hx1
  go_wp2_with fail
  go_ret
  exact ⟨rfl, (Ext.trans (Ext.trans (Ext.refl _) (Ext.alloc _ _)) (HX1.out))⟩
set_option maxHeartbeats 4000000 in
theorem rises_7 (a b c : Int) (w : World) (h0 : 0 ≤ a) (h1 : a < 256) (h2 : 0 ≤ b) (h3 : b < 256) (h4 : 0 ≤ c) (h5 : c < 256) (HCAB : Hid (coversN a b = false)) (HCA : Hid (besideN c a = true)) (HCB : Hid (besideN c b = true)) (HVJ : Hid (besideN c (joinN [a, b]) = true)) :
    Calls Try.prog 8 #[.int .u8 a, .int .u8 b, .int .u8 c] w fun e w' => e = .returned (.bool true) ∧ Ext w w' := by
  have bjab := join_bd [a, b]
  obtain ⟨jab, Hjab⟩ : ∃ v, Hid (joinN [a, b] = v) := ⟨_, Lib.hid rfl⟩
  rw [Hjab.out] at bjab HVJ
  go_enter Try.func8, Try.ntmps8
  go_wp2_with fail
  refine (covers_at a b false _ (by omega) (by omega) (by omega) (by omega) HCAB).mono ?_
  rintro e w' ⟨rfl, rfl⟩
  go_wp2_with fail
  refine (beside_at c a true _ (by omega) (by omega) (by omega) (by omega) HCA).mono ?_
  rintro e w' ⟨rfl, rfl⟩
  go_wp2_with fail
  refine (beside_at c b true _ (by omega) (by omega) (by omega) (by omega) HCB).mono ?_
  rintro e w' ⟨rfl, rfl⟩
  go_wp2_with fail
  refine (join_two' _ _ a b jab (by simp) ⟨(by omega), (by omega)⟩ ⟨(by omega), (by omega)⟩ Hjab).mono ?_
  rintro e w' ⟨rfl, rfl⟩
  go_wp2_with fail
  refine (beside_at c jab true _ (by omega) (by omega) (by omega) (by omega) HVJ).mono ?_
  rintro e w' ⟨rfl, rfl⟩
  go_wp2_with fail
  refine (covers_at a b false _ (by omega) (by omega) (by omega) (by omega) HCAB).mono ?_
  rintro e w' ⟨rfl, rfl⟩
  go_wp2_with fail
  refine (works_ext _).mono ?_
  rintro e w1 ⟨rfl, hx1⟩
  have HX1 := Lib.hid hx1
  clear hx1
  go_wp2_with fail
  go_ret
  exact ⟨rfl, (Ext.trans (Ext.trans (Ext.refl _) (Ext.alloc _ _)) (HX1.out))⟩
theorem ris_parts (a b c : Int) (h0 : 0 ≤ a) (h2 : 0 ≤ b) (h4 : 0 ≤ c) :
    (coversN a b = true → coversN (joinN [a, c]) (joinN [b, c]) = true ∧ coversN (meetN a c) (meetN b c) = true ∧ coversN (meetN a 2) (meetN b 2) = true ∧ coversN (rowM a) (rowM b) = true) ∧ (besideN c (joinN [a, b]) = true → besideN c a = true ∧ besideN c b = true) := by
  have h := ris_all a b c h0 h2 h4
  unfold risB at h
  simp only [Bool.and_eq_true, Bool.or_eq_true, Bool.not_eq_true'] at h
  obtain ⟨⟨e1, e2⟩, e3⟩ := h
  refine ⟨fun hc => ?_, fun hj => ?_⟩
  · rw [hc] at e1 e3
    have e1 := e1.resolve_left (by simp)
    have e3 := e3.resolve_left (by simp)
    exact ⟨e1.1, e1.2, e3.1, e3.2⟩
  · rw [hj] at e2
    exact e2.resolve_left (by simp)
theorem rises_any (a b c : Int) (w : World) (h0 : 0 ≤ a) (h1 : a < 256) (h2 : 0 ≤ b) (h3 : b < 256) (h4 : 0 ≤ c) (h5 : c < 256) :
    Calls Try.prog 8 #[.int .u8 a, .int .u8 b, .int .u8 c] w fun e w' => e = .returned (.bool true) ∧ Ext w w' := by
  obtain ⟨hcov, hbes⟩ := ris_parts a b c h0 h2 h4
  cases hv : besideN c (joinN [a, b])
  · cases hca : besideN c a
    · cases hab : coversN a b
      · exact rises_4 a b c w h0 h1 h2 h3 h4 h5 hab hca hv
      · obtain ⟨p, q, r, s⟩ := hcov hab
        exact rises_0 a b c w h0 h1 h2 h3 h4 h5 hab p q r s hca hv
    · cases hcb : besideN c b
      · cases hab : coversN a b
        · exact rises_5 a b c w h0 h1 h2 h3 h4 h5 hab hca hcb hv
        · obtain ⟨p, q, r, s⟩ := hcov hab
          exact rises_1 a b c w h0 h1 h2 h3 h4 h5 hab p q r s hca hcb hv
      · cases hab : coversN a b
        · exact rises_6 a b c w h0 h1 h2 h3 h4 h5 hab hca hcb hv
        · obtain ⟨p, q, r, s⟩ := hcov hab
          exact rises_2 a b c w h0 h1 h2 h3 h4 h5 hab p q r s hca hcb hv
  · obtain ⟨hca, hcb⟩ := hbes hv
    cases hab : coversN a b
    · exact rises_7 a b c w h0 h1 h2 h3 h4 h5 hab hca hcb hv
    · obtain ⟨p, q, r, s⟩ := hcov hab
      exact rises_3 a b c w h0 h1 h2 h3 h4 h5 hab p q r s hca hcb hv
end Go.Proofs.Ytinakfhijcmodaa
