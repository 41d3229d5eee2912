/- KeySums, the other ways, and all together. No condition. -/
import Derived.Test.YthofccoefiogiaaKSums
import Derived.Test.YthofccoefiogiaaOpenK
namespace Go.Proofs.Ythofccoefiogiaa
open Go Go.RowKit
set_option linter.unusedVariables false
set_option linter.unusedSimpArgs false
set_option maxHeartbeats 1000000 in
theorem ks_long (A1 A2 V : Option Addr) (n1 n2 m c1 c2 d : Nat) (n : Int) (w : World) (h : 60 < n1 ∨ 60 < n2 ∨ 100 < m) :
    Calls Try.prog 7 #[.slice A1 n1 c1, .slice A2 n2 c2, .slice V m d, .int .i64 n] w fun e w' => e = .returned (.bool true) ∧ Ext w w' := by
  by_cases h1 : 60 < n1
  · have e1 : decide ((60 : Int) < (n1 : Int)) = true := by simp; omega
    go_enter Try.func7, Try.ntmps7
    go_wp2_with fail
    refine (works20 _).mono ?_
    rintro e w1 ⟨rfl, hx1⟩
    have HX1 := Lib.hid hx1
    clear hx1
    go_wp2_with fail
    go_ret
    exact ⟨rfl, HX1.out⟩
  have e1 : decide ((60 : Int) < (n1 : Int)) = false := by simp; omega
  by_cases h2 : 60 < n2
  · have e2 : decide ((60 : Int) < (n2 : Int)) = true := by simp; omega
    go_enter Try.func7, Try.ntmps7
    go_wp2_with fail
    refine (works20 _).mono ?_
    rintro e w1 ⟨rfl, hx1⟩
    have HX1 := Lib.hid hx1
    clear hx1
    go_wp2_with fail
    go_ret
    exact ⟨rfl, HX1.out⟩
  have e2 : decide ((60 : Int) < (n2 : Int)) = false := by simp; omega
  have e3 : decide ((100 : Int) < (m : Int)) = true := by simp; omega
  go_enter Try.func7, Try.ntmps7
  go_wp2_with fail
  refine (works20 _).mono ?_
  rintro e w1 ⟨rfl, hx1⟩
  have HX1 := Lib.hid hx1
  clear hx1
  go_wp2_with fail
  go_ret
  exact ⟨rfl, HX1.out⟩
set_option maxHeartbeats 1000000 in
theorem ks_wrong (A1 A2 V : Option Addr) (a b : List TermD) (pl c1 c2 d : Nat) (n : Int) (w : World) (h1 : a.length ≤ 60) (h2 : b.length ≤ 60) (h3 : pl ≤ 100)
    (hA : Cells w A1 (tcells a)) (hB : Cells w A2 (tcells b)) (oka : ∀ t ∈ a, t.ok) (okb : ∀ t ∈ b, t.ok)
    (x y : Int) (e f : Bool) (hx : Hid (evalR (List.replicate pl 0) a = (x, e))) (hy : Hid (evalR (List.replicate pl 0) b = (y, f))) (hno : e = false ∨ f = false) :
    Calls Try.prog 7 #[.slice A1 a.length c1, .slice A2 b.length c2, .slice V pl d, .int .i64 n] w fun e w' => e = .returned (.bool true) ∧ Ext w w' := by
  have e1 : decide ((60 : Int) < (a.length : Int)) = false := by simp; omega
  have e2 : decide ((60 : Int) < (b.length : Int)) = false := by simp; omega
  have e3 : decide ((100 : Int) < (pl : Int)) = false := by simp; omega
  have hmk := run_make_row' (P := Try.prog) 53 2 (.int .i64 0) 8 Try.underlying53 infoN64 rfl .i64 .i64 pl (by omega) (by omega)
  have HA := Lib.hid hA
  have HB := Lib.hid hB
  have HOA := Lib.hid oka
  have HOB := Lib.hid okb
  clear hA hB oka okb
  have hcase : e = false ∨ (e = true ∧ f = false) := by cases e <;> simp at hno ⊢; exact hno
  clear hno
  rcases hcase with rfl | ⟨rfl, rfl⟩
  all_goals
    go_enter Try.func7, Try.ntmps7
    go_upto_region 4 with fail
    have HZR : Hid (Cells (w.alloc (.cells (madeCells #[.int .i64 0] pl) 2)) (some ⟨w.heap.size, 0, none⟩) (ncells (List.replicate pl 0))) := by
      have := Cells.new w 2 (madeCells #[.int .i64 0] pl)
      rw [toList_madeCells_one] at this
      unfold ncells
      rw [List.map_replicate]
      exact this
    have HX0 : Hid (Ext w (w.alloc (.cells (madeCells #[.int .i64 0] pl) 2))) := Ext.alloc _ _
    have HVK : Hid (∀ n ∈ List.replicate pl (0 : Int), -9223372036854775808 ≤ n ∧ n ≤ 9223372036854775807) := Lib.hid (fun n hn => by rw [(List.mem_replicate.1 hn).2]; decide)
    generalize w.alloc (.cells (madeCells #[.int .i64 0] pl) 2) = w0 at *
    generalize w.heap.size = gz at *
    clear hmk
    go_wp2_with fail
    refine (eval_w _ _ a (List.replicate pl 0) _ _ _ _ x _ _ rfl (by simp) (by omega) (by simp; omega) (HA.out.ext HX0.out) HZR.out HOA.out HVK.out hx).mono ?_
    rintro e w1 ⟨rfl, hx1⟩
    have HX1 := Lib.hid hx1
    clear hx1
    go_wp2_with fail
    refine (eval_w _ _ b (List.replicate pl 0) _ _ _ _ y _ _ rfl (by simp) (by omega) (by simp; omega) ((HB.out.ext HX0.out).ext HX1.out) (HZR.out.ext HX1.out) HOB.out HVK.out hy).mono ?_
    rintro e w2 ⟨rfl, hx2⟩
    have HX2 : Hid (Ext w w2) := Ext.trans HX0.out (Ext.trans HX1.out hx2)
    clear hx2 HX1 HX0 HZR
    go_wp2_with fail
    refine (works20 _).mono ?_
    rintro e w3 ⟨rfl, hx3⟩
    have HX3 := Lib.hid hx3
    clear hx3
    go_wp2_with fail
    go_ret
    exact ⟨rfl, Ext.trans HX2.out HX3.out⟩
theorem keySums_any (A1 A2 V : Option Addr) (a b : List TermD) (ps : List KindD) (n : Int) (c1 c2 d : Nat) (w : World) (z1 : A1 = none → c1 = 0) (z2 : A2 = none → c2 = 0)
    (hA : Cells w A1 (tcells a)) (hB : Cells w A2 (tcells b)) (hV : Cells w V (tcells ps)) (oka : ∀ t ∈ a, t.ok) (okb : ∀ t ∈ b, t.ok) (okp : ∀ k ∈ ps, KindD.ok k) (hn : (Lit.int .i64 n).wf = true) :
    Calls Try.prog 7 #[.slice A1 a.length c1, .slice A2 b.length c2, .slice V ps.length d, .int .i64 n] w fun e w' => e = .returned (.bool true) ∧ Ext w w' := by
  by_cases hl : 60 < a.length ∨ 60 < b.length ∨ 100 < ps.length
  · exact ks_long A1 A2 V _ _ _ c1 c2 d n w hl
  have hn' := bounds_i64 hn
  have hp : ∀ k ∈ ps, -9223372036854775808 ≤ k.2.1 ∧ k.2.1 ≤ 9223372036854775807 := fun k hk => (okp k hk).2.1
  obtain ⟨⟨x, eb⟩, e⟩ : ∃ r, evalR (List.replicate ps.length 0) a = r := ⟨_, rfl⟩
  obtain ⟨⟨y, fb⟩, f⟩ : ∃ r, evalR (List.replicate ps.length 0) b = r := ⟨_, rfl⟩
  by_cases h : eb = false ∨ fb = false
  · exact ks_wrong A1 A2 V a b ps.length c1 c2 d n w (by omega) (by omega) (by omega) hA hB oka okb x y eb fb e f h
  obtain rfl : eb = true := by cases eb <;> simp at h ⊢
  obtain rfl : fb = true := by cases fb <;> simp at h ⊢
  obtain ⟨ka, hga, ha⟩ := right_kind ps hp a x oka e
  obtain ⟨kb, _, hb⟩ := right_kind ps hp b y okb f
  have hu1 := sum_kind ps a b ka kb ha hb
  have hu2 := sum_kind ps b a kb ka hb ha
  rw [pair_comm kb ka] at hu2
  have hk := ofR_of (ha [])
  have hz := back_kind ps a n ka ha
  have hlaw := back_law ka n hga
  obtain ⟨⟨su, nu, pu⟩, hu⟩ : ∃ u, pairN 3 ka kb = u := ⟨_, rfl⟩
  rw [hu] at hu1 hu2
  obtain ⟨⟨sz, nz, pz⟩, hzz⟩ : ∃ u, pairN 4 (pairN 3 ka (1, n, 0)) (1, n, 0) = u := ⟨_, rfl⟩
  rw [hzz] at hz hlaw
  obtain ⟨sk, nk, pk⟩ := ka
  simp only at hlaw
  by_cases h1 : sk = 1
  · subst h1
    rw [hlaw (.inl rfl)] at hz
    exact keySums_one A1 A2 V a b ps n c1 c2 d w z1 z2 (by omega) (by omega) (by omega) hA hB hV oka okb hn' x y (Lib.hid e) (Lib.hid f) su nu pu nk pk (Lib.hid hu1) (Lib.hid hu2) (Lib.hid hk) (Lib.hid hz)
  by_cases h2 : sk = 2
  · subst h2
    rw [hlaw (.inr rfl)] at hz
    exact keySums_two A1 A2 V a b ps n c1 c2 d w z1 z2 (by omega) (by omega) (by omega) hA hB hV oka okb hn' x y (Lib.hid e) (Lib.hid f) su nu pu nk pk (Lib.hid hu1) (Lib.hid hu2) (Lib.hid hk) (Lib.hid hz)
  · exact keySums_no A1 A2 V a b ps n c1 c2 d w z1 z2 (by omega) (by omega) (by omega) hA hB hV oka okb hn' x y (Lib.hid e) (Lib.hid f) su nu pu sk nk pk sz nz pz (Lib.hid hu1) (Lib.hid hu2) (Lib.hid hk) (Lib.hid hz) (beq_eq_false_iff_ne.2 h1) (beq_eq_false_iff_ne.2 h2) h1 h2
end Go.Proofs.Ythofccoefiogiaa
