/- CodeSums, walked: two right reckonings, one behind the other, and a mark. -/
import Derived.Test.YtinakfhijcmodaaEvalB
namespace Go.Proofs.Ytinakfhijcmodaa
open Go Go.RowKit
set_option linter.unusedVariables false
set_option linter.unusedSimpArgs false
theorem infoTerm : (Try.prog.info? 29).map (fun i => (i.zero, i.size, i.bytes)) = some (some (.agg #[.int .u8 0, .int .i64 0, .int .i64 0]), 3, 24) := by kernel_rfl
theorem tcells_one (l : List TermD) : ∀ u ∈ tcells l, u.oneCell' = true := by
  intro u hu
  simp only [tcells, List.mem_flatMap] at hu
  obtain ⟨t, _, ht⟩ := hu
  simp at ht
  rcases ht with rfl | rfl | rfl <;> rfl
theorem tcells_append (l m : List TermD) : tcells (l ++ m) = tcells l ++ tcells m := by unfold tcells; rw [List.flatMap_append]
theorem eval_v (A V : Option Addr) (l : List TermD) (vars : List Int) (n m c d : Nat) (a : Int) (b : Bool) (w : World) (hn : n = l.length) (hm : m = vars.length) (hl : l.length ≤ 900) (hv : vars.length ≤ 900) (hA : Cells w A (tcells l)) (hV : Cells w V (ncells vars)) (hok : ∀ t ∈ l, t.ok) (hvk : ∀ n ∈ vars, -9223372036854775808 ≤ n ∧ n ≤ 9223372036854775807) (h : Hid (evalR vars l = (a, b))) :
    Calls Try.prog 11 #[.slice A n c, .slice V m d] w fun e w' => e = .returned (.tuple #[.int .i64 a, .bool b]) ∧ Ext w w' := by
  subst hn hm
  refine (eval_any A V l vars c d w hl hv hA hV hok hvk).mono fun e w' ⟨he, hx⟩ => ⟨?_, hx⟩
  rw [he, h.out]
theorem cells_new (w : World) (g : Nat) (t : TypeId) (cs : Array Value) (hg : g = w.heap.size) : Cells (w.alloc (.cells cs t)) (some ⟨g, 0, none⟩) cs.toList := by
  subst hg; exact Cells.new w t cs
theorem tok (k n v : Int) (h : 0 ≤ k ∧ k < 256) (hn : -9223372036854775808 ≤ n ∧ n ≤ 9223372036854775807) (hv : -9223372036854775808 ≤ v ∧ v ≤ 9223372036854775807) : TermD.ok (k, n, v) := ⟨h, hn, hv⟩
theorem all_ok {l : List TermD} (h : l.all (fun t => decide (0 ≤ t.1 ∧ t.1 < 256) && decide (-9223372036854775808 ≤ t.2.1 ∧ t.2.1 ≤ 9223372036854775807) && decide (-9223372036854775808 ≤ t.2.2 ∧ t.2.2 ≤ 9223372036854775807)) = true) : ∀ t ∈ l, t.ok := by
  intro t ht
  have := List.all_eq_true.1 h t ht
  simp only [Bool.and_eq_true, decide_eq_true_eq] at this
  exact ⟨this.1.1, this.1.2, this.2⟩
set_option maxHeartbeats 4000000 in
theorem works08 (w : World) : Calls Try.prog 10 #[] w fun e w' => e = .returned (.bool true) ∧ Ext w w' := by
  have hv56 : ∀ n ∈ [(5 : Int), 6], -9223372036854775808 ≤ n ∧ n ≤ 9223372036854775807 := by
    intro n hn; simp at hn; omega
  have HV56 := Lib.hid hv56
  clear hv56
  go_enter Try.func10, Try.ntmps10
  go_wp2_with fail
  have HV : Hid (Cells (w.alloc (.cells #[.int .i64 5, .int .i64 6] 2)) (some ⟨w.heap.size, 0, none⟩) (ncells [5, 6])) := cells_new w _ 2 #[.int .i64 5, .int .i64 6] rfl
  have HX0 : Hid (Ext w (w.alloc (.cells #[.int .i64 5, .int .i64 6] 2))) := Ext.alloc _ _
  rw [show w.heap.size + 1 = (w.alloc (.cells #[.int .i64 5, .int .i64 6] 2)).heap.size from by simp]
  generalize hVA : (some ⟨w.heap.size, 0, none⟩ : Option Addr) = V at *
  clear hVA
  generalize w.alloc (.cells #[.int .i64 5, .int .i64 6] 2) = w0 at *
  refine (eval_v _ _ [(2, 0, 0), (1, 2, 0), (5, 0, 0), (2, 0, 1), (4, 0, 0)] [5, 6] _ _ _ _ 4 true _ rfl rfl (by decide) (by decide) (cells_new w0 _ 29 _ rfl) (HV.out.ext (Ext.alloc _ _)) (all_ok (by decide)) HV56.out (Lib.hid (by decide +kernel))).mono ?_
  rintro e w1 ⟨rfl, hx1⟩
  have HX1 : Hid (Ext w0 w1) := Ext.trans (Ext.alloc _ _) hx1
  clear hx1
  go_wp2_with fail
  refine (eval_v _ _ [(1, 1, 0), (3, 0, 0)] [5, 6] _ _ _ _ 0 false _ rfl rfl (by decide) (by decide) (cells_new w1 _ 29 _ rfl) (HV.out.ext (Ext.trans HX1.out (Ext.alloc _ _))) (all_ok (by decide)) HV56.out (Lib.hid (by decide +kernel))).mono ?_
  rintro e w2 ⟨rfl, hx2⟩
  have HX2 : Hid (Ext w0 w2) := Ext.trans HX1.out (Ext.trans (Ext.alloc _ _) hx2)
  clear hx2
  go_wp2_with fail
  refine (eval_v _ _ [] [5, 6] _ _ _ _ 0 false _ rfl rfl (by decide) (by decide) (.inl rfl) (HV.out.ext HX2.out) (all_ok (by decide)) HV56.out (Lib.hid (by decide +kernel))).mono ?_
  rintro e w3 ⟨rfl, hx3⟩
  have HX3 : Hid (Ext w0 w3) := Ext.trans HX2.out hx3
  clear hx3
  go_wp2_with fail
  refine (eval_v _ _ [(2, 0, 2)] [5, 6] _ _ _ _ 0 false _ rfl rfl (by decide) (by decide) (cells_new w3 _ 29 _ rfl) (HV.out.ext (Ext.trans HX3.out (Ext.alloc _ _))) (all_ok (by decide)) HV56.out (Lib.hid (by decide +kernel))).mono ?_
  rintro e w4 ⟨rfl, hx4⟩
  have HX4 : Hid (Ext w0 w4) := Ext.trans HX3.out (Ext.trans (Ext.alloc _ _) hx4)
  clear hx4
  go_wp2_with fail
  refine (eval_v _ _ [(1, 1, 0), (6, 0, 0)] [5, 6] _ _ _ _ (-1) true _ rfl rfl (by decide) (by decide) (cells_new w4 _ 29 _ rfl) (HV.out.ext (Ext.trans HX4.out (Ext.alloc _ _))) (all_ok (by decide)) HV56.out (Lib.hid (by decide +kernel))).mono ?_
  rintro e w5 ⟨rfl, hx5⟩
  have HX5 : Hid (Ext w w5) := Ext.trans HX0.out (Ext.trans HX4.out (Ext.trans (Ext.alloc _ _) hx5))
  clear hx5
  go_wp2_with fail
  go_ret
  exact ⟨rfl, HX5.out⟩
/- the plain law -/
theorem stepN_on (vars : List Int) (t : TermD) (s s' r : List Int) (h : stepN vars t s = some s') : stepN vars t (s ++ r) = some (s' ++ r) := by
  unfold stepN at *
  split at h
  · rename_i h1; rw [if_pos h1]; cases h; rfl
  rename_i h1; rw [if_neg h1]
  split at h
  · rename_i h2; rw [if_pos h2]
    split at h
    · rename_i h3; rw [if_pos h3]; cases h; rfl
    · cases h
  rename_i h2; rw [if_neg h2]
  split at h
  · rename_i h3; rw [if_pos h3]
    match s, h with
    | y :: x :: q, h => cases h; rfl
  rename_i h3; rw [if_neg h3]
  split at h
  · rename_i h4; rw [if_pos h4]
    match s, h with
    | y :: x :: q, h => cases h; rfl
  rename_i h4; rw [if_neg h4]
  split at h
  · rename_i h5; rw [if_pos h5]
    match s, h with
    | y :: x :: q, h => cases h; rfl
  rename_i h5; rw [if_neg h5]
  split at h
  · rename_i h6; rw [if_pos h6]
    match s, h with
    | y :: q, h => cases h; rfl
  · cases h
theorem evalN_on (vars : List Int) (l : List TermD) (r : List Int) : ∀ s s', evalN vars l s = some s' → evalN vars l (s ++ r) = some (s' ++ r) := by
  induction l with
  | nil => intro s s' h; cases h; rfl
  | cons t l ih =>
    intro s s' h
    simp only [evalN] at h ⊢
    cases hs : stepN vars t s with
    | none => rw [hs] at h; cases h
    | some s1 =>
      rw [hs] at h
      rw [stepN_on vars t s s1 r hs]
      exact ih s1 s' h
theorem evalR_true {vars : List Int} {l : List TermD} {x : Int} (h : evalR vars l = (x, true)) : evalN vars l [] = some [x] := by
  unfold evalR at h
  split at h
  · rename_i y e; simp at h; rw [e, h]
  · simp at h
theorem evalR_of {vars : List Int} {l : List TermD} {x : Int} (h : evalN vars l [] = some [x]) : evalR vars l = (x, true) := by unfold evalR; rw [h]
theorem both_stack {vars : List Int} {a b : List TermD} {x y : Int} (ha : evalR vars a = (x, true)) (hb : evalR vars b = (y, true)) : evalN vars (a ++ b) [] = some [y, x] := by
  rw [evalN_append, evalR_true ha, Option.bind_some]
  exact evalN_on vars b [x] [] [y] (evalR_true hb)
theorem both_no {vars : List Int} {a b : List TermD} {x y : Int} (ha : evalR vars a = (x, true)) (hb : evalR vars b = (y, true)) : evalR vars (a ++ b) = (0, false) := by
  unfold evalR; rw [both_stack ha hb]
def wantN (k x y : Int) : Int := if k = 5 then wrap64 (x * y) else if k = 4 then wrap64 (x - y) else wrap64 (x + y)
theorem both_mark {vars : List Int} {a b : List TermD} {x y : Int} (ha : evalR vars a = (x, true)) (hb : evalR vars b = (y, true)) (k : Int) (hk : k = 3 ∨ k = 4 ∨ k = 5) : evalR vars (a ++ b ++ [(k, 0, 0)]) = (wantN k x y, true) := by
  apply evalR_of
  rw [evalN_append, both_stack ha hb]
  rcases hk with rfl | rfl | rfl <;> rfl
theorem neg_mark {vars : List Int} {a : List TermD} {x : Int} (ha : evalR vars a = (x, true)) : evalR vars (a ++ [(6, 0, 0)]) = (wrap64 (-x), true) := by
  apply evalR_of
  rw [evalN_append, evalR_true ha]
  rfl
theorem sums_long (A1 A2 V : Option Addr) (n1 n2 m c1 c2 d : Nat) (w : World) (h : 100 < n1 ∨ 100 < n2 ∨ 100 < m) :
    Calls Try.prog 3 #[.slice A1 n1 c1, .slice A2 n2 c2, .slice V m d] w fun e w' => e = .returned (.bool true) ∧ Ext w w' := by
  by_cases h1 : 100 < n1
  · have e1 : decide ((100 : Int) < (n1 : Int)) = true := by simp; omega
    go_enter Try.func3, Try.ntmps3
    go_wp2_with fail
    refine (works08 _).mono ?_
    rintro e w1 ⟨rfl, hx1⟩
    have HX1 := Lib.hid hx1
    clear hx1
    go_wp2_with fail
    go_ret
    exact ⟨rfl, HX1.out⟩
  have e1 : decide ((100 : Int) < (n1 : Int)) = false := by simp; omega
  by_cases h2 : 100 < n2
  · have e2 : decide ((100 : Int) < (n2 : Int)) = true := by simp; omega
    go_enter Try.func3, Try.ntmps3
    go_wp2_with fail
    refine (works08 _).mono ?_
    rintro e w1 ⟨rfl, hx1⟩
    have HX1 := Lib.hid hx1
    clear hx1
    go_wp2_with fail
    go_ret
    exact ⟨rfl, HX1.out⟩
  have e2 : decide ((100 : Int) < (n2 : Int)) = false := by simp; omega
  have e3 : decide ((100 : Int) < (m : Int)) = true := by simp; omega
  go_enter Try.func3, Try.ntmps3
  go_wp2_with fail
  refine (works08 _).mono ?_
  rintro e w1 ⟨rfl, hx1⟩
  have HX1 := Lib.hid hx1
  clear hx1
  go_wp2_with fail
  go_ret
  exact ⟨rfl, HX1.out⟩
set_option maxHeartbeats 1000000 in
theorem sums_wrong (A1 A2 V : Option Addr) (a b : List TermD) (vars : List Int) (c1 c2 d : Nat) (w : World) (h1 : a.length ≤ 100) (h2 : b.length ≤ 100) (h3 : vars.length ≤ 100)
    (hA : Cells w A1 (tcells a)) (hB : Cells w A2 (tcells b)) (hV : Cells w V (ncells vars)) (oka : ∀ t ∈ a, t.ok) (okb : ∀ t ∈ b, t.ok) (hvk : ∀ n ∈ vars, -9223372036854775808 ≤ n ∧ n ≤ 9223372036854775807)
    (x y : Int) (e f : Bool) (hx : Hid (evalR vars a = (x, e))) (hy : Hid (evalR vars b = (y, f))) (hno : e = false ∨ f = false) :
    Calls Try.prog 3 #[.slice A1 a.length c1, .slice A2 b.length c2, .slice V vars.length d] w fun e w' => e = .returned (.bool true) ∧ Ext w w' := by
  have e1 : decide ((100 : Int) < (a.length : Int)) = false := by simp; omega
  have e2 : decide ((100 : Int) < (b.length : Int)) = false := by simp; omega
  have e3 : decide ((100 : Int) < (vars.length : Int)) = false := by simp; omega
  have HA := Lib.hid hA
  have HB := Lib.hid hB
  have HV := Lib.hid hV
  have HOA := Lib.hid oka
  have HOB := Lib.hid okb
  have HVK := Lib.hid hvk
  clear hA hB hV oka okb hvk
  have hcase : e = false ∨ (e = true ∧ f = false) := by cases e <;> simp at hno ⊢; exact hno
  clear hno
  rcases hcase with rfl | ⟨rfl, rfl⟩
  all_goals
    go_enter Try.func3, Try.ntmps3
    go_wp2_with fail
    refine (eval_v _ _ a vars _ _ _ _ x _ _ rfl rfl (by omega) (by omega) HA.out HV.out HOA.out HVK.out hx).mono ?_
    rintro e w1 ⟨rfl, hx1⟩
    have HX1 := Lib.hid hx1
    clear hx1
    go_wp2_with fail
    refine (eval_v _ _ b vars _ _ _ _ y _ _ rfl rfl (by omega) (by omega) (HB.out.ext HX1.out) (HV.out.ext HX1.out) HOB.out HVK.out hy).mono ?_
    rintro e w2 ⟨rfl, hx2⟩
    have HX2 := Lib.hid hx2
    clear hx2
    go_wp2_with fail
    refine (works08 _).mono ?_
    rintro e w3 ⟨rfl, hx3⟩
    have HX3 := Lib.hid hx3
    clear hx3
    go_wp2_with fail
    go_ret
    exact ⟨rfl, Ext.trans HX1.out (Ext.trans HX2.out HX3.out)⟩
end Go.Proofs.Ytinakfhijcmodaa
