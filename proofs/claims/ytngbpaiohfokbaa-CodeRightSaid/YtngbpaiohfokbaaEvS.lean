/- The examples of chapter 8, walked. No condition. -/
import Derived.Test.YtngbpaiohfokbaaEvD
namespace Go.Proofs.Ytngbpaiohfokbaa.EV
open Go Go.RowKit
set_option linter.unusedVariables false
set_option linter.unusedSimpArgs false
theorem infoTerm : (Try.prog.info? 71).map (fun i => (i.zero, i.size, i.bytes)) = some (some (.agg #[.int .u8 0, .int .i64 0, .int .i64 0]), 3, 24) := by kernel_rfl
theorem tcells_one (l : List TermD) : ∀ u ∈ tcells l, u.oneCell' = true := by
  intro u hu
  simp only [tcells, List.mem_flatMap] at hu
  obtain ⟨t, _, ht⟩ := hu
  simp at ht
  rcases ht with rfl | rfl | rfl <;> rfl
theorem tcells_append (l m : List TermD) : tcells (l ++ m) = tcells l ++ tcells m := by unfold tcells; rw [List.flatMap_append]
theorem eval_v (A V : Option Addr) (l : List TermD) (vars : List Int) (n m c d : Nat) (a : Int) (b : Bool) (w : World) (hn : n = l.length) (hm : m = vars.length) (hl : l.length ≤ 9000) (hv : vars.length ≤ 9000) (hA : Cells w A (tcells l)) (hV : Cells w V (ncells vars)) (hok : ∀ t ∈ l, t.ok) (hvk : ∀ n ∈ vars, -9223372036854775808 ≤ n ∧ n ≤ 9223372036854775807) (h : Hid (evalR vars l = (a, b))) :
    Calls Try.prog 29 #[.slice A n c, .slice V m d] w fun e w' => e = .returned (.tuple #[.int .i64 a, .bool b]) ∧ Ext w w' := by
  subst hn hm
  refine (eval_any A V l vars c d w hl hv hA hV hok hvk).mono fun e w' ⟨he, hx⟩ => ⟨?_, hx⟩
  rw [he, h.out]
theorem cells_new (w : World) (g : Nat) (t : TypeId) (cs : Array Value) (hg : g = w.heap.size) : Cells (w.alloc (.cells cs t)) (some ⟨g, 0, none⟩) cs.toList := by
  subst hg; exact Cells.new w t cs
theorem tok (k n v : Int) (h : 0 ≤ k ∧ k < 256) (hn : -9223372036854775808 ≤ n ∧ n ≤ 9223372036854775807) (hv : -9223372036854775808 ≤ v ∧ v ≤ 9223372036854775807) : TermD.ok (k, n, v) := ⟨h, hn, hv⟩
theorem all_ok {l : List TermD} (h : l.all (fun t => decide (0 ≤ t.1 ∧ t.1 < 256) && decide (-9223372036854775808 ≤ t.2.1 ∧ t.2.1 ≤ 9223372036854775807) && decide (-9223372036854775808 ≤ t.2.2 ∧ t.2.2 ≤ 9223372036854775807)) = true) : ∀ t ∈ l, t.ok := by
  intro t ht
  have := List.all_eq_true.1 h t ht
  simp only [Bool.and_eq_true, decide_eq_true_eq] at this
  exact ⟨this.1.1, this.1.2, this.2⟩
set_option maxHeartbeats 4000000 in
theorem works08 (w : World) : Calls Try.prog 16 #[] w fun e w' => e = .returned (.bool true) ∧ Ext w w' := by
  have hv56 : ∀ n ∈ [(5 : Int), 6], -9223372036854775808 ≤ n ∧ n ≤ 9223372036854775807 := by
    intro n hn; simp at hn; omega
  have HV56 := Lib.hid hv56
  clear hv56
  go_enter Try.func16, Try.ntmps16
  go_wp2_with fail
  have HV : Hid (Cells (w.alloc (.cells #[.int .i64 5, .int .i64 6] 2)) (some ⟨w.heap.size, 0, none⟩) (ncells [5, 6])) := cells_new w _ 2 #[.int .i64 5, .int .i64 6] rfl
  have HX0 : Hid (Ext w (w.alloc (.cells #[.int .i64 5, .int .i64 6] 2))) := Ext.alloc _ _
  rw [show w.heap.size + 1 = (w.alloc (.cells #[.int .i64 5, .int .i64 6] 2)).heap.size from by simp]
  generalize hVA : (some ⟨w.heap.size, 0, none⟩ : Option Addr) = V at *
  clear hVA
  generalize w.alloc (.cells #[.int .i64 5, .int .i64 6] 2) = w0 at *
  refine (eval_v _ _ [(2, 0, 0), (1, 2, 0), (5, 0, 0), (2, 0, 1), (4, 0, 0)] [5, 6] _ _ _ _ 4 true _ rfl rfl (by decide) (by decide) (cells_new w0 _ 71 _ rfl) (HV.out.ext (Ext.alloc _ _)) (all_ok (by decide)) HV56.out (Lib.hid (by decide +kernel))).mono ?_
  rintro e w1 ⟨rfl, hx1⟩
  have HX1 : Hid (Ext w0 w1) := Ext.trans (Ext.alloc _ _) hx1
  clear hx1
  go_wp2_with fail
  refine (eval_v _ _ [(1, 1, 0), (3, 0, 0)] [5, 6] _ _ _ _ 0 false _ rfl rfl (by decide) (by decide) (cells_new w1 _ 71 _ rfl) (HV.out.ext (Ext.trans HX1.out (Ext.alloc _ _))) (all_ok (by decide)) HV56.out (Lib.hid (by decide +kernel))).mono ?_
  rintro e w2 ⟨rfl, hx2⟩
  have HX2 : Hid (Ext w0 w2) := Ext.trans HX1.out (Ext.trans (Ext.alloc _ _) hx2)
  clear hx2
  go_wp2_with fail
  refine (eval_v _ _ [] [5, 6] _ _ _ _ 0 false _ rfl rfl (by decide) (by decide) (.inl rfl) (HV.out.ext HX2.out) (all_ok (by decide)) HV56.out (Lib.hid (by decide +kernel))).mono ?_
  rintro e w3 ⟨rfl, hx3⟩
  have HX3 : Hid (Ext w0 w3) := Ext.trans HX2.out hx3
  clear hx3
  go_wp2_with fail
  refine (eval_v _ _ [(2, 0, 2)] [5, 6] _ _ _ _ 0 false _ rfl rfl (by decide) (by decide) (cells_new w3 _ 71 _ rfl) (HV.out.ext (Ext.trans HX3.out (Ext.alloc _ _))) (all_ok (by decide)) HV56.out (Lib.hid (by decide +kernel))).mono ?_
  rintro e w4 ⟨rfl, hx4⟩
  have HX4 : Hid (Ext w0 w4) := Ext.trans HX3.out (Ext.trans (Ext.alloc _ _) hx4)
  clear hx4
  go_wp2_with fail
  refine (eval_v _ _ [(1, 1, 0), (6, 0, 0)] [5, 6] _ _ _ _ (-1) true _ rfl rfl (by decide) (by decide) (cells_new w4 _ 71 _ rfl) (HV.out.ext (Ext.trans HX4.out (Ext.alloc _ _))) (all_ok (by decide)) HV56.out (Lib.hid (by decide +kernel))).mono ?_
  rintro e w5 ⟨rfl, hx5⟩
  have HX5 : Hid (Ext w w5) := Ext.trans HX0.out (Ext.trans HX4.out (Ext.trans (Ext.alloc _ _) hx5))
  clear hx5
  go_wp2_with fail
  go_ret
  exact ⟨rfl, HX5.out⟩
end Go.Proofs.Ytngbpaiohfokbaa.EV
