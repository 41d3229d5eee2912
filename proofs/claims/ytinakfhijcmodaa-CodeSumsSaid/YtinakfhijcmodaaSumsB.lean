/- CodeSums, walked: the way on which both reckonings are right. -/
import Derived.Test.YtinakfhijcmodaaSums
namespace Go.Proofs.Ytinakfhijcmodaa
open Go Go.RowKit
set_option linter.unusedVariables false
set_option linter.unusedSimpArgs false
theorem Ext.grown {w0 w w' : World} {row : Option Nat} (h : Ext w0 w) (hg : w.grownBy w' row) (hr : ∀ k, row = some k → w0.heap.size ≤ k) : Ext w0 w' := Below.grown h hg h.size hr
theorem own_empty (w : World) (base : Nat) (h : base ≤ w.heap.size) : (w.alloc (.cells #[] 29)).ownsRow base 29 3 (.slice (some ⟨w.heap.size, 0, none⟩) 0 0) 0 [] := World.ownsRow_made w #[] 0 h (by simp) rfl
theorem cells345 (w : World) : ∀ m, m < 3 → (w.alloc (.cells #[.int .u8 3, .int .u8 4, .int .u8 5] 5)).cell? ⟨w.heap.size, m, none⟩ = some (.int .u8 (3 + m : Nat)) := by
  intro m hm
  rw [(Blk.new w 5 _).cell]
  match m, hm with
  | 0, _ => rfl
  | 1, _ => rfl
  | 2, _ => rfl
set_option maxHeartbeats 8000000 in
theorem sums_right (A1 A2 V : Option Addr) (a b : List TermD) (vars : List Int) (c1 c2 d : Nat) (w : World) (z1 : A1 = none → c1 = 0) (z2 : A2 = none → c2 = 0) (h1 : a.length ≤ 100) (h2 : b.length ≤ 100) (h3 : vars.length ≤ 100)
    (hA : Cells w A1 (tcells a)) (hB : Cells w A2 (tcells b)) (hV : Cells w V (ncells vars)) (oka : ∀ t ∈ a, t.ok) (okb : ∀ t ∈ b, t.ok) (hvk : ∀ n ∈ vars, -9223372036854775808 ≤ n ∧ n ≤ 9223372036854775807)
    (x y : Int) (hx : Hid (evalR vars a = (x, true))) (hy : Hid (evalR vars b = (y, true))) :
    Calls Try.prog 3 #[.slice A1 a.length c1, .slice A2 b.length c2, .slice V vars.length d] w fun e w' => e = .returned (.bool true) ∧ Ext w w' := by
  obtain ⟨i0, hi, hz0, hz1, hz2⟩ := info_parts infoTerm
  have e1 : decide ((100 : Int) < (a.length : Int)) = false := by simp; omega
  have e2 : decide ((100 : Int) < (b.length : Int)) = false := by simp; omega
  have e3 : decide ((100 : Int) < (vars.length : Int)) = false := by simp; omega
  have HA := Lib.hid hA
  have HB := Lib.hid hB
  have HV := Lib.hid hV
  have HOA := Lib.hid oka
  have HOB := Lib.hid okb
  have HVK := Lib.hid hvk
  have HZ1 := Lib.hid z1
  have HZ2 := Lib.hid z2
  clear hA hB hV oka okb hvk z1 z2
  go_enter Try.func3, Try.ntmps3
  go_wp2_with fail
  refine (eval_v _ _ a vars _ _ _ _ x _ _ rfl rfl (by omega) (by omega) HA.out HV.out HOA.out HVK.out hx).mono ?_
  rintro e w1 ⟨rfl, hx1⟩
  have HX1 := Lib.hid hx1
  clear hx1
  go_wp2_with fail
  refine (eval_v _ _ b vars _ _ _ _ y _ _ rfl rfl (by omega) (by omega) (HB.out.ext HX1.out) (HV.out.ext HX1.out) HOB.out HVK.out hy).mono ?_
  rintro e w2 ⟨rfl, hx2⟩
  have HX2 : Hid (Ext w w2) := Ext.trans HX1.out hx2
  clear hx2 HX1
  have hown := own_empty w2 w.heap.size HX2.out.size
  have HX3 : Hid (Ext w (w2.alloc (.cells #[] 29))) := Ext.trans HX2.out (Ext.alloc _ _)
  go_wp2_with (at_builtin; refine wpList_grow rfl _ _ 22 rfl w.heap.size 29 i0 _ 3 24 Try.underlying22 hi hz0 hz1 hz2 rfl (by decide) _ _ _ rfl hown _ a.length c1 (tcells a) rfl HZ1.out (tcells_len a) (HA.out.ext HX3.out) (tcells_one a) ?c3 ?c4 HX3.out.size ?_)
  case c3 => unfold maxLen; omega
  case c4 => omega
  intro A3 c3 w3 z3 hown3 hg3
  have HX4 : Hid (Ext w w3) := HX3.out.grown hg3 fun k hk => (hown.lt k hk).1
  clear hown hg3 z3
  go_wp2_with (at_builtin; refine wpList_grow rfl _ _ 22 rfl w.heap.size 29 i0 _ 3 24 Try.underlying22 hi hz0 hz1 hz2 rfl (by decide) _ _ _ rfl hown3 _ b.length c2 (tcells b) rfl HZ2.out (tcells_len b) (HB.out.ext HX4.out) (tcells_one b) ?c3 ?c4 HX4.out.size ?_)
  case c3 => unfold maxLen; omega
  case c4 => omega
  intro A4 c4 w4 z4 hown4 hg4
  have HX5 : Hid (Ext w w4) := HX4.out.grown hg4 fun k hk => (hown3.lt k hk).1
  obtain ⟨ab, HAB⟩ : ∃ ab, Hid (a ++ b = ab) := ⟨_, Lib.hid rfl⟩
  have hle : a.length + b.length = ab.length := by rw [← HAB.out, List.length_append]
  have HOWN : Hid (w4.ownsRow w.heap.size 29 3 (.slice A4 ab.length c4) ab.length (tcells ab)) := by
    rw [← hle, ← HAB.out, tcells_append]
    exact hown4
  rw [hle]
  have hlen : ab.length ≤ 200 := by omega
  have HLE := Lib.hid hle
  have HOAB : Hid (∀ t ∈ ab, t.ok) := by
    intro t ht
    rw [← HAB.out] at ht
    rcases List.mem_append.1 ht with h | h
    · exact HOA.out t h
    · exact HOB.out t h
  clear hle
  have HZ4 := Lib.hid z4
  clear hown3 hown4 hg4 z4 HX2 HX3 HX4
  go_wp2_with fail
  have HCS := Lib.hid (cells345 w4)
  have HX6 : Hid (Ext w4 (w4.alloc (.cells #[.int .u8 3, .int .u8 4, .int .u8 5] 5))) := Ext.alloc _ _
  have hgs : w4.heap.size < (w4.alloc (.cells #[.int .u8 3, .int .u8 4, .int .u8 5] 5)).heap.size := by simp
  generalize w4.alloc (.cells #[.int .u8 3, .int .u8 4, .int .u8 5] 5) = w5 at *
  generalize hq : w4.heap.size = q at *
  have HQ := Lib.hid hq
  clear hq
  go_loopw [61] (fun i wr => (∃ m : Nat, m ≤ 3 ∧ i = .int .i64 m) ∧ Hid (Ext w5 wr)) (fun i _ => 3 - (intOf i).toNat)
  case atStart => exact ⟨⟨0, by omega, rfl⟩, Ext.refl _⟩
  case round =>
    obtain ⟨⟨m, hm, rfl⟩, HW⟩ := hrel
    obtain ⟨wa, rfl⟩ : ∃ wa : World, wa = wr := ⟨_, rfl⟩
    by_cases hm3 : m < 3
    · have hcell : wa.cell? ⟨q, m, none⟩ = some (.int .u8 (3 + m : Nat)) := (HW.out.cell (p := ⟨q, m, none⟩) hgs).trans (HCS.out m hm3)
      have HXa : Hid (Ext w wa) := Ext.trans HX5.out (Ext.trans HX6.out HW.out)
      have hm' : m = 0 ∨ m = 1 ∨ m = 2 := by omega
      have HBC : Hid (Cells wa A4 (tcells ab)) := Cells.own (own_ext HOWN.out (Ext.trans HX6.out HW.out))
      have hown := own_empty wa wa.heap.size (Nat.le_refl _)
      have HXb : Hid (Ext wa (wa.alloc (.cells #[] 29))) := Ext.alloc _ _
      rcases hm' with rfl | rfl | rfl
      · have HEV : Hid (evalR vars (ab ++ [(3, 0, 0)]) = (wrap64 (x + y), true)) := by rw [← HAB.out]; exact both_mark hx.out hy.out 3 (by decide)
        go_wp2_with (at_builtin; refine wpList_grow rfl _ _ 22 rfl wa.heap.size 29 i0 _ 3 24 Try.underlying22 hi hz0 hz1 hz2 rfl (by decide) _ _ _ rfl hown _ ab.length c4 (tcells ab) rfl HZ4.out (tcells_len _) (HBC.out.ext (Ext.alloc _ _)) (tcells_one _) ?c3 ?c4 HXb.out.size ?_)
        case c3 => unfold maxLen; omega
        case c4 => omega
        intro A6 c6 w6 z6 hown6 hg6
        have HX6 : Hid (Ext wa w6) := HXb.out.grown hg6 fun k hk => (hown.lt k hk).1
        clear hown hg6
        go_wp2_with (at_builtin; refine wpList_grow rfl _ _ 22 rfl wa.heap.size 29 i0 _ 3 24 Try.underlying22 hi hz0 hz1 hz2 rfl (by decide) _ _ _ rfl (hown6.alloc _) _ 1 1 [.int .u8 3, .int .i64 0, .int .i64 0] rfl (by simp) rfl (Cells.new w6 29 #[.int .u8 3, .int .i64 0, .int .i64 0]) (by intro u hu; simp at hu; rcases hu with rfl | rfl <;> rfl) ?c3 ?c4 ?c5 ?_)
        case c3 => unfold maxLen; omega
        case c4 => omega
        case c5 => have := HX6.out.size; simp; omega
        intro A7 c7 w7 z7 hown7 hg7
        have HX7 : Hid (Ext wa w7) := (Ext.trans HX6.out (Ext.alloc _ _)).grown hg7 fun k hk => (hown6.lt k hk).1
        have HC7 : Hid (Cells w7 A7 (tcells (ab ++ [(3, 0, 0)]))) := by
          have := Cells.own hown7
          rw [tcells_append]
          exact this
        have HO7 : Hid (∀ t ∈ ab ++ [(3, 0, 0)], TermD.ok t) := by
          intro t ht
          rcases List.mem_append.1 ht with h | h
          · exact HOAB.out t h
          · have := List.mem_singleton.1 h
            subst this
            exact tok 3 0 0 (by omega) (by omega) (by omega)
        have hl7 : (ab ++ [((3, 0, 0) : TermD)]).length = ab.length + 1 := by simp
        have HL7 := Lib.hid hl7
        clear hown6 hown7 hg7 z6 z7 hl7
        go_wp2_with fail
        refine (eval_v _ _ (ab ++ [(3, 0, 0)]) vars _ _ _ _ _ _ _ HL7.out.symm rfl (by rw [HL7.out]; omega) (by omega) HC7.out (HV.out.ext (Ext.trans HXa.out HX7.out)) HO7.out HVK.out HEV).mono ?_
        rintro e w8 ⟨rfl, hx8⟩
        have HX8 := Lib.hid hx8
        clear hx8
        go_wp2_with fail
        go_roundw
        case rel => exact ⟨⟨0 + 1, by omega, by go_num⟩, Ext.trans HW.out (Ext.trans HX7.out HX8.out)⟩
        case measure => simp [intOf]
      · have HEV : Hid (evalR vars (ab ++ [(4, 0, 0)]) = (wrap64 (x - y), true)) := by rw [← HAB.out]; exact both_mark hx.out hy.out 4 (by decide)
        go_wp2_with (at_builtin; refine wpList_grow rfl _ _ 22 rfl wa.heap.size 29 i0 _ 3 24 Try.underlying22 hi hz0 hz1 hz2 rfl (by decide) _ _ _ rfl hown _ ab.length c4 (tcells ab) rfl HZ4.out (tcells_len _) (HBC.out.ext (Ext.alloc _ _)) (tcells_one _) ?c3 ?c4 HXb.out.size ?_)
        case c3 => unfold maxLen; omega
        case c4 => omega
        intro A6 c6 w6 z6 hown6 hg6
        have HX6 : Hid (Ext wa w6) := HXb.out.grown hg6 fun k hk => (hown.lt k hk).1
        clear hown hg6
        go_wp2_with (at_builtin; refine wpList_grow rfl _ _ 22 rfl wa.heap.size 29 i0 _ 3 24 Try.underlying22 hi hz0 hz1 hz2 rfl (by decide) _ _ _ rfl (hown6.alloc _) _ 1 1 [.int .u8 4, .int .i64 0, .int .i64 0] rfl (by simp) rfl (Cells.new w6 29 #[.int .u8 4, .int .i64 0, .int .i64 0]) (by intro u hu; simp at hu; rcases hu with rfl | rfl <;> rfl) ?c3 ?c4 ?c5 ?_)
        case c3 => unfold maxLen; omega
        case c4 => omega
        case c5 => have := HX6.out.size; simp; omega
        intro A7 c7 w7 z7 hown7 hg7
        have HX7 : Hid (Ext wa w7) := (Ext.trans HX6.out (Ext.alloc _ _)).grown hg7 fun k hk => (hown6.lt k hk).1
        have HC7 : Hid (Cells w7 A7 (tcells (ab ++ [(4, 0, 0)]))) := by
          have := Cells.own hown7
          rw [tcells_append]
          exact this
        have HO7 : Hid (∀ t ∈ ab ++ [(4, 0, 0)], TermD.ok t) := by
          intro t ht
          rcases List.mem_append.1 ht with h | h
          · exact HOAB.out t h
          · have := List.mem_singleton.1 h
            subst this
            exact tok 4 0 0 (by omega) (by omega) (by omega)
        have hl7 : (ab ++ [((4, 0, 0) : TermD)]).length = ab.length + 1 := by simp
        have HL7 := Lib.hid hl7
        clear hown6 hown7 hg7 z6 z7 hl7
        go_wp2_with fail
        refine (eval_v _ _ (ab ++ [(4, 0, 0)]) vars _ _ _ _ _ _ _ HL7.out.symm rfl (by rw [HL7.out]; omega) (by omega) HC7.out (HV.out.ext (Ext.trans HXa.out HX7.out)) HO7.out HVK.out HEV).mono ?_
        rintro e w8 ⟨rfl, hx8⟩
        have HX8 := Lib.hid hx8
        clear hx8
        go_wp2_with fail
        go_roundw
        case rel => exact ⟨⟨1 + 1, by omega, by go_num⟩, Ext.trans HW.out (Ext.trans HX7.out HX8.out)⟩
        case measure => simp [intOf]
      · have HEV : Hid (evalR vars (ab ++ [(5, 0, 0)]) = (wrap64 (x * y), true)) := by rw [← HAB.out]; exact both_mark hx.out hy.out 5 (by decide)
        go_wp2_with (at_builtin; refine wpList_grow rfl _ _ 22 rfl wa.heap.size 29 i0 _ 3 24 Try.underlying22 hi hz0 hz1 hz2 rfl (by decide) _ _ _ rfl hown _ ab.length c4 (tcells ab) rfl HZ4.out (tcells_len _) (HBC.out.ext (Ext.alloc _ _)) (tcells_one _) ?c3 ?c4 HXb.out.size ?_)
        case c3 => unfold maxLen; omega
        case c4 => omega
        intro A6 c6 w6 z6 hown6 hg6
        have HX6 : Hid (Ext wa w6) := HXb.out.grown hg6 fun k hk => (hown.lt k hk).1
        clear hown hg6
        go_wp2_with (at_builtin; refine wpList_grow rfl _ _ 22 rfl wa.heap.size 29 i0 _ 3 24 Try.underlying22 hi hz0 hz1 hz2 rfl (by decide) _ _ _ rfl (hown6.alloc _) _ 1 1 [.int .u8 5, .int .i64 0, .int .i64 0] rfl (by simp) rfl (Cells.new w6 29 #[.int .u8 5, .int .i64 0, .int .i64 0]) (by intro u hu; simp at hu; rcases hu with rfl | rfl <;> rfl) ?c3 ?c4 ?c5 ?_)
        case c3 => unfold maxLen; omega
        case c4 => omega
        case c5 => have := HX6.out.size; simp; omega
        intro A7 c7 w7 z7 hown7 hg7
        have HX7 : Hid (Ext wa w7) := (Ext.trans HX6.out (Ext.alloc _ _)).grown hg7 fun k hk => (hown6.lt k hk).1
        have HC7 : Hid (Cells w7 A7 (tcells (ab ++ [(5, 0, 0)]))) := by
          have := Cells.own hown7
          rw [tcells_append]
          exact this
        have HO7 : Hid (∀ t ∈ ab ++ [(5, 0, 0)], TermD.ok t) := by
          intro t ht
          rcases List.mem_append.1 ht with h | h
          · exact HOAB.out t h
          · have := List.mem_singleton.1 h
            subst this
            exact tok 5 0 0 (by omega) (by omega) (by omega)
        have hl7 : (ab ++ [((5, 0, 0) : TermD)]).length = ab.length + 1 := by simp
        have HL7 := Lib.hid hl7
        clear hown6 hown7 hg7 z6 z7 hl7
        go_wp2_with fail
        refine (eval_v _ _ (ab ++ [(5, 0, 0)]) vars _ _ _ _ _ _ _ HL7.out.symm rfl (by rw [HL7.out]; omega) (by omega) HC7.out (HV.out.ext (Ext.trans HXa.out HX7.out)) HO7.out HVK.out HEV).mono ?_
        rintro e w8 ⟨rfl, hx8⟩
        have HX8 := Lib.hid hx8
        clear hx8
        go_wp2_with fail
        go_roundw
        case rel => exact ⟨⟨2 + 1, by omega, by go_num⟩, Ext.trans HW.out (Ext.trans HX7.out HX8.out)⟩
        case measure => simp [intOf]
    · have HXa : Hid (Ext w wa) := Ext.trans HX5.out (Ext.trans HX6.out HW.out)
      have HBC : Hid (Cells wa A4 (tcells ab)) := Cells.own (own_ext HOWN.out (Ext.trans HX6.out HW.out))
      have hown := own_empty wa wa.heap.size (Nat.le_refl _)
      have HXb : Hid (Ext wa (wa.alloc (.cells #[] 29))) := Ext.alloc _ _
      have HEV : Hid (evalR vars (a ++ [(6, 0, 0)]) = (wrap64 (-x), true)) := neg_mark hx.out
      have HTW : Hid (evalR vars ab = (0, false)) := by rw [← HAB.out]; exact both_no hx.out hy.out
      go_wp2_with (at_builtin; refine wpList_grow rfl _ _ 22 rfl wa.heap.size 29 i0 _ 3 24 Try.underlying22 hi hz0 hz1 hz2 rfl (by decide) _ _ _ rfl hown _ a.length c1 (tcells a) rfl HZ1.out (tcells_len _) (HA.out.ext (Ext.trans HXa.out (Ext.alloc _ _))) (tcells_one _) ?c3 ?c4 HXb.out.size ?_)
      case c3 => unfold maxLen; omega
      case c4 => omega
      intro A6 c6 w6 z6 hown6 hg6
      have HX6 : Hid (Ext wa w6) := HXb.out.grown hg6 fun k hk => (hown.lt k hk).1
      clear hown hg6
      go_wp2_with (at_builtin; refine wpList_grow rfl _ _ 22 rfl wa.heap.size 29 i0 _ 3 24 Try.underlying22 hi hz0 hz1 hz2 rfl (by decide) _ _ _ rfl (hown6.alloc _) _ 1 1 [.int .u8 6, .int .i64 0, .int .i64 0] rfl (by simp) rfl (Cells.new w6 29 #[.int .u8 6, .int .i64 0, .int .i64 0]) (by intro u hu; simp at hu; rcases hu with rfl | rfl <;> rfl) ?c3 ?c4 ?c5 ?_)
      case c3 => unfold maxLen; omega
      case c4 => omega
      case c5 => have := HX6.out.size; simp; omega
      intro A7 c7 w7 z7 hown7 hg7
      have HX7 : Hid (Ext wa w7) := (Ext.trans HX6.out (Ext.alloc _ _)).grown hg7 fun k hk => (hown6.lt k hk).1
      have HC7 : Hid (Cells w7 A7 (tcells (a ++ [(6, 0, 0)]))) := by
        have := Cells.own hown7
        rw [tcells_append]
        exact this
      have HO7 : Hid (∀ t ∈ a ++ [(6, 0, 0)], TermD.ok t) := by
        intro t ht
        rcases List.mem_append.1 ht with h | h
        · exact HOA.out t h
        · have := List.mem_singleton.1 h
          subst this
          exact tok 6 0 0 (by omega) (by omega) (by omega)
      have HL7 : Hid ((a ++ [((6, 0, 0) : TermD)]).length = a.length + 1) := Lib.hid (by simp)
      clear hown6 hown7 hg7 z6 z7
      go_wp2_with fail
      refine (eval_v _ _ (a ++ [(6, 0, 0)]) vars _ _ _ _ _ _ _ HL7.out.symm rfl (by rw [HL7.out]; omega) (by omega) HC7.out (HV.out.ext (Ext.trans HXa.out HX7.out)) HO7.out HVK.out HEV).mono ?_
      rintro e w8 ⟨rfl, hx8⟩
      have HX8 : Hid (Ext wa w8) := Ext.trans HX7.out hx8
      clear hx8
      go_wp2_with fail
      refine (eval_v _ _ ab vars _ _ _ _ _ _ _ rfl rfl (by omega) (by omega) (HBC.out.ext HX8.out) (HV.out.ext (Ext.trans HXa.out HX8.out)) HOAB.out HVK.out HTW).mono ?_
      rintro e w9 ⟨rfl, hx9⟩
      have HX9 : Hid (Ext wa w9) := Ext.trans HX8.out hx9
      clear hx9
      go_wp2_with fail
      refine (works08 _).mono ?_
      rintro e w10 ⟨rfl, hx10⟩
      have HX10 := Lib.hid hx10
      clear hx10
      go_wp2_with fail
      go_ret
      exact ⟨rfl, Ext.trans HXa.out (Ext.trans HX9.out HX10.out)⟩
theorem sums_any (A1 A2 V : Option Addr) (a b : List TermD) (vars : List Int) (c1 c2 d : Nat) (w : World) (z1 : A1 = none → c1 = 0) (z2 : A2 = none → c2 = 0)
    (hA : Cells w A1 (tcells a)) (hB : Cells w A2 (tcells b)) (hV : Cells w V (ncells vars)) (oka : ∀ t ∈ a, t.ok) (okb : ∀ t ∈ b, t.ok) (hvk : ∀ n ∈ vars, (Lit.int .i64 n).wf = true) :
    Calls Try.prog 3 #[.slice A1 a.length c1, .slice A2 b.length c2, .slice V vars.length d] w fun e w' => e = .returned (.bool true) ∧ Ext w w' := by
  by_cases hl : 100 < a.length ∨ 100 < b.length ∨ 100 < vars.length
  · exact sums_long A1 A2 V _ _ _ c1 c2 d w hl
  have hvk' : ∀ n ∈ vars, -9223372036854775808 ≤ n ∧ n ≤ 9223372036854775807 := fun n hn => bounds_i64 (hvk n hn)
  obtain ⟨x, e⟩ : ∃ r, evalR vars a = r := ⟨_, rfl⟩
  obtain ⟨y, f⟩ : ∃ r, evalR vars b = r := ⟨_, rfl⟩
  obtain ⟨x, eb⟩ := x
  obtain ⟨y, fb⟩ := y
  by_cases h : eb = false ∨ fb = false
  · exact sums_wrong A1 A2 V a b vars c1 c2 d w (by omega) (by omega) (by omega) hA hB hV oka okb hvk' x y eb fb e f h
  · obtain rfl : eb = true := by cases eb <;> simp at h ⊢
    obtain rfl : fb = true := by cases fb <;> simp at h ⊢
    exact sums_right A1 A2 V a b vars c1 c2 d w z1 z2 (by omega) (by omega) (by omega) hA hB hV oka okb hvk' x y e f
end Go.Proofs.Ytinakfhijcmodaa
