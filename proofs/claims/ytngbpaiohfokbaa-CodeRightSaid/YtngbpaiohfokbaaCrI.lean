/- code.keyed, values, one$1, walked. Condition: an instruction's kind is one of sixteen. -/
import Derived.Test.YtngbpaiohfokbaaCrD
namespace Go.Proofs.Ytngbpaiohfokbaa
open Go Go.RowKit
set_option linter.unusedVariables false
set_option linter.unusedSimpArgs false
def keyedP (op : Int) (row : Bool) : Bool := (decide (3 ≤ op) && decide (op ≤ 6)) || ((op == 1 || op == 2) && row)
def valuesP (op : Int) (tables : List Int) (table : Int) : Int := if op = 4 ∨ op = 8 ∨ op = 9 then 1 else if op = 11 then 2 else if op = 5 then tabAt tables table else 0
def inP (i n : Int) : Bool := decide (0 ≤ i) && decide (i < n)
set_option maxRecDepth 100000 in
set_option maxHeartbeats 4000000 in
theorem oneC_any (i n : Int) (w : World) : Calls Try.prog 49 #[.int .i64 i, .int .i64 n] w fun e w' => e = .returned (.bool (inP i n)) ∧ w = w' := by
  go_enter Try.func49, Try.ntmps49
  by_cases h0 : 0 ≤ i
  · have d0 : decide (i ≥ 0) = true := decide_eq_true h0
    have d0' : decide (0 ≤ i) = true := d0
    obtain ⟨t, ht⟩ : ∃ t, decide (i < n) = t := ⟨_, rfl⟩
    have HR : Hid (inP i n = t) := Lib.hid (by unfold inP; rw [d0', ht]; rfl)
    rw [HR.out]
    clear h0
    cases t <;> (go_wp2_with fail; go_ret; exact ⟨rfl, rfl⟩)
  · have d0 : decide (i ≥ 0) = false := decide_eq_false h0
    have d0' : decide (0 ≤ i) = false := d0
    have HR : Hid (inP i n = false) := Lib.hid (by unfold inP; rw [d0']; rfl)
    rw [HR.out]
    clear h0
    go_wp2_with fail
    go_ret
    exact ⟨rfl, rfl⟩
theorem ops16 {op : Int} (h0 : 1 ≤ op) (h1 : op ≤ 16) : op = 1 ∨ op = 2 ∨ op = 3 ∨ op = 4 ∨ op = 5 ∨ op = 6 ∨ op = 7 ∨ op = 8 ∨ op = 9 ∨ op = 10 ∨ op = 11 ∨ op = 12 ∨ op = 13 ∨ op = 14 ∨ op = 15 ∨ op = 16 := by omega
set_option maxRecDepth 100000 in
set_option maxHeartbeats 16000000 in
theorem keyed_any (x : InstrD) (h0 : 1 ≤ x.op) (h1 : x.op ≤ 16) (w : World) : Calls Try.prog 51 #[aggI x] w fun e w' => e = .returned (.bool (keyedP x.op x.row)) ∧ Ext w w' := by
  obtain ⟨op, node, mode, table, row, col, var, goes, eq, frm, upto, ⟨ka, kl, kc⟩, ⟨va, vl, vc⟩⟩ := x
  simp only at h0 h1
  have hc := ops16 h0 h1
  clear h0 h1
  have HX1 : Hid (Ext w (w.alloc (.cells #[.int .u8 op, .int .i64 node, .int .u8 mode, .int .i64 table, .bool row, .int .i64 col, .int .i64 var, .int .i64 goes, .bool eq, .int .i64 frm, .int .i64 upto, .slice ka kl kc, .slice va vl vc] 49))) := Lib.hid (Ext.alloc _ _)
  have HB1 : Hid (Blk (w.alloc (.cells #[.int .u8 op, .int .i64 node, .int .u8 mode, .int .i64 table, .bool row, .int .i64 col, .int .i64 var, .int .i64 goes, .bool eq, .int .i64 frm, .int .i64 upto, .slice ka kl kc, .slice va vl vc] 49)) w.heap.size 49 #[.int .u8 op, .int .i64 node, .int .u8 mode, .int .i64 table, .bool row, .int .i64 col, .int .i64 var, .int .i64 goes, .bool eq, .int .i64 frm, .int .i64 upto, .slice ka kl kc, .slice va vl vc]) := Lib.hid (Blk.new _ _ _)
  unfold aggI
  go_enter Try.func51, Try.ntmps51
  go_upto_region 1 with fail
  generalize w.heap.size = g at *
  generalize w.alloc (.cells #[.int .u8 op, .int .i64 node, .int .u8 mode, .int .i64 table, .bool row, .int .i64 col, .int .i64 var, .int .i64 goes, .bool eq, .int .i64 frm, .int .i64 upto, .slice ka kl kc, .slice va vl vc] 49) = w1 at *
  have y0 : w1.cell? ⟨g, 0, none⟩ = some (.int .u8 op) := HB1.out.cell 0
  have y4 : w1.cell? ⟨g, 4, none⟩ = some (.bool row) := HB1.out.cell 4
  clear HB1
  cases row <;> rcases hc with rfl | rfl | rfl | rfl | rfl | rfl | rfl | rfl | rfl | rfl | rfl | rfl | rfl | rfl | rfl | rfl <;> (go_wp2_with fail; go_ret; exact ⟨rfl, HX1.out⟩)
set_option maxRecDepth 100000 in
set_option maxHeartbeats 16000000 in
theorem values_any (x : InstrD) (tA : Option Addr) (tables : List Int) (tn tc : Nat) (h0 : 1 ≤ x.op) (h1 : x.op ≤ 16) (w : World) (htn : tn = tables.length) (htl : tables.length ≤ 1000) (hin : x.op = 5 → 0 ≤ x.table ∧ x.table < (tables.length : Int)) (hT : Cells w tA (ncells tables)) : Calls Try.prog 53 #[aggI x, .slice tA tn tc] w fun e w' => e = .returned (.int .i64 (valuesP x.op tables x.table)) ∧ Ext w w' := by
  subst htn
  obtain ⟨op, node, mode, table, row, col, var, goes, eq, frm, upto, ⟨ka, kl, kc⟩, ⟨va, vl, vc⟩⟩ := x
  simp only at h0 h1 hin
  have hc := ops16 h0 h1
  clear h0 h1
  have HT := Lib.hid hT
  clear hT
  have HX1 : Hid (Ext w (w.alloc (.cells #[.int .u8 op, .int .i64 node, .int .u8 mode, .int .i64 table, .bool row, .int .i64 col, .int .i64 var, .int .i64 goes, .bool eq, .int .i64 frm, .int .i64 upto, .slice ka kl kc, .slice va vl vc] 49))) := Lib.hid (Ext.alloc _ _)
  have HB1 : Hid (Blk (w.alloc (.cells #[.int .u8 op, .int .i64 node, .int .u8 mode, .int .i64 table, .bool row, .int .i64 col, .int .i64 var, .int .i64 goes, .bool eq, .int .i64 frm, .int .i64 upto, .slice ka kl kc, .slice va vl vc] 49)) w.heap.size 49 #[.int .u8 op, .int .i64 node, .int .u8 mode, .int .i64 table, .bool row, .int .i64 col, .int .i64 var, .int .i64 goes, .bool eq, .int .i64 frm, .int .i64 upto, .slice ka kl kc, .slice va vl vc]) := Lib.hid (Blk.new _ _ _)
  unfold aggI
  go_enter Try.func53, Try.ntmps53
  go_upto_region 1 with fail
  generalize w.heap.size = g at *
  generalize w.alloc (.cells #[.int .u8 op, .int .i64 node, .int .u8 mode, .int .i64 table, .bool row, .int .i64 col, .int .i64 var, .int .i64 goes, .bool eq, .int .i64 frm, .int .i64 upto, .slice ka kl kc, .slice va vl vc] 49) = w1 at *
  have y0 : w1.cell? ⟨g, 0, none⟩ = some (.int .u8 op) := HB1.out.cell 0
  have y3 : w1.cell? ⟨g, 3, none⟩ = some (.int .i64 table) := HB1.out.cell 3
  clear HB1
  by_cases h5 : op = 5
  · subst h5
    obtain ⟨ha, hb⟩ := hin rfl
    obtain ⟨tk, rfl⟩ : ∃ tk : Nat, table = (tk : Int) := ⟨table.toNat, by omega⟩
    have htl2 : tk < tables.length := by omega
    obtain ⟨tb, tof, rfl, htb, hcc⟩ := (HT.out.ext HX1.out).at_ (by simp [ncells]; omega)
    have z0 : w1.cell? ⟨tb, tof + tk, none⟩ = some (.int .i64 tables[tk]) := by rw [hcc tk (by simp [ncells]; exact htl2)]; simp [ncells, htl2]
    have HV : Hid (valuesP 5 tables (tk : Int) = tables[tk]) := Lib.hid (by
      unfold valuesP tabAt
      rw [if_neg (by omega), if_neg (by omega), if_pos rfl, Int.toNat_natCast, List.getD_eq_getElem?_getD, List.getElem?_eq_getElem htl2]
      rfl)
    clear hcc hc hin ha
    generalize tables[tk] = tv at *
    go_wp2_with fail
    go_ret
    rw [HV.out]
    exact ⟨rfl, HX1.out⟩
  · clear hin y3
    rcases hc with rfl | rfl | rfl | rfl | rfl | rfl | rfl | rfl | rfl | rfl | rfl | rfl | rfl | rfl | rfl | rfl <;> first | (exact absurd rfl h5) | (clear h5; go_wp2_with fail; go_ret; exact ⟨rfl, HX1.out⟩)
end Go.Proofs.Ytngbpaiohfokbaa
