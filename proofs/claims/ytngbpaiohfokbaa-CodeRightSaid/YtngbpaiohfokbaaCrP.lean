/- code.Right$1, IndexFunc and ContainsFunc of instructions, walked. -/
import Derived.Test.YtngbpaiohfokbaaCrN
namespace Go.Proofs.Ytngbpaiohfokbaa
open Go Go.RowKit
set_option linter.unusedVariables false
set_option linter.unusedSimpArgs false
set_option maxRecDepth 100000 in
set_option maxHeartbeats 4000000 in
theorem rightC_any (x : InstrD) (w : World) (b : Bool) (hb : Hid ((x.op == 15) = b)) : Calls Try.prog 32 #[.agg #[.int .u8 x.op, .int .i64 x.node, .int .u8 x.mode, .int .i64 x.table, .bool x.row, .int .i64 x.col, .int .i64 x.var, .int .i64 x.goes, .bool x.eq, .int .i64 x.frm, .int .i64 x.upto, .slice x.key.1 x.key.2.1 x.key.2.2, .slice x.vals.1 x.vals.2.1 x.vals.2.2]] w fun e w' => e = .returned (.bool b) ∧ Ext w w' := by
  have HX : Hid (Ext w (w.alloc (.cells #[.int .u8 x.op, .int .i64 x.node, .int .u8 x.mode, .int .i64 x.table, .bool x.row, .int .i64 x.col, .int .i64 x.var, .int .i64 x.goes, .bool x.eq, .int .i64 x.frm, .int .i64 x.upto, .slice x.key.1 x.key.2.1 x.key.2.2, .slice x.vals.1 x.vals.2.1 x.vals.2.2] 49))) := Lib.hid (Ext.alloc _ _)
  have HB : Hid (Blk (w.alloc (.cells #[.int .u8 x.op, .int .i64 x.node, .int .u8 x.mode, .int .i64 x.table, .bool x.row, .int .i64 x.col, .int .i64 x.var, .int .i64 x.goes, .bool x.eq, .int .i64 x.frm, .int .i64 x.upto, .slice x.key.1 x.key.2.1 x.key.2.2, .slice x.vals.1 x.vals.2.1 x.vals.2.2] 49)) w.heap.size 49 #[.int .u8 x.op, .int .i64 x.node, .int .u8 x.mode, .int .i64 x.table, .bool x.row, .int .i64 x.col, .int .i64 x.var, .int .i64 x.goes, .bool x.eq, .int .i64 x.frm, .int .i64 x.upto, .slice x.key.1 x.key.2.1 x.key.2.2, .slice x.vals.1 x.vals.2.1 x.vals.2.2]) := Lib.hid (Blk.new _ _ _)
  go_enter Try.func32, Try.ntmps32
  go_upto_region 1 with fail
  generalize w.heap.size = g at *
  generalize w.alloc (.cells #[.int .u8 x.op, .int .i64 x.node, .int .u8 x.mode, .int .i64 x.table, .bool x.row, .int .i64 x.col, .int .i64 x.var, .int .i64 x.goes, .bool x.eq, .int .i64 x.frm, .int .i64 x.upto, .slice x.key.1 x.key.2.1 x.key.2.2, .slice x.vals.1 x.vals.2.1 x.vals.2.2] 49) = w1 at *
  have y0 : w1.cell? ⟨g, 0, none⟩ = some (.int .u8 x.op) := HB.out.cell 0
  have e0 := hb.out
  clear HB
  go_wp2_with fail
  go_ret
  exact ⟨rfl, HX.out⟩
set_option maxRecDepth 100000 in
set_option maxHeartbeats 8000000 in
theorem idxI_any (w : World) (A : Option Addr) (l : List FullI) (n c : Nat) (hn : n = l.length) (hlen : l.length ≤ 900) (hc : Cells w A (fcells l)) :
    Calls Try.prog 54 #[.slice A n c, .func (.func 32) #[] #[]] w fun e w' => e = .returned (.int .i64 (idxQ (l.findIdx? fun f => f.x.op == 15))) ∧ Ext w w' := by
  subst hn
  have HC := Lib.hid hc
  have HE : Hid (∀ args w, (callFunc 32 args).run Try.prog w = .ok (.enter 32 args) w) := Lib.hid (enters_of Try.func32 (by kernel_rfl) rfl)
  clear hc
  go_enter Try.func54, Try.ntmps54
  go_wp2_with fail
  go_loopw [8] (fun i wr => ∃ k : Nat, k ≤ l.length ∧ i = .int .i64 k ∧ Hid (Ext w wr) ∧ Hid (∀ j (hj : j < l.length), j < k → (l[j].x.op == 15) = false)) (fun i _ => l.length - (intOf i).toNat)
  case atStart => exact ⟨0, Nat.zero_le _, rfl, Lib.hid (Ext.refl _), Lib.hid fun j hj h => by omega⟩
  case round =>
    obtain ⟨k, hk, rfl, HX, HQ⟩ := hrel
    obtain ⟨wa, rfl⟩ : ∃ wa : World, wa = wr := ⟨_, rfl⟩
    by_cases hlt : k < l.length
    · have d0 : decide ((k : Int) < (l.length : Int)) = true := decide_eq_true (by omega)
      have q1 : (k : Int) < (l.length : Int) := by omega
      obtain ⟨b1, off1, rfl, hb, hcc⟩ := (HC.out.ext HX.out).at_ (by rw [fcells_len]; omega)
      have hx : ∀ j, j < 13 → wa.cell? ⟨b1, off1 + k * 13 + j, none⟩ = (l[k].x.cells)[j]? := fun j hj => by
        rw [Nat.add_assoc, hcc _ (by rw [fcells_len]; omega)]
        exact fcells_at l k j hlt hj
      obtain ⟨t, ht⟩ : ∃ t, (l[k].x.op == 15) = t := ⟨_, rfl⟩
      have HFY : Hid (t = true → l.findIdx? (fun f => f.x.op == 15) = some k) := Lib.hid fun h => findQ_take _ l k hlt HQ.out (by rw [ht]; exact h)
      have HFN : Hid (t = false → ∀ j (hj : j < l.length), j < k + 1 → (l[j].x.op == 15) = false) := Lib.hid fun h j hj hjk => by
        by_cases e : j = k
        · subst e; rw [ht]; exact h
        · exact HQ.out j hj (by omega)
      have HTT := Lib.hid ht
      clear hcc ht
      generalize l[k] = f at *
      have x0 : wa.cell? ⟨b1, off1 + k * 13, none⟩ = some (.int .u8 f.x.op) := hx 0 (by omega)
      have x1 : wa.cell? ⟨b1, off1 + k * 13 + 1, none⟩ = some (.int .i64 f.x.node) := hx 1 (by omega)
      have x2 : wa.cell? ⟨b1, off1 + k * 13 + 2, none⟩ = some (.int .u8 f.x.mode) := hx 2 (by omega)
      have x3 : wa.cell? ⟨b1, off1 + k * 13 + 3, none⟩ = some (.int .i64 f.x.table) := hx 3 (by omega)
      have x4 : wa.cell? ⟨b1, off1 + k * 13 + 4, none⟩ = some (.bool f.x.row) := hx 4 (by omega)
      have x5 : wa.cell? ⟨b1, off1 + k * 13 + 5, none⟩ = some (.int .i64 f.x.col) := hx 5 (by omega)
      have x6 : wa.cell? ⟨b1, off1 + k * 13 + 6, none⟩ = some (.int .i64 f.x.var) := hx 6 (by omega)
      have x7 : wa.cell? ⟨b1, off1 + k * 13 + 7, none⟩ = some (.int .i64 f.x.goes) := hx 7 (by omega)
      have x8 : wa.cell? ⟨b1, off1 + k * 13 + 8, none⟩ = some (.bool f.x.eq) := hx 8 (by omega)
      have x9 : wa.cell? ⟨b1, off1 + k * 13 + 9, none⟩ = some (.int .i64 f.x.frm) := hx 9 (by omega)
      have x10 : wa.cell? ⟨b1, off1 + k * 13 + 10, none⟩ = some (.int .i64 f.x.upto) := hx 10 (by omega)
      have x11 : wa.cell? ⟨b1, off1 + k * 13 + 11, none⟩ = some (.slice f.x.key.1 f.x.key.2.1 f.x.key.2.2) := hx 11 (by omega)
      have x12 : wa.cell? ⟨b1, off1 + k * 13 + 12, none⟩ = some (.slice f.x.vals.1 f.x.vals.2.1 f.x.vals.2.2) := hx 12 (by omega)
      clear hx
      have he := HE.out
      go_wp2_with fail
      refine (rightC_any f.x wa t HTT).mono ?_
      rintro e w2 ⟨rfl, hx2⟩
      have HX2 := Lib.hid (HX.out.trans hx2)
      clear hx2 he x0 x1 x2 x3 x4 x5 x6 x7 x8 x9 x10 x11 x12
      cases t with
      | true =>
        go_wp2_with fail
        go_ret
        rw [HFY.out (by first | rfl | trivial)]
        exact ⟨rfl, HX2.out⟩
      | false =>
        have HQ2 := Lib.hid (HFN.out (by first | rfl | trivial))
        go_wp2_with fail
        go_roundw
        case rel => exact ⟨k + 1, by omega, by go_num, HX2, HQ2⟩
        case measure => simp [intOf]; omega
    · obtain rfl : k = l.length := by omega
      have d0 : decide ((l.length : Int) < (l.length : Int)) = false := by simp
      have d1 : decide (l.length < l.length) = false := by simp
      have HN : Hid (l.findIdx? (fun f => f.x.op == 15) = none) := Lib.hid (findQ_all _ l fun j hj => HQ.out j hj hj)
      go_wp2_with fail
      go_ret
      rw [HN.out]
      exact ⟨rfl, HX.out⟩
set_option maxRecDepth 100000 in
set_option maxHeartbeats 4000000 in
theorem contI_any (w : World) (A : Option Addr) (l : List FullI) (n c : Nat) (hn : n = l.length) (hlen : l.length ≤ 900) (hc : Cells w A (fcells l)) (b : Bool) (hb : Hid (decide (0 ≤ idxQ (l.findIdx? fun f => f.x.op == 15)) = b)) :
    Calls Try.prog 31 #[.slice A n c, .func (.func 32) #[] #[]] w fun e w' => e = .returned (.bool b) ∧ Ext w w' := by
  have HI := Lib.hid (idxI_any w A l n c hn hlen hc)
  clear hn hc
  go_enter Try.func31, Try.ntmps31
  go_wp2_with fail
  refine HI.out.mono ?_
  rintro e w3 ⟨rfl, hx3⟩
  have HX3 := Lib.hid hx3
  have hv := hb.out
  clear hx3 HI
  generalize idxQ _ = z at *
  have hv' : decide (z ≥ 0) = b := hv
  go_wp2_with fail
  go_ret
  exact ⟨by first | rfl | rw [hv] | rw [← hv], HX3.out⟩
end Go.Proofs.Ytngbpaiohfokbaa
