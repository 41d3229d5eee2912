/- slices.EqualFunc of instructions and code.Same, walked. -/
import Derived.Test.YtngbpaiohfokbaaCrM
namespace Go.Proofs.Ytngbpaiohfokbaa
open Go Go.RowKit
set_option linter.unusedVariables false
set_option linter.unusedSimpArgs false
def all2 {α β : Type} (q : α → β → Bool) : List α → List β → Bool
  | [], [] => true
  | x :: l, y :: m => q x y && all2 q l m
  | _, _ => false
theorem all2_cons {α β : Type} (q : α → β → Bool) (x : α) (y : β) (l : List α) (m : List β) : all2 q (x :: l) (y :: m) = (q x y && all2 q l m) := rfl
theorem all2_len {α β : Type} (q : α → β → Bool) : ∀ {l : List α} {m : List β}, l.length ≠ m.length → all2 q l m = false
  | [], [], h => absurd rfl h
  | [], _ :: _, _ => rfl
  | _ :: _, [], _ => rfl
  | x :: l, y :: m, h => by
    rw [all2_cons, all2_len q (l := l) (m := m) (fun e => h (by simp [e])), Bool.and_false]
theorem all2_yes {α β : Type} (q : α → β → Bool) {l : List α} {m : List β} (hl : l.length = m.length) (ha : ∀ i (h1 : i < l.length) (h2 : i < m.length), q l[i] m[i] = true) : all2 q l m = true := by
  induction l generalizing m with
  | nil =>
    cases m with
    | nil => rfl
    | cons y m => simp at hl
  | cons x l ih =>
    cases m with
    | nil => simp at hl
    | cons y m =>
      have h0 : q x y = true := ha 0 (Nat.succ_pos _) (Nat.succ_pos _)
      rw [all2_cons, h0, Bool.true_and]
      exact ih (by simpa using hl) fun i h1 h2 => ha (i + 1) (Nat.succ_lt_succ h1) (Nat.succ_lt_succ h2)
theorem all2_no {α β : Type} (q : α → β → Bool) {l : List α} {m : List β} (i : Nat) (h1 : i < l.length) (h2 : i < m.length) (h : q l[i] m[i] = false) : all2 q l m = false := by
  induction l generalizing m i with
  | nil => exact absurd h1 (Nat.not_lt_zero _)
  | cons x l ih =>
    cases m with
    | nil => exact absurd h2 (Nat.not_lt_zero _)
    | cons y m =>
      rw [all2_cons]
      cases i with
      | zero =>
        have h0 : q x y = false := h
        rw [h0, Bool.false_and]
      | succ i => rw [ih i (Nat.lt_of_succ_lt_succ h1) (Nat.lt_of_succ_lt_succ h2) h, Bool.and_false]
def FullI.few8 (f : FullI) : Prop := f.fits ∧ f.vp.length ≤ 900 ∧ ∀ p ∈ f.vp, p.2.length ≤ 900
set_option maxRecDepth 100000 in
set_option maxHeartbeats 32000000 in
theorem eqI_any (w : World) (gc : Nat) (A B : Option Addr) (l m : List FullI) (c d : Nat) (hlen : l.length ≤ 900) (hA : Row w A l) (hB : Row w B m) (hf : ∀ f ∈ l, f.few8) (hgl : gc < w.heap.size) (hgb : w.cell? ⟨gc, 0, none⟩ = some (.func (.func 36) #[] #[])) (b : Bool) (hb : Hid (all2 sameP l m = b)) :
    Calls Try.prog 38 #[.slice A l.length c, .slice B m.length d, .func (.func 39) #[] #[.pointer (some ⟨gc, 0, none⟩)]] w fun e w' => e = .returned (.bool b) ∧ Ext w w' := by
  have HA := Lib.hid hA
  have HB := Lib.hid hB
  have HF := Lib.hid hf
  have HGL := Lib.hid hgl
  have HGB := Lib.hid hgb
  have HE : Hid (∀ args w, (callFunc 39 args).run Try.prog w = .ok (.enter 39 args) w) := Lib.hid (enters_of Try.func39 (by kernel_rfl) rfl)
  clear hA hB hf hgl hgb
  by_cases hlw : l.length = m.length
  rotate_left
  · have e0 : ((l.length : Int) == (m.length : Int)) = false := by rw [beq_eq_false_iff_ne]; omega
    have e1 : ((l.length : Int) != (m.length : Int)) = true := by rw [bne, e0]; rfl
    have HBF : Hid (b = false) := Lib.hid (by rw [← hb.out]; exact all2_len _ hlw)
    clear hlw hb
    go_enter Try.func38, Try.ntmps38
    go_wp2_with fail
    go_ret
    exact ⟨ret_bool HBF.out.symm, Ext.refl _⟩
  have e0 : ((l.length : Int) == (m.length : Int)) = true := by rw [hlw]; simp
  have e1 : ((l.length : Int) != (m.length : Int)) = false := by rw [hlw]; simp
  have HLW := Lib.hid hlw
  clear hlw
  go_enter Try.func38, Try.ntmps38
  go_wp2_with fail
  go_loopw [17] (fun i wr => ∃ k : Nat, k ≤ l.length ∧ i = .int .i64 k ∧ Hid (Ext w wr) ∧ Hid (∀ j (h1 : j < l.length) (h2 : j < m.length), j < k → sameP l[j] m[j] = true)) (fun i _ => l.length - (intOf i).toNat)
  case atStart => exact ⟨0, Nat.zero_le _, rfl, Lib.hid (Ext.refl _), Lib.hid fun j h1 h2 h => by omega⟩
  case round =>
    obtain ⟨k, hk, rfl, HX, HQ⟩ := hrel
    obtain ⟨wa, rfl⟩ : ∃ wa : World, wa = wr := ⟨_, rfl⟩
    by_cases hlt : k < l.length
    rotate_left
    · obtain rfl : k = l.length := by omega
      have d0 : decide ((l.length : Int) < (l.length : Int)) = false := by simp
      have d1 : decide (l.length < l.length) = false := by simp
      have HBT : Hid (b = true) := Lib.hid (by rw [← hb.out]; exact all2_yes _ HLW.out fun j h1 h2 => HQ.out j h1 h2 h1)
      go_wp2_with fail
      go_ret
      exact ⟨ret_bool HBT.out.symm, HX.out⟩
    have d0 : decide ((k : Int) < (l.length : Int)) = true := decide_eq_true (by omega)
    have hlt2 : k < m.length := by have := HLW.out; omega
    have q1 : (k : Int) < (l.length : Int) := by omega
    have q2 : (k : Int) < (m.length : Int) := by omega
    obtain ⟨b1, off1, rfl, hb1, hcc⟩ := (HA.out.ext HX.out).1.at_ (by rw [fcells_len]; omega)
    have hx : Hid (∀ j, j < 13 → wa.cell? ⟨b1, off1 + k * 13 + j, none⟩ = (l[k].x.cells)[j]?) := Lib.hid fun j hj => by
      rw [Nat.add_assoc, hcc _ (by rw [fcells_len]; omega)]
      exact fcells_at l k j hlt hj
    have hy : Hid (∀ w1, Ext wa w1 → ∃ b2 off2, B = some ⟨b2, off2, none⟩ ∧ ∀ j, j < 13 → w1.cell? ⟨b2, off2 + k * 13 + j, none⟩ = (m[k].x.cells)[j]?) := Lib.hid fun w1 h1 => by
      obtain ⟨b2, off2, hB, hb2, hcc2⟩ := (HB.out.ext (HX.out.trans h1)).1.at_ (by rw [fcells_len]; omega)
      refine ⟨b2, off2, hB, fun j hj => ?_⟩
      rw [Nat.add_assoc, hcc2 _ (by rw [fcells_len]; omega)]
      exact fcells_at m k j hlt2 hj
    have HAT := Lib.hid ((HA.out.2 _ (List.getElem_mem hlt)).ext HX.out)
    have HAT2 := Lib.hid ((HB.out.2 _ (List.getElem_mem hlt2)).ext HX.out)
    have HFT := Lib.hid (HF.out _ (List.getElem_mem hlt))
    have HNO : Hid (sameP l[k] m[k] = false → b = false) := Lib.hid fun h => by rw [← hb.out]; exact all2_no _ k hlt hlt2 h
    have HYS : Hid (sameP l[k] m[k] = true → ∀ j (h1 : j < l.length) (h2 : j < m.length), j < k + 1 → sameP l[j] m[j] = true) := Lib.hid fun h j h1 h2 hj => by
      by_cases e : j = k
      · subst e; exact h
      · exact HQ.out j h1 h2 (by omega)
    clear hcc
    generalize l[k] = f at *
    generalize m[k] = g at *
    have x0 : wa.cell? ⟨b1, off1 + k * 13, none⟩ = some (.int .u8 f.x.op) := hx.out 0 (by omega)
    have x1 : wa.cell? ⟨b1, off1 + k * 13 + 1, none⟩ = some (.int .i64 f.x.node) := hx.out 1 (by omega)
    have x2 : wa.cell? ⟨b1, off1 + k * 13 + 2, none⟩ = some (.int .u8 f.x.mode) := hx.out 2 (by omega)
    have x3 : wa.cell? ⟨b1, off1 + k * 13 + 3, none⟩ = some (.int .i64 f.x.table) := hx.out 3 (by omega)
    have x4 : wa.cell? ⟨b1, off1 + k * 13 + 4, none⟩ = some (.bool f.x.row) := hx.out 4 (by omega)
    have x5 : wa.cell? ⟨b1, off1 + k * 13 + 5, none⟩ = some (.int .i64 f.x.col) := hx.out 5 (by omega)
    have x6 : wa.cell? ⟨b1, off1 + k * 13 + 6, none⟩ = some (.int .i64 f.x.var) := hx.out 6 (by omega)
    have x7 : wa.cell? ⟨b1, off1 + k * 13 + 7, none⟩ = some (.int .i64 f.x.goes) := hx.out 7 (by omega)
    have x8 : wa.cell? ⟨b1, off1 + k * 13 + 8, none⟩ = some (.bool f.x.eq) := hx.out 8 (by omega)
    have x9 : wa.cell? ⟨b1, off1 + k * 13 + 9, none⟩ = some (.int .i64 f.x.frm) := hx.out 9 (by omega)
    have x10 : wa.cell? ⟨b1, off1 + k * 13 + 10, none⟩ = some (.int .i64 f.x.upto) := hx.out 10 (by omega)
    have x11 : wa.cell? ⟨b1, off1 + k * 13 + 11, none⟩ = some (.slice f.x.key.1 f.x.key.2.1 f.x.key.2.2) := hx.out 11 (by omega)
    have x12 : wa.cell? ⟨b1, off1 + k * 13 + 12, none⟩ = some (.slice f.x.vals.1 f.x.vals.2.1 f.x.vals.2.2) := hx.out 12 (by omega)
    clear hx
    go_wp2_with (refine wpList_put rfl 49 _ _ rfl wa.heap.size #[.int .u8 f.x.op, .int .i64 f.x.node, .int .u8 f.x.mode, .int .i64 f.x.table, .bool f.x.row, .int .i64 f.x.col, .int .i64 f.x.var, .int .i64 f.x.goes, .bool f.x.eq, .int .i64 f.x.frm, .int .i64 f.x.upto, .slice f.x.key.1 f.x.key.2.1 f.x.key.2.2, .slice f.x.vals.1 f.x.vals.2.1 f.x.vals.2.2] (by kernel_rfl) (by kernel_rfl) 49 _ (Blk.new _ _ _) (by kernel_rfl) rfl rfl ?_)
    intro w1 ht1 hb1
    have HX1 : Hid (Ext wa w1) := Lib.hid (ht1.ext (Ext.alloc wa _) (Nat.le_refl _))
    have HB1 := Lib.hid hb1
    have HL1 : Hid (wa.heap.size < w1.heap.size) := Lib.hid hb1.lt
    clear ht1 hb1 x0 x1 x2 x3 x4 x5 x6 x7 x8 x9 x10 x11 x12
    generalize wa.heap.size = ga at *
    obtain ⟨b2, off2, rfl, hyy⟩ := hy.out w1 HX1.out
    have y0 : w1.cell? ⟨b2, off2 + k * 13, none⟩ = some (.int .u8 g.x.op) := hyy 0 (by omega)
    have y1 : w1.cell? ⟨b2, off2 + k * 13 + 1, none⟩ = some (.int .i64 g.x.node) := hyy 1 (by omega)
    have y2 : w1.cell? ⟨b2, off2 + k * 13 + 2, none⟩ = some (.int .u8 g.x.mode) := hyy 2 (by omega)
    have y3 : w1.cell? ⟨b2, off2 + k * 13 + 3, none⟩ = some (.int .i64 g.x.table) := hyy 3 (by omega)
    have y4 : w1.cell? ⟨b2, off2 + k * 13 + 4, none⟩ = some (.bool g.x.row) := hyy 4 (by omega)
    have y5 : w1.cell? ⟨b2, off2 + k * 13 + 5, none⟩ = some (.int .i64 g.x.col) := hyy 5 (by omega)
    have y6 : w1.cell? ⟨b2, off2 + k * 13 + 6, none⟩ = some (.int .i64 g.x.var) := hyy 6 (by omega)
    have y7 : w1.cell? ⟨b2, off2 + k * 13 + 7, none⟩ = some (.int .i64 g.x.goes) := hyy 7 (by omega)
    have y8 : w1.cell? ⟨b2, off2 + k * 13 + 8, none⟩ = some (.bool g.x.eq) := hyy 8 (by omega)
    have y9 : w1.cell? ⟨b2, off2 + k * 13 + 9, none⟩ = some (.int .i64 g.x.frm) := hyy 9 (by omega)
    have y10 : w1.cell? ⟨b2, off2 + k * 13 + 10, none⟩ = some (.int .i64 g.x.upto) := hyy 10 (by omega)
    have y11 : w1.cell? ⟨b2, off2 + k * 13 + 11, none⟩ = some (.slice g.x.key.1 g.x.key.2.1 g.x.key.2.2) := hyy 11 (by omega)
    have y12 : w1.cell? ⟨b2, off2 + k * 13 + 12, none⟩ = some (.slice g.x.vals.1 g.x.vals.2.1 g.x.vals.2.2) := hyy 12 (by omega)
    clear hyy hy
    go_wp2_with (refine wpList_put rfl 49 _ _ rfl w1.heap.size #[.int .u8 g.x.op, .int .i64 g.x.node, .int .u8 g.x.mode, .int .i64 g.x.table, .bool g.x.row, .int .i64 g.x.col, .int .i64 g.x.var, .int .i64 g.x.goes, .bool g.x.eq, .int .i64 g.x.frm, .int .i64 g.x.upto, .slice g.x.key.1 g.x.key.2.1 g.x.key.2.2, .slice g.x.vals.1 g.x.vals.2.1 g.x.vals.2.2] (by kernel_rfl) (by kernel_rfl) 49 _ (Blk.new _ _ _) (by kernel_rfl) rfl rfl ?_)
    intro w2 ht2 hb2
    have HX2 : Hid (Ext wa w2) := Lib.hid (HX1.out.trans (ht2.ext (Ext.alloc w1 _) (Nat.le_refl _)))
    have HB2 := Lib.hid hb2
    have HB1' := Lib.hid (ht2.blk (HB1.out.alloc _) (Nat.ne_of_lt HL1.out))
    clear ht2 hb2 HB1 HL1 HX1 y0 y1 y2 y3 y4 y5 y6 y7 y8 y9 y10 y11 y12
    generalize w1.heap.size = gb at *
    have HXW := Lib.hid (HX.out.trans HX2.out)
    have he := HE.out
    go_wp2_with (first | refine wpList_get rfl 49 _ rfl ga rfl 49 _ _ HB1'.out Try.underlying49 rfl (by kernel_rfl) ?_ | refine wpList_get rfl 49 _ rfl gb rfl 49 _ _ HB2.out Try.underlying49 rfl (by kernel_rfl) ?_)
    refine (sameD_any f g w2 gc (HAT.out.ext HX2.out) (HAT2.out.ext HX2.out) HFT.out.1 HFT.out.2.1 HFT.out.2.2 (Nat.lt_of_lt_of_le HGL.out HXW.out.size) ((HXW.out.cell (p := ⟨gc, 0, none⟩) HGL.out).trans HGB.out)).mono ?_
    rintro e w3 ⟨rfl, hx3⟩
    have HX3 := Lib.hid (HXW.out.trans hx3)
    clear hx3 he HB1' HB2 HXW HX2 HAT HAT2 HFT
    generalize sameP f g = t at *
    cases t with
    | false =>
      have HBF := Lib.hid (HNO.out rfl)
      go_wp2_with fail
      go_ret
      exact ⟨ret_bool HBF.out.symm, HX3.out⟩
    | true =>
      have HQ2 := Lib.hid (HYS.out rfl)
      go_wp2_with fail
      go_roundw
      case rel => exact ⟨k + 1, by omega, by go_num, HX3, HQ2⟩
      case measure => simp [intOf]; omega
end Go.Proofs.Ytngbpaiohfokbaa
