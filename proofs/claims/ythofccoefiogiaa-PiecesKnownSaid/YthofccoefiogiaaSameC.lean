/- interlockref08.Same, walked, of two rows of the same instructions, without keys and values. -/
import Derived.Test.YthofccoefiogiaaPlainC
import Derived.Test.YthofccoefiogiaaRow
import Derived.RegionTactic
namespace Go.Proofs.Ythofccoefiogiaa
open Go Go.RowKit
set_option linter.unusedVariables false
set_option linter.unusedSimpArgs false
theorem yields_store_row {P : Program} {ρ : Operand → Value} {o : Oper} {w : World} {F : Value → World → Prop} (ty : TypeId) (x y : Operand) (ho : o.op = .store ty x y) (g : Nat) (cells : Array Value) (hx : ρ x = .pointer (some ⟨g, 0, none⟩)) (hy : ρ y = .agg cells)
    (t : TypeId) (old : Array Value) (hg : Blk w g t old) (hi : (P.info? ty).map (·.size) = some cells.size) (hold : old.size = cells.size) (h1 : cells.toList.all (·.oneCell') = true)
    (h : ∀ w', Touch g w w' → Blk w' g t cells → F undef w') : YieldsF P ρ o w F := by
  have ht := touch_setRow w g t old cells hg
  have hr := run_storeVar_row (P := P) w g t ty old cells hg hi hold (by rw [← Array.all_toList]; exact h1)
  unfold YieldsF execOp
  simp only [ho, hx, hy, Instr.storeAt, Instr.sureAddr, Sem.run_bind, Sem.run_pure, Result.andThen_ok, hr]
  exact h _ ht.1 ht.2
theorem sc_region {P : Program} {id : Nat} {Q' : Exit → Act → World → Prop} {a : Act} {w : World} {l : List Oper} {ks : List Take} (Fs : List (Value → World → Prop)) (m : Nat) (hm : P.follows .mixedOrders = true) (hB : factsB l.toArray m = true) (hT : tailB l.toArray m = true)
    (hE : ∀ F ∈ Fs, ∀ v w w', F v w → Ext w w' → F v w')
    (h : WalkF P l.toArray (Keeps w.heap.size Fs) w (fun a' w' => wpList P l.toArray Q' (l.drop m) a' w') (l.take m) ks a []) : (Code.region id l.toArray true).wp P Q' a w :=
  wp_region_facts (R := Keeps w.heap.size Fs) m ks hm hB hT (fun _ _ _ => Keeps.trans _ _ _) (Keeps.ext hE (Nat.le_refl _) (Below.drew (Below.refl _ _))) h
theorem sc_self {N : Nat} {Fs : List (Value → World → Prop)} {w0 w : World} (h : Keeps N Fs w0 w) : Keeps N Fs w w := ⟨Below.refl _ _, Nat.le_trans h.2.1 h.1.size, fun F hF v hv => hv⟩
theorem sc_big {N : Nat} {Fs : List (Value → World → Prop)} {w0 w : World} (h : Keeps N Fs w0 w) : N ≤ w.heap.size := Nat.le_trans h.2.1 h.1.size
theorem sc_keeps {N : Nat} {Fs : List (Value → World → Prop)} {F : Value → World → Prop} (hF : F ∈ Fs) : ∀ (v : Value) (w w' : World), F v w → Keeps N Fs w w' → F v w' := fun v w w' h k => k.2.2 F hF v h
theorem sc_at {N : Nat} {Fs : List (Value → World → Prop)} {F : Value → World → Prop} (hF : F ∈ Fs) (u : Value) : ∀ (v : Value) (w w' : World), F u w → Keeps N Fs w w' → F u w' := fun v w w' h k => k.2.2 F hF u h
def PZ (e : TypeId) (N : Nat) (z x : Array Value) (v : Value) (w : World) : Prop := ∃ g, v = .pointer (some ⟨g, 0, none⟩) ∧ N ≤ g ∧ (Blk w g e z ∨ Blk w g e x)
def PX (e : TypeId) (N : Nat) (x : Array Value) (v : Value) (w : World) : Prop := ∃ g, v = .pointer (some ⟨g, 0, none⟩) ∧ N ≤ g ∧ Blk w g e x
theorem PZ.ext {e : TypeId} {N : Nat} {z x : Array Value} {v : Value} {w w' : World} (h : PZ e N z x v w) (hx : Ext w w') : PZ e N z x v w' := by
  obtain ⟨g, a, b, c⟩ := h
  exact ⟨g, a, b, c.imp (fun c => c.ext hx) (fun c => c.ext hx)⟩
theorem PX.ext {e : TypeId} {N : Nat} {x : Array Value} {v : Value} {w w' : World} (h : PX e N x v w) (hx : Ext w w') : PX e N x v w' := by
  obtain ⟨g, a, b, c⟩ := h
  exact ⟨g, a, b, c.ext hx⟩
theorem PZ.touch {e : TypeId} {N g0 : Nat} {z x : Array Value} {v : Value} {w w' : World} (h : PZ e N z x v w) (ht : Touch g0 w w') (hb : Blk w' g0 e x) : PZ e N z x v w' := by
  obtain ⟨g, a, b, c⟩ := h
  by_cases hg : g = g0
  · subst hg; exact ⟨g, a, b, .inr hb⟩
  · exact ⟨g, a, b, c.imp (fun c => ht.blk c hg) (fun c => ht.blk c hg)⟩
theorem PX.touch {e : TypeId} {N g0 : Nat} {x : Array Value} {v : Value} {w w' : World} (h : PX e N x v w) (ht : Touch g0 w w') (hb : Blk w' g0 e x) : PX e N x v w' := by
  obtain ⟨g, a, b, c⟩ := h
  by_cases hg : g = g0
  · subst hg; exact ⟨g, a, b, hb⟩
  · exact ⟨g, a, b, ht.blk c hg⟩
theorem sc_ext (e : TypeId) (N : Nat) (z x : Array Value) : ∀ F ∈ [PZ e N z x, PX e N x], ∀ v w w', F v w → Ext w w' → F v w' := by
  intro F hF v w w' h hx
  simp only [List.mem_cons, List.not_mem_nil, or_false] at hF
  rcases hF with rfl | rfl
  · exact h.ext hx
  · exact h.ext hx
theorem sc_touch {e : TypeId} {N g0 : Nat} {z x : Array Value} {w w' : World} (hN : N ≤ g0) (hNw : N ≤ w.heap.size) (ht : Touch g0 w w') (hb : Blk w' g0 e x) : Keeps N [PZ e N z x, PX e N x] w w' := by
  refine ⟨ht.below hN, hNw, fun F hF v h => ?_⟩
  simp only [List.mem_cons, List.not_mem_nil, or_false] at hF
  rcases hF with rfl | rfl
  · exact h.touch ht hb
  · exact h.touch ht hb
set_option maxHeartbeats 8000000 in
set_option maxRecDepth 4000 in
theorem same_bare (A B : Option Addr) (is : List InstrD) (n m c d : Nat) (w : World) (hn : n = is.length) (hm : m = is.length) (hlen : is.length ≤ 1000) (hA : Cells w A (icells is)) (hB : Cells w B (icells is)) (hbare : ∀ x ∈ is, bareI x) :
    Calls Try.prog 24 #[.slice A n c, .slice B m d] w fun e w' => e = .returned (.bool true) ∧ Ext w w' := by
  subst hn hm
  have HA := Lib.hid hA
  have HB := Lib.hid hB
  have HBA := Lib.hid hbare
  clear hA hB hbare
  go_enter Try.func24, Try.ntmps24
  go_wp2_with fail
  go_loopw [5] (fun i wr => ∃ k : Nat, k ≤ is.length ∧ i = .int .i64 k ∧ Hid (Ext w wr)) (fun i _ => is.length - (intOf i).toNat)
  case atStart => exact ⟨0, Nat.zero_le _, rfl, Ext.refl _⟩
  case round =>
    obtain ⟨k, hk, rfl, HX⟩ := hrel
    obtain ⟨wa, rfl⟩ : ∃ wa : World, wa = wr := ⟨_, rfl⟩
    by_cases hlt : k < is.length
    · have d0 : decide ((k : Int) < (is.length : Int)) = true := decide_eq_true (by omega)
      obtain ⟨b, off, rfl, hb, hcc⟩ := (HA.out.ext HX.out).at_ (by rw [icells_len]; omega)
      obtain ⟨b2, off2, rfl, hb2, hcc2⟩ := (HB.out.ext HX.out).at_ (by rw [icells_len]; omega)
      have hx : ∀ j, j < 13 → wa.cell? ⟨b, off + k * 13 + j, none⟩ = (is[k].cells)[j]? := fun j hj => by
        rw [Nat.add_assoc, hcc _ (by rw [icells_len]; omega)]
        exact icells_at is k j hlt hj
      have hy : ∀ j, j < 13 → wa.cell? ⟨b2, off2 + k * 13 + j, none⟩ = (is[k].cells)[j]? := fun j hj => by
        rw [Nat.add_assoc, hcc2 _ (by rw [icells_len]; omega)]
        exact icells_at is k j hlt hj
      have hbk := HBA.out _ (List.getElem_mem hlt)
      generalize is[k] = x at *
      obtain ⟨op, node, mode, table, row, col, var, goes, eq, frm, upto, ⟨ka, kl, kc⟩, ⟨va, vl, vc⟩⟩ := x
      obtain ⟨hb1, hb2'⟩ := hbk
      simp only at hb1 hb2'
      cases hb1
      cases hb2'
      have HXC := Lib.hid hx
      have HYC := Lib.hid hy
      have q0 : (k : Int) < (is.length : Int) := by omega
      clear hx hy hcc hcc2
      go_upto_region 6 with fail
      have x0 : wa.cell? ⟨b, off + k * 13, none⟩ = some (.int .u8 op) := HXC.out 0 (by omega)
      have y0 : wa.cell? ⟨b2, off2 + k * 13, none⟩ = some (.int .u8 op) := HYC.out 0 (by omega)
      have x1 : wa.cell? ⟨b, off + k * 13 + 1, none⟩ = some (.int .i64 node) := HXC.out 1 (by omega)
      have y1 : wa.cell? ⟨b2, off2 + k * 13 + 1, none⟩ = some (.int .i64 node) := HYC.out 1 (by omega)
      have x2 : wa.cell? ⟨b, off + k * 13 + 2, none⟩ = some (.int .u8 mode) := HXC.out 2 (by omega)
      have y2 : wa.cell? ⟨b2, off2 + k * 13 + 2, none⟩ = some (.int .u8 mode) := HYC.out 2 (by omega)
      have x3 : wa.cell? ⟨b, off + k * 13 + 3, none⟩ = some (.int .i64 table) := HXC.out 3 (by omega)
      have y3 : wa.cell? ⟨b2, off2 + k * 13 + 3, none⟩ = some (.int .i64 table) := HYC.out 3 (by omega)
      have x4 : wa.cell? ⟨b, off + k * 13 + 4, none⟩ = some (.bool row) := HXC.out 4 (by omega)
      have y4 : wa.cell? ⟨b2, off2 + k * 13 + 4, none⟩ = some (.bool row) := HYC.out 4 (by omega)
      have x5 : wa.cell? ⟨b, off + k * 13 + 5, none⟩ = some (.int .i64 col) := HXC.out 5 (by omega)
      have y5 : wa.cell? ⟨b2, off2 + k * 13 + 5, none⟩ = some (.int .i64 col) := HYC.out 5 (by omega)
      have x6 : wa.cell? ⟨b, off + k * 13 + 6, none⟩ = some (.int .i64 var) := HXC.out 6 (by omega)
      have y6 : wa.cell? ⟨b2, off2 + k * 13 + 6, none⟩ = some (.int .i64 var) := HYC.out 6 (by omega)
      have x7 : wa.cell? ⟨b, off + k * 13 + 7, none⟩ = some (.int .i64 goes) := HXC.out 7 (by omega)
      have y7 : wa.cell? ⟨b2, off2 + k * 13 + 7, none⟩ = some (.int .i64 goes) := HYC.out 7 (by omega)
      have x8 : wa.cell? ⟨b, off + k * 13 + 8, none⟩ = some (.bool eq) := HXC.out 8 (by omega)
      have y8 : wa.cell? ⟨b2, off2 + k * 13 + 8, none⟩ = some (.bool eq) := HYC.out 8 (by omega)
      have x9 : wa.cell? ⟨b, off + k * 13 + 9, none⟩ = some (.int .i64 frm) := HXC.out 9 (by omega)
      have y9 : wa.cell? ⟨b2, off2 + k * 13 + 9, none⟩ = some (.int .i64 frm) := HYC.out 9 (by omega)
      have x10 : wa.cell? ⟨b, off + k * 13 + 10, none⟩ = some (.int .i64 upto) := HXC.out 10 (by omega)
      have y10 : wa.cell? ⟨b2, off2 + k * 13 + 10, none⟩ = some (.int .i64 upto) := HYC.out 10 (by omega)
      have x11 : wa.cell? ⟨b, off + k * 13 + 11, none⟩ = some (.slice none 0 0) := HXC.out 11 (by omega)
      have y11 : wa.cell? ⟨b2, off2 + k * 13 + 11, none⟩ = some (.slice none 0 0) := HYC.out 11 (by omega)
      have x12 : wa.cell? ⟨b, off + k * 13 + 12, none⟩ = some (.slice none 0 0) := HXC.out 12 (by omega)
      have y12 : wa.cell? ⟨b2, off2 + k * 13 + 12, none⟩ = some (.slice none 0 0) := HYC.out 12 (by omega)
      go_region
      all_goals
        have hc0 : Blk (((wa.alloc (.cells #[.int .u8 op, .int .i64 node, .int .u8 mode, .int .i64 table, .bool row, .int .i64 col, .int .i64 var, .int .i64 goes, .bool eq, .int .i64 frm, .int .i64 upto, .slice none 0 0, .slice none 0 0] 92)).alloc (.cells #[.int .u8 op, .int .i64 node, .int .u8 mode, .int .i64 table, .bool row, .int .i64 col, .int .i64 var, .int .i64 goes, .bool eq, .int .i64 frm, .int .i64 upto, .slice none 0 0, .slice none 0 0] 92)).drew) wa.heap.size 92 #[.int .u8 op, .int .i64 node, .int .u8 mode, .int .i64 table, .bool row, .int .i64 col, .int .i64 var, .int .i64 goes, .bool eq, .int .i64 frm, .int .i64 upto, .slice none 0 0, .slice none 0 0] := ((Blk.new wa _ _).alloc _).ext (Below.drew (Below.refl _ _))
        have hc1 : Blk (((wa.alloc (.cells #[.int .u8 op, .int .i64 node, .int .u8 mode, .int .i64 table, .bool row, .int .i64 col, .int .i64 var, .int .i64 goes, .bool eq, .int .i64 frm, .int .i64 upto, .slice none 0 0, .slice none 0 0] 92)).alloc (.cells #[.int .u8 op, .int .i64 node, .int .u8 mode, .int .i64 table, .bool row, .int .i64 col, .int .i64 var, .int .i64 goes, .bool eq, .int .i64 frm, .int .i64 upto, .slice none 0 0, .slice none 0 0] 92)).drew) (wa.heap.size + 1) 92 #[.int .u8 op, .int .i64 node, .int .u8 mode, .int .i64 table, .bool row, .int .i64 col, .int .i64 var, .int .i64 goes, .bool eq, .int .i64 frm, .int .i64 upto, .slice none 0 0, .slice none 0 0] := by
          have := Blk.new (wa.alloc (.cells #[.int .u8 op, .int .i64 node, .int .u8 mode, .int .i64 table, .bool row, .int .i64 col, .int .i64 var, .int .i64 goes, .bool eq, .int .i64 frm, .int .i64 upto, .slice none 0 0, .slice none 0 0] 92)) 92 #[.int .u8 op, .int .i64 node, .int .u8 mode, .int .i64 table, .bool row, .int .i64 col, .int .i64 var, .int .i64 goes, .bool eq, .int .i64 frm, .int .i64 upto, .slice none 0 0, .slice none 0 0]
          rw [World.size_alloc] at this
          exact this.ext (Below.drew (Below.refl _ _))
        have HXX : Hid (Ext w (((wa.alloc (.cells #[.int .u8 op, .int .i64 node, .int .u8 mode, .int .i64 table, .bool row, .int .i64 col, .int .i64 var, .int .i64 goes, .bool eq, .int .i64 frm, .int .i64 upto, .slice none 0 0, .slice none 0 0] 92)).alloc (.cells #[.int .u8 op, .int .i64 node, .int .u8 mode, .int .i64 table, .bool row, .int .i64 col, .int .i64 var, .int .i64 goes, .bool eq, .int .i64 frm, .int .i64 upto, .slice none 0 0, .slice none 0 0] 92)).drew)) := Ext.trans HX.out (Ext.trans (Ext.trans (Ext.alloc _ _) (Ext.alloc _ _)) (Below.drew (Below.refl _ _)))
        clear x0 x1 x2 x3 x4 x5 x6 x7 x8 x9 x10 x11 x12 y0 y1 y2 y3 y4 y5 y6 y7 y8 y9 y10 y11 y12 HXC HYC HX q0
        generalize ((wa.alloc (.cells #[.int .u8 op, .int .i64 node, .int .u8 mode, .int .i64 table, .bool row, .int .i64 col, .int .i64 var, .int .i64 goes, .bool eq, .int .i64 frm, .int .i64 upto, .slice none 0 0, .slice none 0 0] 92)).alloc (.cells #[.int .u8 op, .int .i64 node, .int .u8 mode, .int .i64 table, .bool row, .int .i64 col, .int .i64 var, .int .i64 goes, .bool eq, .int .i64 frm, .int .i64 upto, .slice none 0 0, .slice none 0 0] 92)).drew = w3 at *
        generalize wa.heap.size = g at *
        have HC0 := Lib.hid hc0
        have HC1 := Lib.hid hc1
        clear hc0 hc1
        have x0 := HC0.out.cell 0
        have y0 := HC1.out.cell 0
        have x1 := HC0.out.cell 1
        have y1 := HC1.out.cell 1
        have x2 := HC0.out.cell 2
        have y2 := HC1.out.cell 2
        have x3 := HC0.out.cell 3
        have y3 := HC1.out.cell 3
        have x4 := HC0.out.cell 4
        have y4 := HC1.out.cell 4
        have x5 := HC0.out.cell 5
        have y5 := HC1.out.cell 5
        have x6 := HC0.out.cell 6
        have y6 := HC1.out.cell 6
        have x7 := HC0.out.cell 7
        have y7 := HC1.out.cell 7
        have x8 := HC0.out.cell 8
        have y8 := HC1.out.cell 8
        have x9 := HC0.out.cell 9
        have y9 := HC1.out.cell 9
        have x10 := HC0.out.cell 10
        have y10 := HC1.out.cell 10
        have x11 := HC0.out.cell 11
        have y11 := HC1.out.cell 11
        have x12 := HC0.out.cell 12
        have y12 := HC1.out.cell 12
        go_wp2_with fail
        refine (sameTerms_yes none none [] _ _ _ _ _ rfl rfl (by decide) (.inl rfl) (.inl rfl)).mono ?_
        rintro e w4 ⟨rfl, hx4⟩
        have HX4 : Hid (Ext w w4) := Ext.trans HXX.out hx4
        have HD0 := Lib.hid (HC0.out.ext hx4)
        have HD1 := Lib.hid (HC1.out.ext hx4)
        clear hx4 x0 x1 x2 x3 x4 x5 x6 x7 x8 x9 x10 x11 x12 y0 y1 y2 y3 y4 y5 y6 y7 y8 y9 y10 y11 y12 HC0 HC1
        have x12 := HD0.out.cell 12
        have y12 := HD1.out.cell 12
        go_wp2_with fail
        go_loopw [8] (fun i w5 => i = .int .i64 0 ∧ w5 = w4) (fun _ _ => 0)
        case atStart => exact ⟨rfl, rfl⟩
        case round =>
          obtain ⟨rfl, hw5⟩ := hrel
          subst hw5
          go_wp2_with fail
          exact ⟨⟨k + 1, by omega, by go_num, HX4⟩, by simp [intOf]; omega⟩
    · obtain rfl : k = is.length := by omega
      have d0 : decide ((is.length : Int) < (is.length : Int)) = false := by simp
      go_wp2_with fail
      go_ret
      exact ⟨rfl, HX.out⟩
end Go.Proofs.Ythofccoefiogiaa
