/- pieces.marks: which places come, in which order: the iterator's contract. No condition. -/
import Derived.Test.YtngbpaiohfokbaaInstr
import Derived.RangeFuncBox
import Derived.RangeFuncNested
import Derived.RangeFuncBound
import Derived.RangeFuncCalls
import Derived.RangeFuncLeaves
import Derived.Shelf.Abstract
import Derived.OwnWalkIn
import Derived.TacticsInMore
import Derived.LoopNIn
import Derived.LoopIn
namespace Go.Proofs.Ytngbpaiohfokbaa
open Go Go.RowKit Go.Shelf
set_option linter.unusedVariables false
set_option linter.unusedSimpArgs false
attribute [local go_sem] Oper.semAt_some
theorem cells_block {w : World} {A : Option Addr} {cs : List Value} (h : Cells w A cs) (hn : 0 < cs.length) : ∀ b off, A = some ⟨b, off, none⟩ → b < w.heap.size := by
  intro b off e
  obtain ⟨b', off', h1, h2, _⟩ := h.at_ hn
  rw [h1] at e
  injection e with e
  injection e with e
  subst e
  exact h2
/-- The pieces among the first k instructions: number, place. -/
def pairsTo (ops : List Int) : Nat → List (Nat × Fin 1000)
  | 0 => []
  | k + 1 => if ops.getD k 0 = 15 then pairsTo ops k ++ [((pairsTo ops k).length, ⟨k % 1000, Nat.mod_lt _ (by decide)⟩)] else pairsTo ops k
theorem pairsTo_len (ops : List Int) (k : Nat) : (pairsTo ops k).length ≤ k := by
  induction k with
  | zero => simp [pairsTo]
  | succ k ih =>
    unfold pairsTo
    split
    · simp; omega
    · omega
def opsOf (l : List InstrD) : List Int := l.map InstrD.op
theorem opsOf_at (l : List InstrD) (k : Nat) (h : k < l.length) : (opsOf l).getD k 0 = l[k].op := by simp [opsOf, List.getD, h]
def encP (x : Nat × Fin 1000) : Array Value := #[.int .i64 (x.1 : Int), .int .i64 (x.2.val : Int)]
set_option maxRecDepth 100000 in
set_option maxHeartbeats 4000000 in
theorem marks1_in (F : Fence) (n : Nat) (hf : F.fn 41) (hro : F.round = none) (hn : 1 ≤ n) (l Bs n₀ : Nat) (A : Option Addr) (is : List InstrD) (cap : Nat) (hlen : is.length ≤ 1000) (hA : ∀ b off, A = some ⟨b, off, none⟩ → 0 < is.length → b < n₀) (J Jx : List (Nat × Fin 1000) → World → Prop)
    (W : World) (hJa : AbidesFrom W.heap.size J) (hY : ∀ pre x W1, J pre W1 → pre.length < is.length → YieldAt F (n - 1) Try.prog l (encP x) W1 fun e W' =>
      (e = .returned (.bool true) ∧ J (pre ++ [x]) W' ∧ Below n₀ W1 W') ∨ (e = .returned (.bool false) ∧ Jx (pre ++ [x]) W'))
    (hBs : W.cell? ⟨Bs, 0, none⟩ = some (.slice A is.length cap)) (hc : Cells W A (icells is)) (hn₀ : n₀ ≤ W.heap.size) (h0 : J [] W) :
    CallsIn F n Try.prog 41 #[.func (.yield l) #[] #[], .pointer (some ⟨Bs, 0, none⟩)] W fun e W' => (∃ v, e = .returned v) ∧
      ((∃ ys, ys = pairsTo (opsOf is) is.length ∧ J ys W') ∨ (∃ pre, True ∧ Jx pre W')) := by
  refine callsIn_of_wp Try.func41 rfl hf ?_ hro
  simp only [Try.ntmps41, List.size_toArray, List.length_cons, List.length_nil, Nat.reduceAdd, Nat.reduceSub, Array.replicate_succ, Array.replicate_zero, List.push_toArray, List.append_toArray, List.nil_append, List.cons_append]
  gi_wp2
  gi_loopw [3, 8] (fun c i wr => ∃ k : Nat, k ≤ is.length ∧ c = .int .i64 ((pairsTo (opsOf is) k).length : Int) ∧ i = .int .i64 k ∧ J (pairsTo (opsOf is) k) wr ∧ Below n₀ W wr)
    (fun _ i _ => is.length - (intOf i).toNat)
  case atStart => exact ⟨0, Nat.zero_le _, rfl, rfl, h0, Below.refl _ _⟩
  case round =>
    obtain ⟨k, hk, rfl, rfl, hJs, hnx⟩ := hrel
    by_cases hlt : k < is.length
    · obtain ⟨b, off, rfl, hb, hcc⟩ := hc.at_ (by rw [icells_len]; omega)
      have hbn := hA b off rfl (by omega)
      have hx : ∀ j, j < 13 → wr.cell? ⟨b, off + k * 13 + j, none⟩ = (is[k].cells)[j]? := fun j hj => by
        rw [hnx.cell (p := ⟨b, off + k * 13 + j, none⟩) hbn, Nat.add_assoc, hcc _ (by rw [icells_len]; omega)]
        exact icells_at is k j hlt hj
      have hop := opsOf_at is k hlt
      generalize is[k] = x at *
      have x0 : wr.cell? ⟨b, off + k * 13, none⟩ = some (.int .u8 x.op) := hx 0 (by omega)
      have x1 : wr.cell? ⟨b, off + k * 13 + 1, none⟩ = some (.int .i64 x.node) := hx 1 (by omega)
      have x2 : wr.cell? ⟨b, off + k * 13 + 2, none⟩ = some (.int .u8 x.mode) := hx 2 (by omega)
      have x3 : wr.cell? ⟨b, off + k * 13 + 3, none⟩ = some (.int .i64 x.table) := hx 3 (by omega)
      have x4 : wr.cell? ⟨b, off + k * 13 + 4, none⟩ = some (.bool x.row) := hx 4 (by omega)
      have x5 : wr.cell? ⟨b, off + k * 13 + 5, none⟩ = some (.int .i64 x.col) := hx 5 (by omega)
      have x6 : wr.cell? ⟨b, off + k * 13 + 6, none⟩ = some (.int .i64 x.var) := hx 6 (by omega)
      have x7 : wr.cell? ⟨b, off + k * 13 + 7, none⟩ = some (.int .i64 x.goes) := hx 7 (by omega)
      have x8 : wr.cell? ⟨b, off + k * 13 + 8, none⟩ = some (.bool x.eq) := hx 8 (by omega)
      have x9 : wr.cell? ⟨b, off + k * 13 + 9, none⟩ = some (.int .i64 x.frm) := hx 9 (by omega)
      have x10 : wr.cell? ⟨b, off + k * 13 + 10, none⟩ = some (.int .i64 x.upto) := hx 10 (by omega)
      have x11 : wr.cell? ⟨b, off + k * 13 + 11, none⟩ = some (.slice x.key.1 x.key.2.1 x.key.2.2) := hx 11 (by omega)
      have x12 : wr.cell? ⟨b, off + k * 13 + 12, none⟩ = some (.slice x.vals.1 x.vals.2.1 x.vals.2.2) := hx 12 (by omega)
      clear hx hcc
      have hpl := pairsTo_len (opsOf is) k
      obtain ⟨op, node, mode, table, row, col, var, goes, eq, frm, upto, ⟨ka, kl, kc⟩, ⟨va, vl, vc⟩⟩ := x
      simp only at x0 x1 x2 x3 x4 x5 x6 x7 x8 x9 x10 x11 x12 hop
      have hgr := World.grownBy_alloc wr (.cells #[.int .u8 op, .int .i64 node, .int .u8 mode, .int .i64 table, .bool row, .int .i64 col, .int .i64 var, .int .i64 goes, .bool eq, .int .i64 frm, .int .i64 upto, .slice ka kl kc, .slice va vl vc] 49) none
      have hJ2 := hJa _ _ _ none hJs hgr (fun r e => by cases e)
      have hB2 : Below n₀ W (wr.alloc (.cells #[.int .u8 op, .int .i64 node, .int .u8 mode, .int .i64 table, .bool row, .int .i64 col, .int .i64 var, .int .i64 goes, .bool eq, .int .i64 frm, .int .i64 upto, .slice ka kl kc, .slice va vl vc] 49)) := hnx.alloc (Nat.le_trans hn₀ hnx.size) _
      obtain ⟨fn, tmps, assign, body, hy, hR⟩ := hY (pairsTo (opsOf is) k) ((pairsTo (opsOf is) k).length, ⟨k, by omega⟩) _ hJ2 (by omega)
      unfold encP at hy
      dsimp only at hy
      have HP : pairsTo (opsOf is) (k + 1) = if op = 15 then pairsTo (opsOf is) k ++ [((pairsTo (opsOf is) k).length, ⟨k, by omega⟩)] else pairsTo (opsOf is) k := by
        have e : (⟨k % 1000, Nat.mod_lt _ (by decide)⟩ : Fin 1000) = ⟨k, by omega⟩ := Fin.ext (Nat.mod_eq_of_lt (by omega))
        rw [← hop, ← e]; rfl
      by_cases h15 : op = 15
      · subst h15
        rw [if_pos rfl] at HP
        have e15 : ((15 : Int) == 15) = true := rfl
        gi_wp2
        refine hR.mono ?_
        rintro e W3 (⟨rfl, hJ3, hk3⟩ | ⟨rfl, hJx3⟩)
        · gi_wp2
          go_roundw
          case rel => exact ⟨k + 1, by omega, by rw [HP]; simp, by go_num, by rw [HP]; exact hJ3, hB2.trans hk3⟩
          case measure => simp [intOf]; omega
        · gi_wp2
          refine bodyPost_ret (results_none rfl _ _ _) rfl ?_
          exact ⟨⟨_, rfl⟩, .inr ⟨_, trivial, hJx3⟩⟩
      · have e15 : (op == 15) = false := beq_eq_false_iff_ne.2 h15
        rw [if_neg h15] at HP
        gi_wp2
        go_roundw
        case rel => exact ⟨k + 1, by omega, by rw [HP], by go_num, by rw [HP]; exact hJ2, hB2⟩
        case measure => simp [intOf]; omega
    · obtain rfl : k = is.length := by omega
      gi_wp2
      go_end0
      exact ⟨⟨_, rfl⟩, .inl ⟨_, rfl, hJs⟩⟩
end Go.Proofs.Ytngbpaiohfokbaa
