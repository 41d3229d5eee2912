/- tree.Find, walked: by a range over slices.Backward. -/
import Derived.Test.YthofccoefiogiaaTRight
import Derived.Test.YthofccoefiogiaaTF0
import Derived.RangeFuncBox
import Derived.RangeFuncNested
import Derived.RangeFuncBound
import Derived.RangeFuncCalls
import Derived.RangeFuncLeaves
import Derived.Shelf.Abstract
import Derived.OwnWalkIn
import Derived.TacticsInMore
import Derived.LoopNIn
import Derived.LoopIn
namespace Go.Proofs.Ythofccoefiogiaa
open Go Go.RowKit Go.Shelf
set_option linter.unusedVariables false
set_option linter.unusedSimpArgs false
attribute [local go_sem] Oper.semAt_some
/-- The places, from the last one on. -/
def idxs (n : Nat) : Nat → List Nat
  | 0 => []
  | k + 1 => idxs n k ++ [n - 1 - k]
theorem idxs_len (n k : Nat) : (idxs n k).length = k := by
  induction k with
  | zero => rfl
  | succ k ih => unfold idxs; simp [ih]
theorem idxs_mem (n : Nat) : ∀ (k i : Nat), k ≤ n → n - k ≤ i → i < n → i ∈ idxs n k := by
  intro k
  induction k with
  | zero => intro i h1 h2 h3; omega
  | succ k ih =>
    intro i h1 h2 h3
    unfold idxs
    by_cases h : i = n - 1 - k
    · rw [h]; simp
    · exact List.mem_append_left _ (ih i (by omega) (by omega) h3)
def dfN : NodeM := ⟨0, 0, ⟨#[]⟩, 0, none, 0, []⟩
def encB (ns : List NodeM) (i : Nat) : Array Value := #[.int .i64 (i : Int), .agg (Array.mk (ns.getD i dfN).cells)]
theorem findTo_all {l : List NodeM} {p : Int} : ∀ k, k ≤ l.length → (∀ i (h : i < l.length), i < k → l[i].pos ≠ p) → findTo l p k = -1 := by
  intro k
  induction k with
  | zero => intro _ _; rfl
  | succ k ih =>
    intro hk h
    rw [findTo_miss (by omega) (h k (by omega) (by omega))]
    exact ih (by omega) (fun i hi h2 => h i hi (by omega))
theorem findTo_at {l : List NodeM} {p : Int} (x : Nat) (hx : x < l.length) (hp : l[x].pos = p) : ∀ k, k ≤ l.length → x < k → (∀ i (h : i < l.length), x < i → i < k → l[i].pos ≠ p) → findTo l p k = (x : Int) := by
  intro k
  induction k with
  | zero => intro _ h; omega
  | succ k ih =>
    intro hk hxk h
    by_cases he : x = k
    · subst he; exact findTo_hit hx hp
    · rw [findTo_miss (by omega) (h k (by omega) (by omega) (by omega))]
      exact ih (by omega) (by omega) (fun i hi h2 h3 => h i hi h2 (by omega))
def posAt (ns : List NodeM) (i : Nat) : Int := (ns.getD i dfN).pos
theorem posAt_eq (ns : List NodeM) (i : Nat) (h : i < ns.length) : posAt ns i = ns[i].pos := by unfold posAt; simp [List.getD_eq_getElem?_getD, h]
theorem findM_none {ns : List NodeM} {p : Int} (h : ∀ i ∈ idxs ns.length ns.length, posAt ns i ≠ p) : findM ns p = -1 := by
  refine findTo_all _ (Nat.le_refl _) (fun i hi _ => ?_)
  have := h i (idxs_mem _ _ i (Nat.le_refl _) (by omega) hi)
  rwa [posAt_eq ns i hi] at this
theorem findM_some {ns : List NodeM} {p : Int} (k : Nat) (hk : k < ns.length) (h : ∀ i ∈ idxs ns.length k, posAt ns i ≠ p) (hp : posAt ns (ns.length - 1 - k) = p) : findM ns p = ((ns.length - 1 - k : Nat) : Int) := by
  have hx : ns.length - 1 - k < ns.length := by omega
  rw [posAt_eq ns _ hx] at hp
  refine findTo_at _ hx hp _ (Nat.le_refl _) hx (fun i hi h1 _ => ?_)
  have := h i (idxs_mem _ _ i (by omega) (by omega) hi)
  rwa [posAt_eq ns i hi] at this
set_option maxRecDepth 100000 in
set_option maxHeartbeats 4000000 in
theorem back1_in (F : Fence) (n : Nat) (hf : F.fn 107) (hro : F.round = none) (hn : 1 ≤ n) (l Bs n₀ : Nat) (A : Option Addr) (ns : List NodeM) (cap : Nat) (hlen : ns.length ≤ 1000) (hA : ∀ b off, A = some ⟨b, off, none⟩ → 0 < ns.length → b < n₀) (J Jx : List Nat → World → Prop)
    (W : World) (hJa : AbidesFrom W.heap.size J) (hY : ∀ pre x W1, J pre W1 → pre.length < ns.length → YieldAt F (n - 1) Try.prog l (encB ns x) W1 fun e W' =>
      (e = .returned (.bool true) ∧ J (pre ++ [x]) W' ∧ Below n₀ W1 W') ∨ (e = .returned (.bool false) ∧ Jx (pre ++ [x]) W'))
    (hBs : W.cell? ⟨Bs, 0, none⟩ = some (.slice A ns.length cap)) (hBsl : Bs < n₀) (hc : Cells W A (trcells ns)) (hn₀ : n₀ ≤ W.heap.size) (h0 : J [] W) :
    CallsIn F n Try.prog 107 #[.func (.yield l) #[] #[], .pointer (some ⟨Bs, 0, none⟩)] W fun e W' => (∃ v, e = .returned v) ∧
      ((∃ ys, ys = idxs ns.length ns.length ∧ J ys W') ∨ (∃ pre, (∃ k, k < ns.length ∧ pre = idxs ns.length (k + 1)) ∧ Jx pre W')) := by
  refine callsIn_of_wp Try.func107 rfl hf ?_ hro
  simp only [Try.ntmps107, List.size_toArray, List.length_cons, List.length_nil, Nat.reduceAdd, Nat.reduceSub, Array.replicate_succ, Array.replicate_zero, List.push_toArray, List.append_toArray, List.nil_append, List.cons_append]
  gi_wp2
  gi_loopw [3] (fun i wr => ∃ m : Nat, m ≤ ns.length ∧ i = .int .i64 ((m : Int) - 1) ∧ J (idxs ns.length (ns.length - m)) wr ∧ Below n₀ W wr)
    (fun i _ => (intOf i + 1).toNat)
  case atStart => exact ⟨ns.length, Nat.le_refl _, rfl, by rw [Nat.sub_self]; exact h0, Below.refl _ _⟩
  case round =>
    obtain ⟨m, hm, rfl, hJs, hnx⟩ := hrel
    have hbox : wr.cell? ⟨Bs, 0, none⟩ = some (.slice A ns.length cap) := (hnx.cell (p := ⟨Bs, 0, none⟩) hBsl).trans hBs
    cases m with
    | zero =>
      gi_wp2
      go_end0
      exact ⟨⟨_, rfl⟩, .inl ⟨_, rfl, hJs⟩⟩
    | succ m =>
      have em : (((m + 1 : Nat) : Int) - 1) = (m : Int) := by omega
      rw [em]
      have hml : m < ns.length := by omega
      obtain ⟨b, off, rfl, hb, hcc⟩ := hc.at_ (by rw [trcells_len]; omega)
      have hbn := hA b off rfl (by omega)
      have hx : ∀ j, j < 5 → wr.cell? ⟨b, off + m * 5 + j, none⟩ = (ns[m].cells)[j]? := fun j hj => by
        rw [hnx.cell (p := ⟨b, off + m * 5 + j, none⟩) hbn, Nat.add_assoc, hcc _ (by rw [trcells_len]; omega)]
        exact trcells_at ns m j hml hj
      obtain ⟨fn, tmps, assign, body, hy, hR⟩ := hY (idxs ns.length (ns.length - (m + 1))) m _ hJs (by rw [idxs_len]; omega)
      have hI : idxs ns.length (ns.length - (m + 1)) ++ [m] = idxs ns.length (ns.length - m) := by
        rw [show ns.length - m = (ns.length - (m + 1)) + 1 from by omega]
        show _ = idxs ns.length (ns.length - (m + 1)) ++ [ns.length - 1 - (ns.length - (m + 1))]
        rw [show ns.length - 1 - (ns.length - (m + 1)) = m from by omega]
      rw [hI] at hR
      unfold encB at hy
      rw [show ns.getD m dfN = ns[m] from by simp [List.getD_eq_getElem?_getD, hml]] at hy
      generalize ns[m] = x at *
      obtain ⟨kind, pos, text, num, kA, kc, kids⟩ := x
      have x0 : wr.cell? ⟨b, off + m * 5, none⟩ = some (.int .u8 kind) := hx 0 (by omega)
      have x1 : wr.cell? ⟨b, off + m * 5 + 1, none⟩ = some (.int .i64 pos) := hx 1 (by omega)
      have x2 : wr.cell? ⟨b, off + m * 5 + 2, none⟩ = some (.string text) := hx 2 (by omega)
      have x3 : wr.cell? ⟨b, off + m * 5 + 3, none⟩ = some (.int .i64 num) := hx 3 (by omega)
      have x4 : wr.cell? ⟨b, off + m * 5 + 4, none⟩ = some (.slice kA kids.length kc) := hx 4 (by omega)
      clear hx hcc em
      have hd0 : decide ((m : Int) ≥ 0) = true := by simp
      have hd1 : decide (0 ≤ (m : Int)) = true := by simp
      have q1 : (m : Int) < (ns.length : Int) := by omega
      simp only [NodeM.cells] at hy
      gi_wp2
      refine hR.mono ?_
      rintro e W3 (⟨rfl, hJ3, hk3⟩ | ⟨rfl, hJx3⟩)
      · gi_wp2
        go_roundw
        case rel => exact ⟨m, by omega, rfl, hJ3, hnx.trans hk3⟩
        case measure => simp [intOf]
      · gi_wp2
        refine bodyPost_ret (results_none rfl _ _ _) rfl ?_
        exact ⟨⟨_, rfl⟩, .inr ⟨_, ⟨ns.length - (m + 1), by omega, by rw [show ns.length - (m + 1) + 1 = ns.length - m from by omega]⟩, hJx3⟩⟩
end Go.Proofs.Ythofccoefiogiaa
