/- tree.Find, walked: the range over slices.Backward. -/
import Derived.Test.YthofccoefiogiaaTFind
namespace Go.Proofs.Ythofccoefiogiaa
open Go Go.RowKit Go.Shelf
set_option linter.unusedVariables false
set_option linter.unusedSimpArgs false
attribute [local go_sem] Oper.semAt_some
set_option maxHeartbeats 4000000 in
theorem back_in (F : Fence) (n : Nat) (h5 : F.fn 77) (hro : F.round = none) (A : Option Addr) (len cap : Nat) (w : World) :
    CallsIn F n Try.prog 77 #[.slice A len cap] w fun e w' => e = .returned (.func (.func 107) #[] #[.pointer (some ⟨w.heap.size, 0, none⟩)]) ∧ w' = w.alloc (.cells #[.slice A len cap] 60) := by
  refine callsIn_of_wp Try.func77 rfl h5 ?_ hro
  simp only [Try.ntmps77, List.size_toArray, List.length_cons, List.length_nil, Nat.reduceAdd, Nat.reduceSub, Array.replicate_succ, Array.replicate_zero, List.push_toArray, List.append_toArray, List.nil_append, List.cons_append]
  gi_wp2
  go_ret
  exact ⟨rfl, rfl⟩
theorem back_stops (F : Fence) (n : Nat) (hf : F.fn 107) (hro : F.round = none) (hn : 1 ≤ n) (Bs : Nat) (A : Option Addr) (ns : List NodeM) (cap : Nat) (hlen : ns.length ≤ 1000) (w : World)
    (hA : ∀ b off, A = some ⟨b, off, none⟩ → 0 < ns.length → b < w.heap.size) (hBl : Bs < w.heap.size) (hBs : w.cell? ⟨Bs, 0, none⟩ = some (.slice A ns.length cap)) (hc : Cells w A (trcells ns)) :
    SeqStopsK F n Try.prog 107 #[.pointer (some ⟨Bs, 0, none⟩)] (encB ns) (Below w.heap.size) (fun ys => ys = idxs ns.length ns.length) (fun pre => ∃ k, k < ns.length ∧ pre = idxs ns.length (k + 1)) ns.length w := fun l J Jx W hW hJ _ hY h0 =>
  back1_in F n hf hro hn l Bs w.heap.size A ns cap hlen hA J Jx W hJ hY ((hW.cell (p := ⟨Bs, 0, none⟩) hBl).trans hBs) hBl (hc.ext hW) hW.size h0
theorem idxs_last (n k : Nat) : idxs n (k + 1) = idxs n k ++ [n - 1 - k] := rfl
theorem cells_block' {w : World} {A : Option Addr} {cs : List Value} (h : Cells w A cs) (hn : 0 < cs.length) : ∀ b off, A = some ⟨b, off, none⟩ → b < w.heap.size := by
  intro b off e
  obtain ⟨b', off', h1, h2, _⟩ := h.at_ hn
  rw [h1] at e
  injection e with e
  injection e with e
  subst e
  exact h2
set_option maxRecDepth 100000 in
set_option maxHeartbeats 8000000 in
theorem tfind_in (F : Fence) (n : Nat) (hf : F.fn 40) (hf1 : F.fn 77) (hf2 : F.fn 107) (hro : F.round = none) (hn : 3 ≤ n) (ns : List NodeM) (A : Option Addr) (cap : Nat) (q : Int) (w : World) (hc : Cells w A (trcells ns)) (hlen : ns.length ≤ 1000) :
    CallsIn F n Try.prog 40 #[.agg #[.slice A ns.length cap], .int .i64 q] w fun e w' => e = .returned (.int .i64 (findM ns q)) ∧ Below w.heap.size w w' := by
  have h1 : 1 ≤ n := by omega
  refine callsIn_of_wp_marks Try.func40 rfl hf ?_ hro
  simp only [Try.ntmps40, List.size_toArray, List.length_cons, List.length_nil, Nat.reduceAdd, Nat.reduceSub, Array.replicate_succ, Array.replicate_zero, List.push_toArray, List.append_toArray, List.nil_append, List.cons_append]
  have bT := ((Boxed.new w 62 (.slice A ns.length cap)).alloc (.cells #[.int .i64 q] 3)).alloc (.cells #[.int .i64 0] 3)
  have cT := bT.cell
  gi_wp2_with (gi_at_call 77; refine (back_in F (n - 1) hf1 hro _ _ _ _).mono ?_; rintro e w' ⟨rfl, rfl⟩)
  obtain ⟨W0, hW0⟩ : ∃ W0, (((w.alloc (.cells #[.slice A ns.length cap] 62)).alloc (.cells #[.int .i64 q] 3)).alloc (.cells #[.int .i64 0] 3)).alloc (.cells #[.slice A ns.length cap] 60) = W0 := ⟨_, rfl⟩
  have hs0 : W0.heap.size = w.heap.size + 4 := by rw [← hW0]; simp
  have bP : Boxed W0 (w.heap.size + 1) 3 (.int .i64 q) := by
    rw [← hW0]
    have := ((Boxed.new (w.alloc (.cells #[.slice A ns.length cap] 62)) 3 (.int .i64 q)).alloc (.cells #[.int .i64 0] 3)).alloc (.cells #[.slice A ns.length cap] 60)
    rwa [World.size_alloc] at this
  have bR : Boxed W0 (w.heap.size + 1 + 1) 3 (.int .i64 0) := by
    rw [← hW0]
    have := (Boxed.new ((w.alloc (.cells #[.slice A ns.length cap] 62)).alloc (.cells #[.int .i64 q] 3)) 3 (.int .i64 0)).alloc (.cells #[.slice A ns.length cap] 60)
    rwa [World.size_alloc, World.size_alloc] at this
  have bN : Boxed W0 (w.heap.size + 1 + 1 + 1) 60 (.slice A ns.length cap) := by
    rw [← hW0]
    have := Boxed.new (((w.alloc (.cells #[.slice A ns.length cap] 62)).alloc (.cells #[.int .i64 q] 3)).alloc (.cells #[.int .i64 0] 3)) 60 (.slice A ns.length cap)
    rwa [World.size_alloc, World.size_alloc, World.size_alloc] at this
  have hBW : Below w.heap.size w W0 := by rw [← hW0]; exact ((((Below.refl _ w).alloc (Nat.le_refl _) _).alloc (by simp) _).alloc (by simp; omega) _).alloc (by simp; omega) _
  clear bT cT
  rw [hW0]
  have hc0 : Cells W0 A (trcells ns) := hc.ext hBW
  have hA : ∀ b off, A = some ⟨b, off, none⟩ → 0 < ns.length → b < W0.heap.size := fun b off e h0 => cells_block' hc0 (by rw [trcells_len]; omega) b off e
  refine wpIn_rangeFunc_ownH hro h1 (gf := 107) (lb := #[.pointer (some ⟨w.heap.size + 1 + 1 + 1, 0, none⟩)]) rfl hf2 (enters_of Try.func107 (by kernel_rfl) rfl)
    (back_stops F (n - 1) hf2 hro (by omega) (w.heap.size + 1 + 1 + 1) A ns cap hlen W0 hA (by omega) bN.cell hc0) belowK_t (belowK_b (Nat.le_refl _)) (Below.refl _ _) (fun _ => rfl)
    (fun pre W => (∀ y ∈ pre, posAt ns y ≠ q) ∧ Below W0.heap.size W0 W)
    (fun c pre W => ((c = .ret ∧ ∃ pre' x, pre = pre' ++ [x] ∧ (∀ y ∈ pre', posAt ns y ≠ q) ∧ posAt ns x = q) ∧ Boxed W (w.heap.size + 1 + 1) 3 (.int .i64 ((pre.getLastD 0 : Nat) : Int))) ∧ Below w.heap.size w W)
    (OwnFrom.and (ownFrom_pure _ _) (ownFrom_below (Nat.le_refl _) (Nat.le_refl _)))
    (fun c => OwnFrom.and (OwnFrom.and (ownFrom_pure _ _) (Own.from (boxed_own (w.heap.size + 1 + 1) 3 (fun pre : List Nat => .int .i64 ((pre.getLastD 0 : Nat) : Int))) _)) (ownFrom_below (Nat.le_refl _) (by omega)))
    ⟨by simp, Below.refl _ _⟩
    (fun x a' W => ∃ (g : Nat) (v : Value), a' = { tmps := #[.agg #[.slice A ns.length cap], .int .i64 q, .pointer (some ⟨w.heap.size, 0, none⟩), .pointer (some ⟨w.heap.size + 1, 0, none⟩), .pointer (some ⟨w.heap.size + 1 + 1, 0, none⟩), .int .i64 (x : Int), .pointer (some ⟨g, 0, none⟩), .pointer (some ⟨w.heap.size, 0, none⟩), .slice A ns.length cap, .func (.func 107) #[] #[.pointer (some ⟨w.heap.size + 1 + 1 + 1, 0, none⟩)], .int .i64 (x : Int), v, undef, undef, undef, undef, undef], defers := [] } ∧ W.cell? ⟨g, 1, none⟩ = some (.int .i64 (posAt ns x)))
    (fun x a' => Own.from (fun s A B row hs hg hr => by obtain ⟨g, v, e1, e2⟩ := hs; exact ⟨g, v, e1, cell_kept e2 hg hr⟩) _) ?assign ?body ?done ?stop
  case assign =>
    rintro l pre x W K ⟨hp, hB⟩ hK
    obtain ⟨y, hy⟩ : ∃ y, ns.getD x dfN = y := ⟨_, rfl⟩
    have hpy : posAt ns x = y.pos := by unfold posAt; rw [hy]
    unfold encB
    rw [hy]
    clear hy
    obtain ⟨kind, pos, text, num, kA, kc, kids⟩ := y
    simp only at hpy
    simp only [NodeM.cells]
    have hn1 := (Blk.new W 73 #[.int .u8 kind, .int .i64 pos, .string text, .int .i64 num, .slice kA kids.length kc]).cell 1
    have hB1 := hB.alloc hB.size (.cells #[.int .u8 kind, .int .i64 pos, .string text, .int .i64 num, .slice kA kids.length kc] 73)
    gi_wp2
    refine hK _ _ ((KeepsOthers.alloc _ _).from _) ((Below.refl _ _).alloc hB.size _) ⟨hp, hB1⟩ ⟨W.heap.size, _, rfl, ?_⟩
    rw [hpy]; exact hn1
  case body =>
    rintro l pre x a' W hl hrec ⟨hp, hB⟩ ⟨g, v, rfl, hcell⟩ hlt
    have hbp : Boxed W (w.heap.size + 1) 3 (.int .i64 q) := (hB.block _ (by omega)).trans bP
    have hbr : Boxed W (w.heap.size + 1 + 1) 3 (.int .i64 0) := (hB.block _ (by omega)).trans bR
    have hBw : Below w.heap.size w W := Below.trans hBW (Below.mono hB hBW.size)
    have cp := hbp.cell
    have cr := hbr.cell
    have fr := hbr.frozen
    obtain ⟨pos, hpos⟩ : ∃ pos, posAt ns x = pos := ⟨_, rfl⟩
    rw [hpos] at hcell
    by_cases hq : pos = q
    · have e1 : (pos == q) = true := by rw [hq]; simp
      gi_wp2
      refine ⟨(KeepsOthers.setCell _ _ _).from _, ⟨⟨rfl, pre, x, rfl, hp, by rw [hpos]; exact hq⟩, ?_⟩, hBw.setCell (p := ⟨w.heap.size + 1 + 1, 0, none⟩) (by show w.heap.size ≤ w.heap.size + 1 + 1; omega) _⟩
      have := hbr.set (.int .i64 (x : Int))
      simpa using this
    · have e1 : (pos == q) = false := beq_eq_false_iff_ne.2 hq
      gi_wp2
      exact ⟨KeepsFrom.refl _ _, Below.refl _ _, fun y hy => (List.mem_append.1 hy).elim (hp y) (fun e => by rw [List.mem_singleton.1 e, hpos]; exact hq), hB⟩
  case done =>
    rintro D ys W hD rfl ⟨hp, hB⟩ hK
    have hbp : Boxed W (w.heap.size + 1) 3 (.int .i64 q) := (hB.block _ (by omega)).trans bP
    have hbr : Boxed W (w.heap.size + 1 + 1) 3 (.int .i64 0) := (hB.block _ (by omega)).trans bR
    have hBw : Below w.heap.size w W := Below.trans hBW (Below.mono hB hBW.size)
    have cr := hbr.cell
    have fr := hbr.frozen
    gi_wp2
    have hK' := (KeepsOthers.setCell W ⟨w.heap.size + 1 + 1, 0, none⟩ (.int .i64 (-1))).same D _ hK rfl
    refine ⟨by simp, .inl ⟨_, _, rfl, run_takeDeferred hK', ?_⟩⟩
    have hc5 := cell_kept (hbr.set (.int .i64 (-1))).cell (grownBy_putObj' _ D (.deferred none)) (fun r e => by cases e; exact ⟨_, hK', rfl⟩)
    refine ⟨.int .i64 (-1), ?_, by rw [findM_none hp], (hBw.setCell (p := ⟨w.heap.size + 1 + 1, 0, none⟩) (by show w.heap.size ≤ w.heap.size + 1 + 1; omega) _).trans (belowK_b (w := w) (Nat.le_refl _) _ D _ _ (by omega) hK' rfl rfl)⟩
    simp [results, Try.f40, go_sem, hc5]
  case stop =>
    rintro D c pre W hD ⟨k, hk, hpre⟩ ⟨⟨⟨rfl, pre', x, hpx, hne, hxq⟩, hbr⟩, hB⟩ hK
    have hlast : pre' = idxs ns.length k ∧ x = ns.length - 1 - k := by
      rw [hpx, idxs_last] at hpre
      have := List.append_inj' hpre rfl
      exact ⟨this.1, by simpa using this.2⟩
    obtain ⟨rfl, rfl⟩ := hlast
    have hfs := findM_some k hk hne hxq
    rw [hpx] at hbr
    simp only [List.getLastD_concat] at hbr
    gi_wp2
    refine ⟨by simp, .inl ⟨_, _, rfl, run_takeDeferred hK, ?_⟩⟩
    have hc5 := cell_kept hbr.cell (grownBy_putObj' _ D (.deferred none)) (fun r e => by cases e; exact ⟨_, hK, rfl⟩)
    refine ⟨.int .i64 ((ns.length - 1 - k : Nat) : Int), ?_, by rw [hfs], hB.trans (belowK_b (w := w) (Nat.le_refl _) W D _ _ (by omega) hK rfl rfl)⟩
    simp [results, Try.f40, go_sem, hc5]
theorem tfind_any (ns : List NodeM) (A : Option Addr) (n cap : Nat) (q : Int) (w : World) (hn : n = ns.length) (ht : TreeM w A ns) (hlen : ns.length ≤ 1000) (r : Int) (hr : Hid (findM ns q = r)) :
    Calls Try.prog 40 #[.agg #[.slice A n cap], .int .i64 q] w fun e w' => e = .returned (.int .i64 r) ∧ Ext w w' := by
  subst hn
  rw [← hr.out]
  exact (callsIn_wide (n := 9)).1 (tfind_in Fence.wide 9 trivial trivial trivial rfl (by omega) ns A cap q w ht.cells hlen)
end Go.Proofs.Ythofccoefiogiaa
