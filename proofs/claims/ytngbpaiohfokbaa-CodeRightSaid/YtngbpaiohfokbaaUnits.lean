/- pieces.Units, walked: by a range over marks. No condition. -/
import Derived.Test.YtngbpaiohfokbaaMarks
import Derived.Maps.AppendAt
namespace Go.Proofs.Ytngbpaiohfokbaa
open Go Go.RowKit Go.Shelf
set_option linter.unusedVariables false
set_option linter.unusedSimpArgs false
attribute [local go_sem] Oper.semAt_some
def stU (ps : List Nat) : List (Nat × Nat) × Nat := ps.foldl (fun s i => (s.1 ++ [(s.2, i + 1)], i + 1)) ([], 0)
theorem stU_snoc (ps : List Nat) (i : Nat) : stU (ps ++ [i]) = ((stU ps).1 ++ [((stU ps).2, i + 1)], i + 1) := by unfold stU; rw [List.foldl_append]; rfl
theorem fold_len (ps : List Nat) : ∀ s : List (Nat × Nat) × Nat, (ps.foldl (fun s i => (s.1 ++ [(s.2, i + 1)], i + 1)) s).1.length = s.1.length + ps.length := by
  induction ps with
  | nil => intro s; rfl
  | cons a l ih => intro s; rw [List.foldl_cons, ih]; simp; omega
theorem stU_len (ps : List Nat) : (stU ps).1.length = ps.length := by unfold stU; rw [fold_len]; simp
theorem stU_le (ps : List Nat) (h : ∀ p ∈ ps, p < 1000) : (stU ps).2 ≤ 1000 := by
  have : ∀ (l : List Nat) (s : List (Nat × Nat) × Nat), s.2 ≤ 1000 → (∀ p ∈ l, p < 1000) → (l.foldl (fun s i => (s.1 ++ [(s.2, i + 1)], i + 1)) s).2 ≤ 1000 := by
    intro l
    induction l with
    | nil => intro s hs _; exact hs
    | cons a l ih => intro s _ hl; rw [List.foldl_cons]; exact ih _ (by have := hl a (by simp); simp only; omega) (fun p hp => hl p (by simp [hp]))
  exact this ps ([], 0) (by simp) h
abbrev posOf (pre : List (Nat × Fin 1000)) : List Nat := pre.map fun x => x.2.val
theorem posOf_lt (pre : List (Nat × Fin 1000)) : ∀ p ∈ posOf pre, p < 1000 := by
  intro p hp
  obtain ⟨x, _, rfl⟩ := List.mem_map.1 hp
  exact x.2.isLt
theorem posOf_snoc (pre : List (Nat × Fin 1000)) (x : Nat × Fin 1000) : posOf (pre ++ [x]) = posOf pre ++ [x.2.val] := by simp [posOf]
theorem cells_two (w : World) (t : TypeId) (x y : Value) : ∀ j u, [x, y][j]? = some u → (w.alloc (.cells #[x, y] t)).cell? ((⟨w.heap.size, 0, none⟩ : Addr).add j) = some u := by
  intro j u hu
  rw [addr_add, Nat.zero_add, (Blk.new w t #[x, y]).cell]
  simpa using hu
def ucells (l : List (Nat × Nat)) : List Value := l.flatMap fun u => [.int .i64 (u.1 : Int), .int .i64 (u.2 : Int)]
theorem ucells_snoc (l : List (Nat × Nat)) (a b : Nat) : ucells (l ++ [(a, b)]) = ucells l ++ [.int .i64 (a : Int), .int .i64 (b : Int)] := by unfold ucells; rw [List.flatMap_append]; rfl
theorem ucells_len (l : List (Nat × Nat)) : (ucells l).length = l.length * 2 := by
  induction l with
  | nil => rfl
  | cons u l ih => unfold ucells at *; simp only [List.flatMap_cons, List.length_append, List.length_cons, List.length_nil, ih]; omega
def unitsN (ops : List Int) (way : Int) : List (Nat × Nat) :=
  let s := if way = 1 then stU (posOf (pairsTo ops ops.length)) else ([], 0)
  if s.2 < ops.length then s.1 ++ [(s.2, ops.length)] else s.1
theorem infoUnit : (Try.prog.info? 33).map (fun i => (i.zero, i.size, i.bytes)) = some (some (.agg #[.int .i64 0, .int .i64 0]), 2, 16) := by kernel_rfl
set_option maxHeartbeats 4000000 in
theorem marks_in (F : Fence) (n : Nat) (h5 : F.fn 21) (hro : F.round = none) (A : Option Addr) (len cap : Nat) (w : World) :
    CallsIn F n Try.prog 21 #[.slice A len cap] w fun e w' => e = .returned (.func (.func 41) #[] #[.pointer (some ⟨w.heap.size, 0, none⟩)]) ∧ w' = w.alloc (.cells #[.slice A len cap] 22) := by
  refine callsIn_of_wp Try.func21 rfl h5 ?_ hro
  simp only [Try.ntmps21, List.size_toArray, List.length_cons, List.length_nil, Nat.reduceAdd, Nat.reduceSub, Array.replicate_succ, Array.replicate_zero, List.push_toArray, List.append_toArray, List.nil_append, List.cons_append]
  gi_wp2
  go_ret
  exact ⟨rfl, rfl⟩
theorem marks_stops (F : Fence) (n : Nat) (hf : F.fn 41) (hro : F.round = none) (hn : 1 ≤ n) (Bs n₀ : Nat) (A : Option Addr) (is : List InstrD) (cap : Nat) (hlen : is.length ≤ 1000) (hA : ∀ b off, A = some ⟨b, off, none⟩ → 0 < is.length → b < n₀) (w : World)
    (hBl : Bs < w.heap.size) (hn₀ : n₀ ≤ w.heap.size) (hBs : w.cell? ⟨Bs, 0, none⟩ = some (.slice A is.length cap)) (hc : Cells w A (icells is)) :
    SeqStopsK F n Try.prog 41 #[.pointer (some ⟨Bs, 0, none⟩)] encP (Below n₀) (fun ys => ys = pairsTo (opsOf is) is.length) (fun _ => True) is.length w := fun l J Jx W hW hJ _ hY h0 =>
  marks1_in F n hf hro hn l Bs n₀ A is cap hlen hA J Jx W hJ hY ((hW.cell (p := ⟨Bs, 0, none⟩) hBl).trans hBs) (hc.ext hW) (Nat.le_trans hn₀ hW.size) h0
set_option maxRecDepth 100000 in
set_option maxHeartbeats 4000000 in
theorem units_pieces (F : Fence) (n : Nat) (hf : F.fn 8) (hf1 : F.fn 21) (hf2 : F.fn 41) (hro : F.round = none) (hn : 3 ≤ n) (A : Option Addr) (is : List InstrD) (cap : Nat) (hlen : is.length ≤ 1000) (w : World) (hc : Cells w A (icells is)) :
    CallsIn F n Try.prog 8 #[.slice A is.length cap, .int .u8 1] w fun e w' => ∃ v, e = .returned v ∧ w'.ownsRow w.heap.size 33 2 v (unitsN (opsOf is) 1).length (ucells (unitsN (opsOf is) 1)) ∧ (v = .slice none 0 0 ↔ unitsN (opsOf is) 1 = []) ∧ Below w.heap.size w w' := by
  have h1 : 1 ≤ n := by omega
  have hA : ∀ b off, A = some ⟨b, off, none⟩ → 0 < is.length → b < w.heap.size := fun b off e h0 => cells_block hc (by rw [icells_len]; omega) b off e
  obtain ⟨i0, hi, hz0, hz1, hz2⟩ := info_parts infoUnit
  refine callsIn_of_wp_marks Try.func8 rfl hf ?_ hro
  simp only [Try.ntmps8, List.size_toArray, List.length_cons, List.length_nil, Nat.reduceAdd, Nat.reduceSub, Array.replicate_succ, Array.replicate_zero, List.push_toArray, List.append_toArray, List.nil_append, List.cons_append]
  gi_wp2_with (gi_at_call 21; refine (marks_in F (n - 1) hf1 hro _ _ _ _).mono ?_; rintro e w' ⟨rfl, rfl⟩)
  have bO := Boxed.new w 28 (.slice none 0 0)
  have bF := Boxed.new (w.alloc (.cells #[.slice none 0 0] 28)) 3 (.int .i64 0)
  rw [World.size_alloc] at bF
  have bN := Boxed.new ((w.alloc (.cells #[.slice none 0 0] 28)).alloc (.cells #[.int .i64 0] 3)) 22 (.slice A is.length cap)
  rw [World.size_alloc, World.size_alloc] at bN
  have hB0 : Below w.heap.size w (((w.alloc (.cells #[.slice none 0 0] 28)).alloc (.cells #[.int .i64 0] 3)).alloc (.cells #[.slice A is.length cap] 22)) := (((Below.refl _ w).alloc (Nat.le_refl _) _).alloc (by simp) _).alloc (by simp; omega) _
  have bO3 := (bO.alloc (.cells #[.int .i64 0] 3)).alloc (.cells #[.slice A is.length cap] 22)
  have bF3 := bF.alloc (.cells #[.slice A is.length cap] 22)
  refine wpIn_rangeFunc_ownG hro h1 (gf := 41) (lb := #[.pointer (some ⟨w.heap.size + 1 + 1, 0, none⟩)]) rfl hf2 (enters_of Try.func41 (by kernel_rfl) rfl)
    (marks_stops F (n - 1) hf2 hro (by omega) (w.heap.size + 1 + 1) w.heap.size A is cap hlen hA _ (by simp) (by simp; omega) bN.cell (hc.ext hB0)) belowK_t (belowK_b (by simp; omega)) (Below.refl _ _) (fun _ => rfl)
    (fun pre W => (∃ v, Boxed W w.heap.size 28 v ∧ W.ownsRow w.heap.size 33 2 v (stU (posOf pre)).1.length (ucells (stU (posOf pre)).1) ∧ (v = .slice none 0 0 ↔ (stU (posOf pre)).1 = [])) ∧ Boxed W (w.heap.size + 1) 3 (.int .i64 ((stU (posOf pre)).2 : Int)) ∧ Below w.heap.size w W)
    (fun _ _ _ => False)
    (OwnFrom.and (Own.from (holdsRow_own w.heap.size w.heap.size 28 33 2 (fun pre => (stU (posOf pre)).1.length) (fun pre => ucells (stU (posOf pre)).1) (fun pre v => v = .slice none 0 0 ↔ (stU (posOf pre)).1 = [])) _)
      (OwnFrom.and (Own.from (boxed_own (w.heap.size + 1) 3 (fun pre => .int .i64 ((stU (posOf pre)).2 : Int))) _) (ownFrom_below (Nat.le_refl _) (by simp; omega))))
    (fun _ _ _ _ _ hs _ _ => hs)
    ⟨⟨_, bO3, World.ownsRow_nil _ _ _ _, by simp [stU, posOf]⟩, bF3, hB0⟩
    (fun x => { tmps := #[.slice A is.length cap, .int .u8 1, undef, undef, .slice none 0 0, .pointer (some ⟨w.heap.size, 0, none⟩), .pointer (some ⟨w.heap.size + 1, 0, none⟩), undef, .int .i64 (x.2.val : Int), .int .u8 1, .bool true, .slice A is.length cap, .func (.func 41) #[] #[.pointer (some ⟨w.heap.size + 1 + 1, 0, none⟩)], .int .i64 (x.1 : Int), .int .i64 (x.2.val : Int), undef, undef, undef, undef, undef, undef, undef, undef, undef, undef, undef, undef, undef, undef, undef, undef, undef, undef, undef, undef, undef], defers := [] }) ?assign ?body ?done ?stop
  case assign =>
    intro l x W K hK
    unfold encP
    gi_wp2
    exact hK
  case body =>
    rintro l pre ⟨m, i, hi'⟩ W ⟨⟨v, hv, hrow, hnil⟩, hfr, hB⟩ hlt
    have hc1 := hv.cell
    have hf1 := hfr.cell
    have hpl : (stU (posOf pre)).1.length = pre.length := by rw [stU_len]; simp [posOf]
    have hple : (stU (posOf pre)).1.length ≤ 1000 := by omega
    clear hpl
    have hpp := posOf_snoc pre (m, ⟨i, hi'⟩)
    have hst := stU_snoc (posOf pre) i
    dsimp only at hpp
    rw [← hpp] at hst
    have HST := Lib.hid hst
    clear hst hpp
    have hq : IntKind.i64.wrap ((i : Int) + 1) = (i : Int) + 1 := by rw [IntKind.wrap_i64]; omega
    dsimp only
    gi_wp2_with (gi_at_builtin; refine wpListIn_append_own _ rfl _ _ 28 rfl w.heap.size 33 i0 (.agg #[.int .i64 0, .int .i64 0]) 2 16 Try.underlying28 hi hz0 hz1 hz2 rfl (by decide) _ _ _ rfl (hrow.alloc _) ⟨W.heap.size, 0, none⟩ 1 1 [.int .i64 ((stU (posOf pre)).2 : Int), .int .i64 ((i : Int) + 1)] rfl rfl (cells_two _ _ _ _) (by simp [Value.oneCell']) (by unfold maxLen; omega) (by omega) (by have := hB.size; simp; omega) ?_; intro v' w1 hown' hgrow _; obtain ⟨g', cap', rfl⟩ := ownsRow_succ hown'; obtain ⟨hv1, hv2, hr2, hk2, hb2⟩ := hv.appended (by decide) hrow hB.size (Nat.le_refl _) hown' hgrow; have hc1 := hv1.cell; have hf1 := hv1.frozen; have hfr2 := ((hfr.alloc _).kept hgrow (hfr.not_row (by decide) hrow)).other (B' := w.heap.size) (by omega) (Value.slice (some ⟨g', 0, none⟩) ((stU (posOf pre)).1.length + 1) cap'); have hff := hfr2.frozen; have hfc := hfr2.cell)
    have hu : ((i + 1 : Nat) : Int) = (i : Int) + 1 := by omega
    refine ⟨(hk2.trans (KeepsOthers.setCell _ _ _)).from _, hb2.setCell (p := ⟨w.heap.size + 1, 0, none⟩) (by show w.heap.size ≤ w.heap.size + 1; omega) _, ⟨_, hv2.other (by omega) _, ?_, ?_⟩, ?_, hB.trans (hb2.setCell (p := ⟨w.heap.size + 1, 0, none⟩) (by show w.heap.size ≤ w.heap.size + 1; omega) _)⟩
    · rw [HST.out, ucells_snoc, hu, List.length_append]
      exact hr2.kept (grownBy_setCell' _ (w.heap.size + 1) _) (.inr (hfr2.not_row (by decide) hr2).symm)
    · rw [HST.out]; simp
    · rw [HST.out, hu]
      exact hfr2.set _
  case done =>
    rintro D ys W hD rfl ⟨⟨v, hv, hrow, hnil⟩, hfr, hB⟩ hK
    have hlen' : (opsOf is).length = is.length := by simp [opsOf]
    have hle2 := stU_le (posOf (pairsTo (opsOf is) is.length)) (posOf_lt _)
    have hpl : (stU (posOf (pairsTo (opsOf is) is.length))).1.length ≤ 1000 := by
      rw [stU_len]
      have := pairsTo_len (opsOf is) is.length
      simp [posOf]; omega
    have HN : Hid (unitsN (opsOf is) 1 = if (stU (posOf (pairsTo (opsOf is) is.length))).2 < is.length then (stU (posOf (pairsTo (opsOf is) is.length))).1 ++ [((stU (posOf (pairsTo (opsOf is) is.length))).2, is.length)] else (stU (posOf (pairsTo (opsOf is) is.length))).1) := Lib.hid (by unfold unitsN; rw [hlen']; rfl)
    generalize stU (posOf (pairsTo (opsOf is) is.length)) = us at *
    obtain ⟨us, q⟩ := us
    dsimp only at *
    have hc1 := hv.cell
    have hf1 := hfr.cell
    have HNIL := Lib.hid hnil
    clear hnil hlen'
    by_cases hs : q < is.length
    · have e1 : decide ((q : Int) < (is.length : Int)) = true := by simp; exact hs
      have HN1 := HN.out
      rw [if_pos hs] at HN1
      have HN2 := Lib.hid HN1
      clear HN1 HN
      gi_wp2_with (gi_at_builtin; refine wpListIn_append_own _ rfl _ _ 28 rfl w.heap.size 33 i0 (.agg #[.int .i64 0, .int .i64 0]) 2 16 Try.underlying28 hi hz0 hz1 hz2 rfl (by decide) _ _ _ rfl (hrow.alloc _) ⟨W.heap.size, 0, none⟩ 1 1 [.int .i64 (q : Int), .int .i64 (is.length : Int)] rfl rfl (cells_two _ _ _ _) (by simp [Value.oneCell']) (by unfold maxLen; omega) (by omega) (by have := hB.size; simp; omega) ?_; intro v' w1 hown' hgrow _; obtain ⟨g', cap', rfl⟩ := ownsRow_succ hown'; obtain ⟨hv1, hv2, hr2, hk2, hb2⟩ := hv.appended (by decide) hrow hB.size (Nat.le_refl _) hown' hgrow; have hc1 := hv1.cell; have hf1 := hv1.frozen; have hc2 := hv2.cell)
      refine ⟨by simp, .inl ⟨_, _, rfl, run_takeDeferred (hk2.same D _ hK rfl), ?_⟩⟩
      refine ⟨_, results_tmp rfl _ _ _, _, rfl, ?_, ?_, ?_⟩
      · rw [HN2.out, ucells_snoc, List.length_append]
        exact ownsRow_putObj hr2 _ (hk2.same D _ hK rfl) rfl
      · rw [HN2.out]; simp
      · exact (hB.trans hb2).trans (belowK_b (w := w) (Nat.le_refl _) _ D _ _ (by simp at hD; omega) (hk2.same D _ hK rfl) rfl rfl)
    · have e1 : decide ((q : Int) < (is.length : Int)) = false := by simp; omega
      have HN1 := HN.out
      rw [if_neg hs] at HN1
      have HN2 := Lib.hid HN1
      clear HN1 HN
      gi_wp2
      refine ⟨by simp, .inl ⟨_, _, rfl, run_takeDeferred hK, ?_⟩⟩
      refine ⟨_, results_tmp rfl _ _ _, v, rfl, ?_, ?_, ?_⟩
      · rw [HN2.out]; exact ownsRow_putObj hrow _ hK rfl
      · rw [HN2.out]; exact HNIL.out
      · exact hB.trans (belowK_b (w := w) (Nat.le_refl _) W D _ _ (by simp at hD; omega) hK rfl rfl)
  case stop =>
    rintro D c pre W _ _ h _
    exact h.elim
end Go.Proofs.Ytngbpaiohfokbaa
