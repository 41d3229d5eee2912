/- pieces.Without, walked, for instructions that have no key and no values. -/
import Derived.Test.YtngbpaiohfokbaaBS
namespace Go.Proofs.Ytngbpaiohfokbaa
open Go Go.RowKit Go.Shelf
set_option linter.unusedVariables false
set_option linter.unusedSimpArgs false
attribute [local go_sem] Oper.semAt_some
def goneOf (ds : List Int) (pre : List (Nat × Fin 1000)) : List Int := (pre.filter fun x => decide ((x.1 : Int) ∈ ds)).map fun x => (x.2.val : Int)
theorem goneOf_hit (ds : List Int) (pre : List (Nat × Fin 1000)) (x : Nat × Fin 1000) (h : decide ((x.1 : Int) ∈ ds) = true) : goneOf ds (pre ++ [x]) = goneOf ds pre ++ [(x.2.val : Int)] := by
  unfold goneOf; rw [List.filter_append, List.map_append]; simp only [List.filter_cons, List.filter_nil, h, if_true, List.map_cons, List.map_nil]
theorem goneOf_miss (ds : List Int) (pre : List (Nat × Fin 1000)) (x : Nat × Fin 1000) (h : decide ((x.1 : Int) ∈ ds) = false) : goneOf ds (pre ++ [x]) = goneOf ds pre := by
  unfold goneOf; rw [List.filter_append, List.map_append]; simp only [List.filter_cons, List.filter_nil, h, Bool.false_eq_true, if_false, List.map_nil, List.append_nil]
theorem goneOf_len (ds : List Int) (pre : List (Nat × Fin 1000)) : (goneOf ds pre).length ≤ pre.length := by unfold goneOf; rw [List.length_map]; exact List.length_filter_le _ _
theorem pairsTo_lt (ops : List Int) (k : Nat) (hk : k ≤ 1000) : ∀ x ∈ pairsTo ops k, x.2.val < k := by
  induction k with
  | zero => intro x hx; simp [pairsTo] at hx
  | succ k ih =>
    intro x hx
    unfold pairsTo at hx
    split at hx
    · rcases List.mem_append.1 hx with h | h
      · have := ih (by omega) x h; omega
      · have := List.mem_singleton.1 h
        subst this
        show k % 1000 < k + 1
        rw [Nat.mod_eq_of_lt (by omega)]; omega
    · have := ih (by omega) x hx; omega
theorem pairsTo_rise (ops : List Int) (k : Nat) (hk : k ≤ 1000) : (pairsTo ops k).Pairwise fun x y => x.2.val < y.2.val := by
  induction k with
  | zero => simp [pairsTo]
  | succ k ih =>
    unfold pairsTo
    split
    · rw [List.pairwise_append]
      refine ⟨ih (by omega), by simp, fun a ha b hb => ?_⟩
      have := List.mem_singleton.1 hb
      subst this
      have := pairsTo_lt ops k (by omega) a ha
      show a.2.val < k % 1000
      rw [Nat.mod_eq_of_lt (by omega)]; exact this
    · exact ih (by omega)
theorem goneOf_rise (ds : List Int) (ops : List Int) (k : Nat) (hk : k ≤ 1000) : (goneOf ds (pairsTo ops k)).Pairwise (· < ·) := by
  unfold goneOf
  rw [List.pairwise_map]
  exact ((pairsTo_rise ops k hk).filter _).imp (fun h => by omega)
theorem cells_one (w : World) (t : TypeId) (x : Value) : ∀ j u, [x][j]? = some u → (w.alloc (.cells #[x] t)).cell? ((⟨w.heap.size, 0, none⟩ : Addr).add j) = some u := by
  intro j u hu
  rw [addr_add, Nat.zero_add, (Blk.new w t #[x]).cell]
  simpa using hu
theorem infoInt : (Try.prog.info? 3).map (fun i => (i.zero, i.size, i.bytes)) = some (some (.int .i64 0), 1, 8) := by kernel_rfl
theorem infoInstr : (Try.prog.info? 49).map (fun i => (i.zero, i.size, i.bytes)) = some (some (.agg #[.int .u8 0, .int .i64 0, .int .u8 0, .int .i64 0, .bool false, .int .i64 0, .int .i64 0, .int .i64 0, .bool false, .int .i64 0, .int .i64 0, .slice none 0 0, .slice none 0 0]), 13, 136) := by kernel_rfl
theorem own_low {w : World} {base base' : Nat} {e : TypeId} {size : Nat} {v : Value} {n : Nat} {xs : List Value} (h : w.ownsRow base e size v n xs) (hb : base' ≤ base) : w.ownsRow base' e size v n xs := by
  refine ⟨h.1, ?_⟩
  rcases h.2 with hn | ⟨g, cap, cur, hv, hg, r⟩
  · exact .inl hn
  · exact .inr ⟨g, cap, cur, hv, Nat.le_trans hb hg, r⟩
def fixI (gone : List Int) (x : InstrD) : InstrD := { x with goes := x.goes - (lbN x.goes gone : Int) }
def outTo (gone : List Int) (is : List InstrD) : Nat → List InstrD
  | 0 => []
  | k + 1 => match is[k]? with
    | none => outTo gone is k
    | some x => if (k : Int) ∈ gone then outTo gone is k else outTo gone is k ++ [fixI gone x]
theorem outTo_len (gone : List Int) (is : List InstrD) (k : Nat) : (outTo gone is k).length ≤ k := by
  induction k with
  | zero => simp [outTo]
  | succ k ih =>
    unfold outTo
    split
    · omega
    · split
      · omega
      · simp; omega
theorem cells_some (w : World) (t : TypeId) (cs : Array Value) : ∀ j u, cs.toList[j]? = some u → (w.alloc (.cells cs t)).cell? ((⟨w.heap.size, 0, none⟩ : Addr).add j) = some u := by
  intro j u hu
  rw [addr_add, Nat.zero_add, (Blk.new w t cs).cell]
  simpa using hu
theorem goneOf_pos (ds : List Int) (pre : List (Nat × Fin 1000)) : ∀ y ∈ goneOf ds pre, 0 ≤ y := by
  intro y hy
  unfold goneOf at hy
  obtain ⟨x, _, rfl⟩ := List.mem_map.1 hy
  exact Int.natCast_nonneg _
theorem lbN_le (x : Int) (l : List Int) : lbN x l ≤ l.length := List.length_filter_le _ _
theorem lbN_low (x : Int) (l : List Int) (h : ∀ y ∈ l, 0 ≤ y) (hx : x ≤ 0) : lbN x l = 0 := by
  unfold lbN
  have : l.filter (fun y => decide (y < x)) = [] := by
    rw [List.filter_eq_nil_iff]
    intro y hy
    have := h y hy
    simp; omega
  rw [this]; rfl
def bareI (x : InstrD) : Prop := x.key = (none, 0, 0) ∧ x.vals = (none, 0, 0)
set_option maxRecDepth 100000 in
set_option maxHeartbeats 8000000 in
theorem without_in (n : Nat) (hn : 3 ≤ n) (A D : Option Addr) (is : List InstrD) (ds : List Int) (cap dc : Nat) (hlen : is.length ≤ 1000) (hdl : ds.length ≤ 1000) (w : World) (hc : Cells w A (icells is)) (hd : Cells w D (ncells ds)) (hbare : ∀ x ∈ is, bareI x) (hok : ∀ x ∈ is, x.ok) (gone : List Int) (hgone : Hid (goneOf ds (pairsTo (opsOf is) is.length) = gone)) :
    CallsIn Fence.wide n Try.prog 13 #[.slice A is.length cap, .slice D ds.length dc] w fun e w' => ∃ v, e = .returned v ∧ w'.ownsRow w.heap.size 49 13 v (outTo gone is is.length).length (icells (outTo gone is is.length)) ∧ Below w.heap.size w w' := by
  have h1 : 1 ≤ n := by omega
  have hA : ∀ b off, A = some ⟨b, off, none⟩ → 0 < is.length → b < w.heap.size := fun b off e h0 => cells_block hc (by rw [icells_len]; omega) b off e
  obtain ⟨i0, hi, hz0, hz1, hz2⟩ := info_parts infoInt
  obtain ⟨j0, hj, hjz0, hjz1, hjz2⟩ := info_parts infoInstr
  refine callsIn_of_wp_marks Try.func13 rfl trivial ?_ rfl
  simp only [Try.ntmps13, List.size_toArray, List.length_cons, List.length_nil, Nat.reduceAdd, Nat.reduceSub, Array.replicate_succ, Array.replicate_zero, List.push_toArray, List.append_toArray, List.nil_append, List.cons_append]
  gi_wp2_with (refine ⟨trivial, ?_⟩; gi_at_call 21; refine (marks_in Fence.wide (n - 1) trivial rfl _ _ _ _).mono ?_; rintro e w' ⟨rfl, rfl⟩)
  have bD := ((Boxed.new w 23 (.slice D ds.length dc)).alloc (.cells #[.slice none 0 0] 23)).alloc (.cells #[.slice A is.length cap] 22)
  have bG := Boxed.new (w.alloc (.cells #[.slice D ds.length dc] 23)) 23 (.slice none 0 0)
  rw [World.size_alloc] at bG
  have bG3 := bG.alloc (.cells #[.slice A is.length cap] 22)
  have bN := Boxed.new ((w.alloc (.cells #[.slice D ds.length dc] 23)).alloc (.cells #[.slice none 0 0] 23)) 22 (.slice A is.length cap)
  rw [World.size_alloc, World.size_alloc] at bN
  have hB0 : Below w.heap.size w (((w.alloc (.cells #[.slice D ds.length dc] 23)).alloc (.cells #[.slice none 0 0] 23)).alloc (.cells #[.slice A is.length cap] 22)) := (((Below.refl _ w).alloc (Nat.le_refl _) _).alloc (by simp) _).alloc (by simp; omega) _
  refine wpIn_rangeFunc_ownG (F := Fence.wide) rfl h1 (gf := 41) (lb := #[.pointer (some ⟨w.heap.size + 1 + 1, 0, none⟩)]) rfl trivial (enters_of Try.func41 (by kernel_rfl) rfl)
    (marks_stops Fence.wide (n - 1) trivial rfl (by omega) (w.heap.size + 1 + 1) w.heap.size A is cap hlen hA _ (by simp) (by simp; omega) bN.cell (hc.ext hB0)) belowK_t (belowK_b (by simp; omega)) (Below.refl _ _) (fun _ => rfl)
    (fun pre W => (∃ v, Boxed W (w.heap.size + 1) 23 v ∧ W.ownsRow w.heap.size 3 1 v (goneOf ds pre).length (ncells (goneOf ds pre)) ∧ (v = .slice none 0 0 ↔ goneOf ds pre = [])) ∧ Boxed W w.heap.size 23 (.slice D ds.length dc) ∧ Below w.heap.size w W)
    (fun _ _ _ => False)
    (OwnFrom.and (Own.from (holdsRow_own w.heap.size (w.heap.size + 1) 23 3 1 (fun pre => (goneOf ds pre).length) (fun pre => ncells (goneOf ds pre)) (fun pre v => v = .slice none 0 0 ↔ goneOf ds pre = [])) _)
      (OwnFrom.and (Own.from (boxed_own w.heap.size 23 (fun _ => .slice D ds.length dc)) _) (ownFrom_below (Nat.le_refl _) (by simp; omega))))
    (fun _ _ _ _ _ hs _ _ => hs)
    ⟨⟨_, bG3, World.ownsRow_nil _ _ _ _, by simp [goneOf]⟩, bD, hB0⟩
    (fun x => { tmps := #[.slice A is.length cap, .slice D ds.length dc, undef, .pointer (some ⟨w.heap.size, 0, none⟩), .slice none 0 0, .pointer (some ⟨w.heap.size + 1, 0, none⟩), .int .i64 (x.1 : Int), .int .i64 (x.2.val : Int), undef, undef, undef, undef, undef, undef, undef, undef, undef, .slice A is.length cap, .func (.func 41) #[] #[.pointer (some ⟨w.heap.size + 1 + 1, 0, none⟩)], .int .i64 (x.1 : Int), .int .i64 (x.2.val : Int), undef, undef, undef, undef, undef, undef, undef, undef, undef, undef, undef, undef, undef, undef, undef, undef, undef, undef, undef, undef, undef, undef, undef, undef, undef, undef, undef, undef, undef, undef, undef, undef, undef, undef, undef, undef, undef, undef, undef, undef, undef, undef, undef, undef, undef, undef, undef, undef, undef, undef, undef, undef, undef, undef, undef, undef, undef, undef, undef, undef, undef, undef], defers := [] }) ?assign ?body ?done ?stop
  case assign =>
    intro l x W K hK
    unfold encP
    gi_wp2
    exact hK
  case body =>
    rintro l pre ⟨m, i, hi'⟩ W ⟨⟨v, hv, hrow, hnil⟩, hdr, hB⟩ hlt
    have hc1 := hv.cell
    have hf1 := hdr.cell
    have hgl := goneOf_len ds pre
    have hple : (goneOf ds pre).length ≤ 1000 := by omega
    have HD : Hid (Cells W D (ncells ds)) := Lib.hid (hd.ext hB)
    clear hgl
    dsimp only
    by_cases hin : (m : Int) ∈ ds
    · have HIT := Lib.hid (goneOf_hit ds pre (m, ⟨i, hi'⟩) (decide_eq_true hin))
      have HDI := Lib.hid (decide_eq_true hin)
      clear hin
      gi_wp2_with (first
        | (refine ⟨trivial, (fun h => by cases h), ?_⟩; gi_at_call 25; refine (CallsIn.inRound l (callsIn_wide.2 (contains_any D ds dc _ (by omega) W HD.out))).mono ?_; rintro e w1 ⟨rfl, rfl⟩; rw [HDI.out])
        | (gi_at_builtin; refine wpListIn_append_own _ rfl _ _ 23 rfl w.heap.size 3 i0 (.int .i64 0) 1 8 Try.underlying23 hi hz0 hz1 hz2 rfl (by decide) _ _ _ rfl (hrow.alloc _) ⟨W.heap.size, 0, none⟩ 1 1 [.int .i64 (i : Int)] rfl rfl (cells_one _ _ _) (by simp [Value.oneCell']) (by unfold maxLen; omega) (by omega) (by have := hB.size; simp; omega) ?_; intro v' w1 hown' hgrow _; obtain ⟨g', cap', rfl⟩ := ownsRow_succ hown'; obtain ⟨hv1, hv2, hr2, hk2, hb2⟩ := hv.appended (by decide) hrow hB.size (Nat.le_succ _) hown' hgrow; have hdr2 := ((hdr.alloc _).kept hgrow (hdr.not_row (by decide) hrow)).other (B' := w.heap.size + 1) (by omega) (Value.slice (some ⟨g', 0, none⟩) ((goneOf ds pre).length + 1) cap'); have hc1 := hv1.cell; have hf1 := hv1.frozen))
      refine ⟨hk2.from _, hb2, ⟨_, hv2, ?_, ?_⟩, hdr2, hB.trans hb2⟩
      · rw [HIT.out, List.length_append]
        have : ncells (goneOf ds pre ++ [(i : Int)]) = ncells (goneOf ds pre) ++ [.int .i64 (i : Int)] := by simp [ncells]
        rw [this]
        exact hr2
      · rw [HIT.out]; simp
    · have HIT := Lib.hid (goneOf_miss ds pre (m, ⟨i, hi'⟩) (decide_eq_false hin))
      have HDI := Lib.hid (decide_eq_false hin)
      clear hin
      gi_wp2_with (refine ⟨trivial, (fun h => by cases h), ?_⟩; gi_at_call 25; refine (CallsIn.inRound l (callsIn_wide.2 (contains_any D ds dc _ (by omega) W HD.out))).mono ?_; rintro e w1 ⟨rfl, rfl⟩; rw [HDI.out])
      exact ⟨KeepsFrom.refl _ _, Below.refl _ _, ⟨v, hv, by rw [HIT.out]; exact hrow, by rw [HIT.out]; exact hnil⟩, hdr, hB⟩
  case done =>
    rintro DD ys W hDD rfl ⟨⟨v, hv, hrow, hnil⟩, hdr, hB⟩ hK
    have hgl : (goneOf ds (pairsTo (opsOf is) is.length)).length ≤ 1000 := by
      have := goneOf_len ds (pairsTo (opsOf is) is.length)
      have := pairsTo_len (opsOf is) is.length
      omega
    have HRI := Lib.hid (goneOf_rise ds (opsOf is) is.length hlen)
    have HPO := Lib.hid (goneOf_pos ds (pairsTo (opsOf is) is.length))
    rw [hgone.out] at hgl HRI HPO hrow hnil
    obtain ⟨G, gc, rfl, hgz, hGC⟩ := row_cells hrow
    have HGC := Lib.hid hGC
    have HBX := Lib.hid hv
    have HBW := Lib.hid hB
    have HDK := Lib.hid hK
    have HAC := Lib.hid (hc.ext hB)
    have hWw : w.heap.size ≤ W.heap.size := hB.size
    have hbl : w.heap.size + 1 < W.heap.size := hv.lt
    clear hnil hrow hdr hgz hGC
    gi_wp2
    gi_loopw [8, 30] (fun out i wr => ∃ k : Nat, k ≤ is.length ∧ i = .int .i64 k ∧ wr.ownsRow W.heap.size 49 13 out (outTo gone is k).length (icells (outTo gone is k)) ∧ Below W.heap.size W wr) (fun _ i _ => is.length - (intOf i).toNat)
    case atStart => exact ⟨0, Nat.zero_le _, rfl, World.ownsRow_nil _ _ _ _, Below.refl _ _⟩
    case round =>
      obtain ⟨k, hk, rfl, hown, hnx⟩ := hrel
      by_cases hlt : k < is.length
      · obtain ⟨b, off, rfl, hb, hcc⟩ := HAC.out.at_ (by rw [icells_len]; omega)
        have hx : ∀ j, j < 13 → wr.cell? ⟨b, off + k * 13 + j, none⟩ = (is[k].cells)[j]? := fun j hj => by
          rw [hnx.cell (p := ⟨b, off + k * 13 + j, none⟩) hb, Nat.add_assoc, hcc _ (by rw [icells_len]; omega)]
          exact icells_at is k j hlt hj
        have hbk := hbare _ (List.getElem_mem hlt)
        have hxk : is[k]? = some is[k] := List.getElem?_eq_getElem hlt
        have hgo := hok _ (List.getElem_mem hlt)
        generalize is[k] = x at *
        obtain ⟨op, node, mode, table, row, col, var, goes, eq, frm, upto, ⟨ka, kl, kc⟩, ⟨va, vl, vc⟩⟩ := x
        obtain ⟨hb1, hb2⟩ := hbk
        simp only at hb1 hb2
        cases hb1
        cases hb2
        have x0 : wr.cell? ⟨b, off + k * 13, none⟩ = some (.int .u8 op) := hx 0 (by omega)
        have x1 : wr.cell? ⟨b, off + k * 13 + 1, none⟩ = some (.int .i64 node) := hx 1 (by omega)
        have x2 : wr.cell? ⟨b, off + k * 13 + 2, none⟩ = some (.int .u8 mode) := hx 2 (by omega)
        have x3 : wr.cell? ⟨b, off + k * 13 + 3, none⟩ = some (.int .i64 table) := hx 3 (by omega)
        have x4 : wr.cell? ⟨b, off + k * 13 + 4, none⟩ = some (.bool row) := hx 4 (by omega)
        have x5 : wr.cell? ⟨b, off + k * 13 + 5, none⟩ = some (.int .i64 col) := hx 5 (by omega)
        have x6 : wr.cell? ⟨b, off + k * 13 + 6, none⟩ = some (.int .i64 var) := hx 6 (by omega)
        have x7 : wr.cell? ⟨b, off + k * 13 + 7, none⟩ = some (.int .i64 goes) := hx 7 (by omega)
        have x8 : wr.cell? ⟨b, off + k * 13 + 8, none⟩ = some (.bool eq) := hx 8 (by omega)
        have x9 : wr.cell? ⟨b, off + k * 13 + 9, none⟩ = some (.int .i64 frm) := hx 9 (by omega)
        have x10 : wr.cell? ⟨b, off + k * 13 + 10, none⟩ = some (.int .i64 upto) := hx 10 (by omega)
        have x11 : wr.cell? ⟨b, off + k * 13 + 11, none⟩ = some (.slice none 0 0) := hx 11 (by omega)
        have x12 : wr.cell? ⟨b, off + k * 13 + 12, none⟩ = some (.slice none 0 0) := hx 12 (by omega)
        clear hx hcc
        have hnx2 : Below W.heap.size W (wr.alloc (.cells #[.int .u8 op, .int .i64 node, .int .u8 mode, .int .i64 table, .bool row, .int .i64 col, .int .i64 var, .int .i64 goes, .bool eq, .int .i64 frm, .int .i64 upto, .slice none 0 0, .slice none 0 0] 49)) := hnx.alloc hnx.size _
        have hbc : (wr.alloc (.cells #[.int .u8 op, .int .i64 node, .int .u8 mode, .int .i64 table, .bool row, .int .i64 col, .int .i64 var, .int .i64 goes, .bool eq, .int .i64 frm, .int .i64 upto, .slice none 0 0, .slice none 0 0] 49)).cell? ⟨w.heap.size + 1, 0, none⟩ = some (.slice G gone.length gc) := (hnx2.cell (p := ⟨w.heap.size + 1, 0, none⟩) hbl).trans HBX.out.cell
        have HC1 := Lib.hid (HGC.out.ext hnx2)
        obtain ⟨lb, HLB⟩ : ∃ lb, Hid (lbN goes gone = lb) := ⟨_, Lib.hid rfl⟩
        have hq : IntKind.i64.wrap (goes - (lb : Int)) = goes - (lb : Int) := by
          rw [IntKind.wrap_i64]
          have h1 := lbN_le goes gone
          have h2 := hgo.2
          simp only at h2
          by_cases h0 : goes ≤ 0
          · have := lbN_low goes gone HPO.out h0
            rw [HLB.out] at this
            subst this
            omega
          · rw [HLB.out] at h1
            omega
        by_cases hin : (k : Int) ∈ gone
        · have HDI := Lib.hid (decide_eq_true hin)
          have HOT : Hid (outTo gone is (k + 1) = outTo gone is k) := Lib.hid (by show (match is[k]? with | none => outTo gone is k | some x => if (k : Int) ∈ gone then outTo gone is k else outTo gone is k ++ [fixI gone x]) = _; rw [hxk]; simp only [hin, if_true])
          clear hin hq
          gi_wp2_with (refine ⟨trivial, ?_⟩; gi_at_call 26; refine (callsIn_wide.2 (bs_any G gone gc _ (by omega) HRI.out _ HC1.out)).mono ?_; rintro e w1 ⟨rfl, rfl⟩; rw [HDI.out])
          go_roundw
          case rel => exact ⟨k + 1, by omega, by go_num, by rw [HOT.out]; exact hown.alloc _, hnx2⟩
          case measure => simp [intOf]; omega
        · have HDI := Lib.hid (decide_eq_false hin)
          have HOT : Hid (outTo gone is (k + 1) = outTo gone is k ++ [fixI gone ⟨op, node, mode, table, row, col, var, goes, eq, frm, upto, (none, 0, 0), (none, 0, 0)⟩]) := Lib.hid (by show (match is[k]? with | none => outTo gone is k | some x => if (k : Int) ∈ gone then outTo gone is k else outTo gone is k ++ [fixI gone x]) = _; rw [hxk]; simp only [hin, if_false])
          clear hin
          gi_wp2_with (first
            | (refine ⟨trivial, ?_⟩; gi_at_call 26; refine (callsIn_wide.2 (bs_any G gone gc _ (by omega) HRI.out _ HC1.out)).mono ?_; rintro e w1 ⟨rfl, rfl⟩; first | rw [HDI.out] | rw [HLB.out])
            | (refine ⟨trivial, ?_⟩; gi_at_call 27; refine (callsIn_wide.2 (own_nil _)).mono ?_; rintro e w1 ⟨rfl, rfl⟩)
            | (refine ⟨trivial, ?_⟩; gi_at_call 28; refine (callsIn_wide.2 (clone2_nil _)).mono ?_; rintro e w1 ⟨rfl, rfl⟩))
          have hyb : Blk (wr.alloc (.cells #[.int .u8 op, .int .i64 node, .int .u8 mode, .int .i64 table, .bool row, .int .i64 col, .int .i64 var, .int .i64 (goes - (lb : Int)), .bool eq, .int .i64 frm, .int .i64 upto, .slice none 0 0, .slice none 0 0] 49)) wr.heap.size 49 #[.int .u8 op, .int .i64 node, .int .u8 mode, .int .i64 table, .bool row, .int .i64 col, .int .i64 var, .int .i64 (goes - (lb : Int)), .bool eq, .int .i64 frm, .int .i64 upto, .slice none 0 0, .slice none 0 0] := Blk.new _ _ _
          have hyo := hown.alloc (.cells #[.int .u8 op, .int .i64 node, .int .u8 mode, .int .i64 table, .bool row, .int .i64 col, .int .i64 var, .int .i64 (goes - (lb : Int)), .bool eq, .int .i64 frm, .int .i64 upto, .slice none 0 0, .slice none 0 0] 49)
          have hyn : Below W.heap.size W (wr.alloc (.cells #[.int .u8 op, .int .i64 node, .int .u8 mode, .int .i64 table, .bool row, .int .i64 col, .int .i64 var, .int .i64 (goes - (lb : Int)), .bool eq, .int .i64 frm, .int .i64 upto, .slice none 0 0, .slice none 0 0] 49)) := hnx.alloc hnx.size _
          clear x0 x1 x2 x3 x4 x5 x6 x7 x8 x9 x10 x11 x12 hown hnx hnx2 hbc HC1 hq
          generalize wr.alloc (.cells #[.int .u8 op, .int .i64 node, .int .u8 mode, .int .i64 table, .bool row, .int .i64 col, .int .i64 var, .int .i64 (goes - (lb : Int)), .bool eq, .int .i64 frm, .int .i64 upto, .slice none 0 0, .slice none 0 0] 49) = wy at *
          generalize wr.heap.size = gy at *
          have HYB := Lib.hid hyb
          have HYO := Lib.hid hyo
          have HYN := Lib.hid hyn
          clear hyb hyo hyn
          have hol := outTo_len gone is k
          gi_loopw [65] (fun i w2 => i = .int .i64 0 ∧ w2 = wy) (fun _ _ => 0)
          case atStart => exact ⟨rfl, rfl⟩
          case round =>
            obtain ⟨rfl, hw2⟩ := hrel
            subst hw2
            have y0 := HYB.out.cell 0
            have y1 := HYB.out.cell 1
            have y2 := HYB.out.cell 2
            have y3 := HYB.out.cell 3
            have y4 := HYB.out.cell 4
            have y5 := HYB.out.cell 5
            have y6 := HYB.out.cell 6
            have y7 := HYB.out.cell 7
            have y8 := HYB.out.cell 8
            have y9 := HYB.out.cell 9
            have y10 := HYB.out.cell 10
            have y11 := HYB.out.cell 11
            have y12 := HYB.out.cell 12
            gi_wp2_with (gi_at_builtin; refine wpListIn_append_own _ rfl _ _ 22 rfl W.heap.size 49 j0 _ 13 136 Try.underlying22 hj hjz0 hjz1 hjz2 rfl (by decide) _ _ _ rfl (HYO.out.alloc _) ⟨_, 0, none⟩ 1 1 [.int .u8 op, .int .i64 node, .int .u8 mode, .int .i64 table, .bool row, .int .i64 col, .int .i64 var, .int .i64 (goes - (lb : Int)), .bool eq, .int .i64 frm, .int .i64 upto, .slice none 0 0, .slice none 0 0] rfl rfl (cells_some _ _ #[.int .u8 op, .int .i64 node, .int .u8 mode, .int .i64 table, .bool row, .int .i64 col, .int .i64 var, .int .i64 (goes - (lb : Int)), .bool eq, .int .i64 frm, .int .i64 upto, .slice none 0 0, .slice none 0 0]) (by intro u hu; simp only [List.mem_cons, List.not_mem_nil, or_false] at hu; rcases hu with rfl | rfl | rfl | rfl | rfl | rfl | rfl | rfl | rfl | rfl | rfl | rfl | rfl <;> rfl) (by unfold maxLen; omega) (by omega) (by have := HYN.out.size; simp; omega) ?_; intro v' w1 hown' hgrow _; obtain ⟨g', cap', rfl⟩ := ownsRow_succ hown')
            refine ⟨⟨k + 1, by omega, by go_num, ?_, Below.grown (HYN.out.alloc HYN.out.size _) hgrow (by have := HYN.out.size; simp; omega) (fun j ej => (HYO.out.lt j ej).1)⟩, by simp [intOf]; omega⟩
            have hic : icells (outTo gone is k ++ [fixI gone ⟨op, node, mode, table, row, col, var, goes, eq, frm, upto, (none, 0, 0), (none, 0, 0)⟩]) = icells (outTo gone is k) ++ [.int .u8 op, .int .i64 node, .int .u8 mode, .int .i64 table, .bool row, .int .i64 col, .int .i64 var, .int .i64 (goes - (lb : Int)), .bool eq, .int .i64 frm, .int .i64 upto, .slice none 0 0, .slice none 0 0] := by
              unfold icells fixI
              rw [List.flatMap_append, HLB.out]
              rfl
            rw [HOT.out, List.length_append, hic]
            exact hown'
      · obtain rfl : k = is.length := by omega
        have e1 : decide ((is.length : Int) < (is.length : Int)) = false := by simp
        have hlt' : DD < W.heap.size := (Array.getElem?_eq_some_iff.1 HDK.out).1
        have hKD : wr.heap[DD]? = some (.deferred (some [])) := (hnx.block DD hlt').trans HDK.out
        gi_wp2
        refine ⟨by simp, .inl ⟨_, _, rfl, run_takeDeferred hKD, ?_⟩⟩
        refine ⟨_, results_tmp rfl _ _ _, _, rfl, ownsRow_putObj (own_low hown hWw) _ hKD rfl, ?_⟩
        exact (HBW.out.trans (hnx.mono hWw)).trans (belowK_b (w := w) (Nat.le_refl _) _ DD _ _ (by simp at hDD; omega) hKD rfl rfl)
  case stop =>
    rintro D c pre W _ _ h _
    exact h.elim
theorem without_any (A D : Option Addr) (is : List InstrD) (ds : List Int) (cap dc : Nat) (hlen : is.length ≤ 1000) (hdl : ds.length ≤ 1000) (w : World) (hc : Cells w A (icells is)) (hd : Cells w D (ncells ds)) (hbare : ∀ x ∈ is, bareI x) (hok : ∀ x ∈ is, x.ok) (out : List InstrD) (ho : Hid (outTo (goneOf ds (pairsTo (opsOf is) is.length)) is is.length = out)) :
    Calls Try.prog 13 #[.slice A is.length cap, .slice D ds.length dc] w fun e w' => ∃ A' c', e = .returned (.slice A' out.length c') ∧ (A' = none → c' = 0) ∧ Cells w' A' (icells out) ∧ Ext w w' := by
  refine (callsIn_wide (n := 9)).1 ((without_in 9 (by omega) A D is ds cap dc hlen hdl w hc hd hbare hok _ (Lib.hid rfl)).mono ?_)
  rintro e w' ⟨v, rfl, h2, h3⟩
  rw [ho.out] at h2
  obtain ⟨A', c', rfl, h4, h5⟩ := row_cells h2
  exact ⟨A', c', rfl, h4, h5, h3⟩
end Go.Proofs.Ytngbpaiohfokbaa
