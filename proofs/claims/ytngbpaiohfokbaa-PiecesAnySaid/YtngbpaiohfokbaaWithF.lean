/- pieces.Without, walked, for any instructions. Condition: the rows fit into memory. -/
import Derived.Test.YtngbpaiohfokbaaCloneF
import Derived.Deep.Cut
namespace Go.Proofs.Ytngbpaiohfokbaa
open Go Go.RowKit Go.Shelf
set_option linter.unusedVariables false
set_option linter.unusedSimpArgs false
attribute [local go_sem] Oper.semAt_some
def fixF (gone : List Int) (f : FullI) : FullI := { f with x := fixI gone f.x }
def outF (gone : List Int) (l : List FullI) : Nat → List FullI
  | 0 => []
  | k + 1 => match l[k]? with
    | none => outF gone l k
    | some f => if (k : Int) ∈ gone then outF gone l k else outF gone l k ++ [fixF gone f]
theorem outF_len (gone : List Int) (l : List FullI) (k : Nat) : (outF gone l k).length ≤ k := by
  induction k with
  | zero => simp [outF]
  | succ k ih =>
    unfold outF
    split
    · omega
    · split
      · omega
      · simp; omega
theorem outF_map (gone : List Int) (l : List FullI) (k : Nat) : (outF gone l k).map FullI.x = outTo gone (l.map FullI.x) k := by
  induction k with
  | zero => rfl
  | succ k ih =>
    unfold outF outTo
    rw [List.getElem?_map]
    cases l[k]? with
    | none => exact ih
    | some f =>
      simp only [Option.map_some]
      split
      · exact ih
      · rw [List.map_append, ih]; rfl
theorem own_set {w : World} {base g n c k : Nat} {e : TypeId} {xs : List Value} (h : w.ownsRow base e 1 (.slice (some ⟨g, 0, none⟩) n c) n xs) (hk : k < n) (u : Value) : (w.setCell ⟨g, k, none⟩ u).ownsRow base e 1 (.slice (some ⟨g, 0, none⟩) n c) n (xs.set k u) := by
  refine ⟨by rw [List.length_set]; exact h.1, ?_⟩
  rcases h.2 with ⟨hv, _⟩ | ⟨g', cap, cur, hv, hb, hh, h1, h2, h3, h4⟩
  · cases hv
  · injection hv with e1 e2 e3
    injection e1 with e1
    injection e1 with e1
    subst e1 e3
    refine .inr ⟨g, c, cur.setIfInBounds k u, rfl, hb, ?_, h1, h2, by simpa using h3, ?_⟩
    · simp [World.setCell, Array.getElem?_modify, hh]
    · rw [Array.toList_setIfInBounds, List.take_set, h4]
theorem own_cell {w : World} {base g n c k : Nat} {e : TypeId} {xs : List Value} (h : w.ownsRow base e 1 (.slice (some ⟨g, 0, none⟩) n c) n xs) (hk : k < n) : w.cell? ⟨g, k, none⟩ = xs[k]? := by
  rw [h.cellAt k (by omega)]
theorem own_thaw {w : World} {base g n c k : Nat} {e : TypeId} {xs : List Value} (h : w.ownsRow base e 1 (.slice (some ⟨g, 0, none⟩) n c) n xs) (hk : k < n) : w.frozen? ⟨g, k, none⟩ = false := by
  rcases h.2 with ⟨hv, _⟩ | ⟨g', cap, cur, hv, hb, hh, h1, h2, h3, h4⟩
  · cases hv
  · injection hv with e1 e2 e3
    injection e1 with e1
    injection e1 with e1
    subst e1 e3
    simp [World.frozen?, hh]
theorem own_slot {w : World} {base n c : Nat} {A : Option Addr} {e : TypeId} {xs : List Value} (h : w.ownsRow base e 1 (.slice A n c) n xs) (hn : 0 < n) : ∃ g, A = some ⟨g, 0, none⟩ ∧ base ≤ g ∧ g < w.heap.size := by
  rcases h.2 with ⟨_, h0⟩ | ⟨g', cap, cur, hv, hb, hh, _⟩
  · omega
  · injection hv with e1
    exact ⟨g', e1, hb, (Array.getElem?_eq_some_iff.1 hh).1⟩
theorem own_set_far {w : World} {b1 b2 g n2 c : Nat} {t1 t2 : TypeId} {s1 n1 : Nat} {v1 : Value} {xs1 xs2 : List Value} (h1 : w.ownsRow b1 t1 s1 v1 n1 xs1) (h2 : w.ownsRow b2 t2 1 (.slice (some ⟨g, 0, none⟩) n2 c) n2 xs2) (ht : t1 ≠ t2) (k : Nat) (u : Value) : (w.setCell ⟨g, k, none⟩ u).ownsRow b1 t1 s1 v1 n1 xs1 := by
  rcases h2.2 with ⟨hv, _⟩ | ⟨g', cap, cur, hv, hb, hh, _⟩
  · cases hv
  · injection hv with e1
    injection e1 with e1
    injection e1 with e1
    subst e1
    exact own_far h1 (own_differ h1 (show Blk w g t2 cur from hh) ht) u
theorem pc_mid (news : List (HeadD × List TermD)) (p : HeadD × List TermD) (rest : List (HeadD × List TermD)) : (pcells (news ++ p :: rest))[news.length]? = some (hd p.1) := by
  simp [pcells]
theorem pc_set (news : List (HeadD × List TermD)) (p q : HeadD × List TermD) (rest : List (HeadD × List TermD)) : (pcells (news ++ p :: rest)).set news.length (hd q.1) = pcells ((news ++ [q]) ++ rest) := by
  simp [pcells]

set_option maxRecDepth 100000 in
set_option maxHeartbeats 8000000 in
theorem withF_in (n : Nat) (hn : 3 ≤ n) (A D : Option Addr) (l : List FullI) (is : List InstrD) (ds : List Int) (cap dc : Nat) (his : is = l.map FullI.x) (hlen : is.length ≤ 1000) (hdl : ds.length ≤ 1000) (w : World) (hr : Row w A l) (hd : Cells w D (ncells ds)) (hok : ∀ x ∈ is, x.ok) (hfit : ∀ f ∈ l, f.fits) (gone : List Int) (hgone : Hid (goneOf ds (pairsTo (opsOf is) is.length) = gone)) (lo : List FullI) (hlo : Hid (outF gone l l.length = lo)) :
    CallsIn Fence.wide n Try.prog 13 #[.slice A is.length cap, .slice D ds.length dc] w fun e w' => ∃ v l', e = .returned v ∧ w'.ownsRow w.heap.size 49 13 v l'.length (fcells l') ∧ (∀ f ∈ l', f.Own 71 46 w.heap.size w') ∧ l'.map FullI.con = lo.map FullI.con ∧ Below w.heap.size w w' := by
  have hc : Cells w A (icells is) := by have := hr.1; unfold fcells at this; rw [his]; exact this
  have HRW := Lib.hid hr
  have HFT := Lib.hid hfit
  have HIS := Lib.hid his
  have hlen2 : l.length ≤ 1000 := by have := congrArg List.length his; simp at this; omega
  have HLL : Hid (is.length = l.length) := Lib.hid (by rw [his, List.length_map])
  clear hr hfit his
  have h1 : 1 ≤ n := by omega
  have hA : ∀ b off, A = some ⟨b, off, none⟩ → 0 < is.length → b < w.heap.size := fun b off e h0 => cells_block hc (by rw [icells_len]; omega) b off e
  obtain ⟨i0, hi, hz0, hz1, hz2⟩ := info_parts infoInt
  obtain ⟨j0, hj, hjz0, hjz1, hjz2⟩ := info_parts infoInstr
  refine callsIn_of_wp_marks Try.func13 rfl trivial ?_ rfl
  simp only [Try.ntmps13, List.size_toArray, List.length_cons, List.length_nil, Nat.reduceAdd, Nat.reduceSub, Array.replicate_succ, Array.replicate_zero, List.push_toArray, List.append_toArray, List.nil_append, List.cons_append]
  gi_wp2_with (refine ⟨trivial, ?_⟩; gi_at_call 21; refine (marks_in Fence.wide (n - 1) trivial rfl _ _ _ _).mono ?_; rintro e w' ⟨rfl, rfl⟩)
  have bD := ((Boxed.new w 23 (.slice D ds.length dc)).alloc (.cells #[.slice none 0 0] 23)).alloc (.cells #[.slice A is.length cap] 22)
  have bG := Boxed.new (w.alloc (.cells #[.slice D ds.length dc] 23)) 23 (.slice none 0 0)
  rw [World.size_alloc] at bG
  have bG3 := bG.alloc (.cells #[.slice A is.length cap] 22)
  have bN := Boxed.new ((w.alloc (.cells #[.slice D ds.length dc] 23)).alloc (.cells #[.slice none 0 0] 23)) 22 (.slice A is.length cap)
  rw [World.size_alloc, World.size_alloc] at bN
  have hB0 : Below w.heap.size w (((w.alloc (.cells #[.slice D ds.length dc] 23)).alloc (.cells #[.slice none 0 0] 23)).alloc (.cells #[.slice A is.length cap] 22)) := (((Below.refl _ w).alloc (Nat.le_refl _) _).alloc (by simp) _).alloc (by simp; omega) _
  refine wpIn_rangeFunc_ownG (F := Fence.wide) rfl h1 (gf := 41) (lb := #[.pointer (some ⟨w.heap.size + 1 + 1, 0, none⟩)]) rfl trivial (enters_of Try.func41 (by kernel_rfl) rfl)
    (marks_stops Fence.wide (n - 1) trivial rfl (by omega) (w.heap.size + 1 + 1) w.heap.size A is cap hlen hA _ (by simp) (by simp; omega) bN.cell (hc.ext hB0)) belowK_t (belowK_b (by simp; omega)) (Below.refl _ _) (fun _ => rfl)
    (fun pre W => (∃ v, Boxed W (w.heap.size + 1) 23 v ∧ W.ownsRow w.heap.size 3 1 v (goneOf ds pre).length (ncells (goneOf ds pre)) ∧ (v = .slice none 0 0 ↔ goneOf ds pre = [])) ∧ Boxed W w.heap.size 23 (.slice D ds.length dc) ∧ Below w.heap.size w W)
    (fun _ _ _ => False)
    (OwnFrom.and (Own.from (holdsRow_own w.heap.size (w.heap.size + 1) 23 3 1 (fun pre => (goneOf ds pre).length) (fun pre => ncells (goneOf ds pre)) (fun pre v => v = .slice none 0 0 ↔ goneOf ds pre = [])) _)
      (OwnFrom.and (Own.from (boxed_own w.heap.size 23 (fun _ => .slice D ds.length dc)) _) (ownFrom_below (Nat.le_refl _) (by simp; omega))))
    (fun _ _ _ _ _ hs _ _ => hs)
    ⟨⟨_, bG3, World.ownsRow_nil _ _ _ _, by simp [goneOf]⟩, bD, hB0⟩
    (fun x => { tmps := #[.slice A is.length cap, .slice D ds.length dc, undef, .pointer (some ⟨w.heap.size, 0, none⟩), .slice none 0 0, .pointer (some ⟨w.heap.size + 1, 0, none⟩), .int .i64 (x.1 : Int), .int .i64 (x.2.val : Int), undef, undef, undef, undef, undef, undef, undef, undef, undef, .slice A is.length cap, .func (.func 41) #[] #[.pointer (some ⟨w.heap.size + 1 + 1, 0, none⟩)], .int .i64 (x.1 : Int), .int .i64 (x.2.val : Int), undef, undef, undef, undef, undef, undef, undef, undef, undef, undef, undef, undef, undef, undef, undef, undef, undef, undef, undef, undef, undef, undef, undef, undef, undef, undef, undef, undef, undef, undef, undef, undef, undef, undef, undef, undef, undef, undef, undef, undef, undef, undef, undef, undef, undef, undef, undef, undef, undef, undef, undef, undef, undef, undef, undef, undef, undef, undef, undef, undef, undef, undef], defers := [] }) ?assign ?body ?done ?stop
  case assign =>
    intro l x W K hK
    unfold encP
    gi_wp2
    exact hK
  case body =>
    rintro l pre ⟨m, i, hi'⟩ W ⟨⟨v, hv, hrow, hnil⟩, hdr, hB⟩ hlt
    have hc1 := hv.cell
    have hf1 := hdr.cell
    have hgl := goneOf_len ds pre
    have hple : (goneOf ds pre).length ≤ 1000 := by omega
    have HD : Hid (Cells W D (ncells ds)) := Lib.hid (hd.ext hB)
    clear hgl
    dsimp only
    by_cases hin : (m : Int) ∈ ds
    · have HIT := Lib.hid (goneOf_hit ds pre (m, ⟨i, hi'⟩) (decide_eq_true hin))
      have HDI := Lib.hid (decide_eq_true hin)
      clear hin
      gi_wp2_with (first
        | (refine ⟨trivial, (fun h => by cases h), ?_⟩; gi_at_call 25; refine (CallsIn.inRound l (callsIn_wide.2 (contains_any D ds dc _ (by omega) W HD.out))).mono ?_; rintro e w1 ⟨rfl, rfl⟩; rw [HDI.out])
        | (gi_at_builtin; refine wpListIn_append_own _ rfl _ _ 23 rfl w.heap.size 3 i0 (.int .i64 0) 1 8 Try.underlying23 hi hz0 hz1 hz2 rfl (by decide) _ _ _ rfl (hrow.alloc _) ⟨W.heap.size, 0, none⟩ 1 1 [.int .i64 (i : Int)] rfl rfl (cells_one _ _ _) (by simp [Value.oneCell']) (by unfold maxLen; omega) (by omega) (by have := hB.size; simp; omega) ?_; intro v' w1 hown' hgrow _; obtain ⟨g', cap', rfl⟩ := ownsRow_succ hown'; obtain ⟨hv1, hv2, hr2, hk2, hb2⟩ := hv.appended (by decide) hrow hB.size (Nat.le_succ _) hown' hgrow; have hdr2 := ((hdr.alloc _).kept hgrow (hdr.not_row (by decide) hrow)).other (B' := w.heap.size + 1) (by omega) (Value.slice (some ⟨g', 0, none⟩) ((goneOf ds pre).length + 1) cap'); have hc1 := hv1.cell; have hf1 := hv1.frozen))
      refine ⟨hk2.from _, hb2, ⟨_, hv2, ?_, ?_⟩, hdr2, hB.trans hb2⟩
      · rw [HIT.out, List.length_append]
        have : ncells (goneOf ds pre ++ [(i : Int)]) = ncells (goneOf ds pre) ++ [.int .i64 (i : Int)] := by simp [ncells]
        rw [this]
        exact hr2
      · rw [HIT.out]; simp
    · have HIT := Lib.hid (goneOf_miss ds pre (m, ⟨i, hi'⟩) (decide_eq_false hin))
      have HDI := Lib.hid (decide_eq_false hin)
      clear hin
      gi_wp2_with (refine ⟨trivial, (fun h => by cases h), ?_⟩; gi_at_call 25; refine (CallsIn.inRound l (callsIn_wide.2 (contains_any D ds dc _ (by omega) W HD.out))).mono ?_; rintro e w1 ⟨rfl, rfl⟩; rw [HDI.out])
      exact ⟨KeepsFrom.refl _ _, Below.refl _ _, ⟨v, hv, by rw [HIT.out]; exact hrow, by rw [HIT.out]; exact hnil⟩, hdr, hB⟩
  case done =>
    rintro DD ys W hDD rfl ⟨⟨v, hv, hrow, hnil⟩, hdr, hB⟩ hK
    have hgl : (goneOf ds (pairsTo (opsOf is) is.length)).length ≤ 1000 := by
      have := goneOf_len ds (pairsTo (opsOf is) is.length)
      have := pairsTo_len (opsOf is) is.length
      omega
    have HRI := Lib.hid (goneOf_rise ds (opsOf is) is.length hlen)
    have HPO := Lib.hid (goneOf_pos ds (pairsTo (opsOf is) is.length))
    rw [hgone.out] at hgl HRI HPO hrow hnil
    obtain ⟨G, gc, rfl, hgz, hGC⟩ := row_cells hrow
    have HGC := Lib.hid hGC
    have HBX := Lib.hid hv
    have HBW := Lib.hid hB
    have HDK := Lib.hid hK
    have HRW2 := Lib.hid (HRW.out.ext hB)
    have hWw : w.heap.size ≤ W.heap.size := hB.size
    have hbl : w.heap.size + 1 < W.heap.size := hv.lt
    clear hnil hrow hdr hgz hGC hc hd
    gi_wp2
    refine wpIn_wide.2 ?_
    go_loopw [8, 30] (fun out i wr => ∃ (k : Nat) (l' : List FullI), k ≤ l.length ∧ i = .int .i64 k ∧ Hid (l'.map FullI.con = (outF gone l k).map FullI.con) ∧ Hid (wr.ownsRow W.heap.size 49 13 out l'.length (fcells l')) ∧ Hid (∀ f ∈ l', f.Own 71 46 W.heap.size wr) ∧ Hid (Below W.heap.size W wr)) (fun _ i _ => l.length - (intOf i).toNat)
    case atStart => exact ⟨0, [], Nat.zero_le _, rfl, Lib.hid rfl, Lib.hid (World.ownsRow_nil _ _ _ _), Lib.hid (fun f hf => by cases hf), Lib.hid (Below.refl _ _)⟩
    case round =>
      obtain ⟨k, l', hk, rfl, HCO, HOU, HOW, HNX⟩ := hrel
      obtain ⟨wa, rfl⟩ : ∃ wa : World, wa = wr := ⟨_, rfl⟩
      by_cases hlt : k < l.length
      · have d0 : decide ((k : Int) < (is.length : Int)) = true := decide_eq_true (by have := HLL.out; omega)
        have q0 : (k : Int) < (is.length : Int) := by have := HLL.out; omega
        have HR2 := Lib.hid (HRW2.out.ext HNX.out)
        obtain ⟨b, off, rfl, hb, hcc⟩ := HR2.out.1.at_ (by rw [fcells_len]; omega)
        have hx : ∀ j, j < 13 → wa.cell? ⟨b, off + k * 13 + j, none⟩ = (l[k].x.cells)[j]? := fun j hj => by
          rw [Nat.add_assoc, hcc _ (by rw [fcells_len]; omega)]
          exact fcells_at l k j hlt hj
        have hat := HR2.out.2 _ (List.getElem_mem hlt)
        have hxk : l[k]? = some l[k] := List.getElem?_eq_getElem hlt
        have hgo : l[k].x.ok := hok _ (by rw [HIS.out]; exact List.mem_map.2 ⟨_, List.getElem_mem hlt, rfl⟩)
        have hft := HFT.out _ (List.getElem_mem hlt)
        clear hcc
        generalize l[k] = f at *
        obtain ⟨⟨op, node, mode, table, row, col, var, goes, eq, frm, upto, ⟨ka, kl, kc⟩, ⟨va, vl, vc⟩⟩, kt, vp⟩ := f
        obtain ⟨⟨hk1, hk2, hk3⟩, hv1, hv2, hv3, hv4⟩ := hat
        simp only at hk1 hk2 hk3 hv1 hv2 hv3 hv4
        subst hk1 hv1
        obtain ⟨hf1, hf2, hf3⟩ := hft
        simp only at hf1 hf2 hf3
        have hvb : vp.length ≤ 5864062014800 := by omega
        have HXK := Lib.hid hxk
        have HK2 := Lib.hid hk2
        have HK3 := Lib.hid hk3
        have HV2 := Lib.hid hv2
        have HV3 := Lib.hid hv3
        have HV4 := Lib.hid hv4
        have HF1 := Lib.hid hf1
        have HF2 := Lib.hid hf2
        have HF3 := Lib.hid hf3
        have HX := Lib.hid hx
        have x0 : wa.cell? ⟨b, off + k * 13, none⟩ = some (.int .u8 op) := hx 0 (by omega)
        have x1 : wa.cell? ⟨b, off + k * 13 + 1, none⟩ = some (.int .i64 node) := hx 1 (by omega)
        have x2 : wa.cell? ⟨b, off + k * 13 + 2, none⟩ = some (.int .u8 mode) := hx 2 (by omega)
        have x3 : wa.cell? ⟨b, off + k * 13 + 3, none⟩ = some (.int .i64 table) := hx 3 (by omega)
        have x4 : wa.cell? ⟨b, off + k * 13 + 4, none⟩ = some (.bool row) := hx 4 (by omega)
        have x5 : wa.cell? ⟨b, off + k * 13 + 5, none⟩ = some (.int .i64 col) := hx 5 (by omega)
        have x6 : wa.cell? ⟨b, off + k * 13 + 6, none⟩ = some (.int .i64 var) := hx 6 (by omega)
        have x7 : wa.cell? ⟨b, off + k * 13 + 7, none⟩ = some (.int .i64 goes) := hx 7 (by omega)
        have x8 : wa.cell? ⟨b, off + k * 13 + 8, none⟩ = some (.bool eq) := hx 8 (by omega)
        have x9 : wa.cell? ⟨b, off + k * 13 + 9, none⟩ = some (.int .i64 frm) := hx 9 (by omega)
        have x10 : wa.cell? ⟨b, off + k * 13 + 10, none⟩ = some (.int .i64 upto) := hx 10 (by omega)
        have x11 : wa.cell? ⟨b, off + k * 13 + 11, none⟩ = some (.slice ka kt.length kc) := hx 11 (by omega)
        have x12 : wa.cell? ⟨b, off + k * 13 + 12, none⟩ = some (.slice va vp.length vc) := hx 12 (by omega)
        clear hx hxk hk2 hk3 hv2 hv3 hv4 hf1 hf2 hf3
        have hnx2 : Below W.heap.size W (wa.alloc (.cells #[.int .u8 op, .int .i64 node, .int .u8 mode, .int .i64 table, .bool row, .int .i64 col, .int .i64 var, .int .i64 goes, .bool eq, .int .i64 frm, .int .i64 upto, .slice ka kt.length kc, .slice va vp.length vc] 49)) := HNX.out.alloc HNX.out.size _
        have hbc : (wa.alloc (.cells #[.int .u8 op, .int .i64 node, .int .u8 mode, .int .i64 table, .bool row, .int .i64 col, .int .i64 var, .int .i64 goes, .bool eq, .int .i64 frm, .int .i64 upto, .slice ka kt.length kc, .slice va vp.length vc] 49)).cell? ⟨w.heap.size + 1, 0, none⟩ = some (.slice G gone.length gc) := (hnx2.cell (p := ⟨w.heap.size + 1, 0, none⟩) hbl).trans HBX.out.cell
        have HC1 := Lib.hid (HGC.out.ext hnx2)
        have HNX2 := Lib.hid hnx2
        obtain ⟨lb, HLB⟩ : ∃ lb, Hid (lbN goes gone = lb) := ⟨_, Lib.hid rfl⟩
        have hq : IntKind.i64.wrap (goes - (lb : Int)) = goes - (lb : Int) := by
          rw [IntKind.wrap_i64]
          have h1 := lbN_le goes gone
          have h2 := hgo.2
          simp only at h2
          by_cases h0 : goes ≤ 0
          · have := lbN_low goes gone HPO.out h0
            rw [HLB.out] at this
            subst this
            omega
          · rw [HLB.out] at h1
            omega
        have HQ := Lib.hid hq
        clear hnx2 hq
        by_cases hin : (k : Int) ∈ gone
        · have HDI := Lib.hid (decide_eq_true hin)
          have HOT : Hid (outF gone l (k + 1) = outF gone l k) := Lib.hid (by show (match l[k]? with | none => outF gone l k | some f => if (k : Int) ∈ gone then outF gone l k else outF gone l k ++ [fixF gone f]) = _; rw [HXK.out]; simp only [hin, if_true])
          clear hin
          have HOA := Lib.hid (HOU.out.alloc (.cells #[.int .u8 op, .int .i64 node, .int .u8 mode, .int .i64 table, .bool row, .int .i64 col, .int .i64 var, .int .i64 goes, .bool eq, .int .i64 frm, .int .i64 upto, .slice ka kt.length kc, .slice va vp.length vc] 49))
          have HWA : Hid (∀ f ∈ l', f.Own 71 46 W.heap.size (wa.alloc (.cells #[.int .u8 op, .int .i64 node, .int .u8 mode, .int .i64 table, .bool row, .int .i64 col, .int .i64 var, .int .i64 goes, .bool eq, .int .i64 frm, .int .i64 upto, .slice ka kt.length kc, .slice va vp.length vc] 49))) := Lib.hid (fun f hf => (HOW.out f hf).ext (Ext.alloc _ _))
          go_wp2_with fail
          refine (bs_any G gone gc _ (by omega) HRI.out _ HC1.out).mono ?_
          rintro e w1 ⟨rfl, rfl⟩
          rw [HDI.out]
          go_wp2_with fail
          go_roundw
          case rel => exact ⟨k + 1, l', by omega, by go_num, Lib.hid (by rw [HOT.out]; exact HCO.out), HOA, HWA, HNX2⟩
          case measure => simp [intOf]; omega
        · have HDI := Lib.hid (decide_eq_false hin)
          have HOT : Hid (outF gone l (k + 1) = outF gone l k ++ [fixF gone ⟨⟨op, node, mode, table, row, col, var, goes, eq, frm, upto, (ka, kt.length, kc), (va, vp.length, vc)⟩, kt, vp⟩]) := Lib.hid (by show (match l[k]? with | none => outF gone l k | some f => if (k : Int) ∈ gone then outF gone l k else outF gone l k ++ [fixF gone f]) = _; rw [HXK.out]; simp only [hin, if_false])
          clear hin
          go_wp2_with fail
          refine (bs_any G gone gc _ (by omega) HRI.out _ HC1.out).mono ?_
          rintro e w1 ⟨rfl, rfl⟩
          rw [HDI.out]
          go_wp2_with fail
          refine (bs_any G gone gc _ (by omega) HRI.out _ HC1.out).mono ?_
          rintro e w1 ⟨rfl, rfl⟩
          rw [HLB.out]
          have hq := HQ.out
          go_wp2_with fail
          clear hq
          have HY0 : Hid (Blk (wa.alloc (.cells #[.int .u8 op, .int .i64 node, .int .u8 mode, .int .i64 table, .bool row, .int .i64 col, .int .i64 var, .int .i64 (goes - (lb : Int)), .bool eq, .int .i64 frm, .int .i64 upto, .slice ka kt.length kc, .slice va vp.length vc] 49)) wa.heap.size 49 #[.int .u8 op, .int .i64 node, .int .u8 mode, .int .i64 table, .bool row, .int .i64 col, .int .i64 var, .int .i64 (goes - (lb : Int)), .bool eq, .int .i64 frm, .int .i64 upto, .slice ka kt.length kc, .slice va vp.length vc]) := Lib.hid (Blk.new _ _ _)
          have HE0 : Hid (Ext wa (wa.alloc (.cells #[.int .u8 op, .int .i64 node, .int .u8 mode, .int .i64 table, .bool row, .int .i64 col, .int .i64 var, .int .i64 (goes - (lb : Int)), .bool eq, .int .i64 frm, .int .i64 upto, .slice ka kt.length kc, .slice va vp.length vc] 49))) := Lib.hid (Ext.alloc _ _)
          have hgy : Hid (wa.heap.size ≤ wa.heap.size) := Lib.hid (Nat.le_refl _)
          clear x0 x1 x2 x3 x4 x5 x6 x7 x8 x9 x10 x11 x12 hbc HC1 HNX2 HX
          have HSY : Hid (wa.heap.size ≤ (wa.alloc (.cells #[.int .u8 op, .int .i64 node, .int .u8 mode, .int .i64 table, .bool row, .int .i64 col, .int .i64 var, .int .i64 (goes - (lb : Int)), .bool eq, .int .i64 frm, .int .i64 upto, .slice ka kt.length kc, .slice va vp.length vc] 49)).heap.size) := Lib.hid HE0.out.size
          generalize wa.alloc (.cells #[.int .u8 op, .int .i64 node, .int .u8 mode, .int .i64 table, .bool row, .int .i64 col, .int .i64 var, .int .i64 (goes - (lb : Int)), .bool eq, .int .i64 frm, .int .i64 upto, .slice ka kt.length kc, .slice va vp.length vc] 49) = wy at *
          obtain ⟨gy, hgy0⟩ : ∃ gy, gy = wa.heap.size := ⟨_, rfl⟩
          rw [← hgy0] at HY0 ⊢
          have HGY : Hid (wa.heap.size ≤ gy) := Lib.hid (by omega)
          clear hgy hgy0
          refine (own_any ka kt _ kc wy rfl HF1.out HK2.out (HK3.out.ext HE0.out)).mono ?_
          rintro e w1 ⟨kv, rfl, hko, hx1⟩
          obtain ⟨⟨KA, KN, KC⟩, hkv, hksh⟩ := hko.shows
          have hkn : KN = kt.length := hksh.1
          subst hkv hkn
          simp only [hd] at hko ⊢
          have HK1 := Lib.hid hko
          have HY1 := Lib.hid (HY0.out.ext hx1)
          have HE1 := Lib.hid (HE0.out.trans hx1)
          clear hko hksh hx1 HY0 HE0
          have x11 := HY1.out.cell 11
          have z11 := HY1.out.frozen 11
          have x12 := HY1.out.cell 12
          go_wp2_with fail
          clear x11 z11 x12
          have HY2 : Hid (Blk (w1.setCell ⟨gy, 11, none⟩ (.slice KA kt.length KC)) gy 49 #[.int .u8 op, .int .i64 node, .int .u8 mode, .int .i64 table, .bool row, .int .i64 col, .int .i64 var, .int .i64 (goes - (lb : Int)), .bool eq, .int .i64 frm, .int .i64 upto, .slice KA kt.length KC, .slice va vp.length vc]) := Lib.hid (by have := HY1.out.put 11 (.slice KA kt.length KC); simpa using this)
          have HK4 : Hid (OwnT wy.heap.size 71 kt (.slice KA kt.length KC) (w1.setCell ⟨gy, 11, none⟩ (.slice KA kt.length KC))) := Lib.hid (own_far HK1.out (own_differ HK1.out HY1.out (by decide)) _)
          have HE2 : Hid (Ext wa (w1.setCell ⟨gy, 11, none⟩ (.slice KA kt.length KC))) := Lib.hid (Below.setCell HE1.out HGY.out _)
          have HSW : Hid (wa.heap.size ≤ wy.heap.size) := Lib.hid HSY.out
          clear HK1 HY1 HE1
          generalize w1.setCell ⟨gy, 11, none⟩ (.slice KA kt.length KC) = w2 at *
          refine (clone2_any va vp _ vc w2 rfl HF2.out HV2.out (HV3.out.ext HE2.out)).mono ?_
          rintro e w3 ⟨vv, rfl, hvo, hx3⟩
          obtain ⟨V, VC, hvv, hvz, _⟩ := row_cells hvo
          subst hvv
          have HVO := Lib.hid hvo
          have HY3 := Lib.hid (HY2.out.ext hx3)
          have HK5 := Lib.hid (HK4.out.ext hx3)
          have HE3 := Lib.hid (HE2.out.trans hx3)
          have HS2 : Hid (wa.heap.size ≤ w2.heap.size) := Lib.hid HE2.out.size
          clear hvo hvz hx3 HY2 HK4 HE2
          have x12 := HY3.out.cell 12
          have z12 := HY3.out.frozen 12
          go_wp2_with fail
          clear x12 z12
          have HY4 : Hid (Blk (w3.setCell ⟨gy, 12, none⟩ (.slice V vp.length VC)) gy 49 #[.int .u8 op, .int .i64 node, .int .u8 mode, .int .i64 table, .bool row, .int .i64 col, .int .i64 var, .int .i64 (goes - (lb : Int)), .bool eq, .int .i64 frm, .int .i64 upto, .slice KA kt.length KC, .slice V vp.length VC]) := Lib.hid (by have := HY3.out.put 12 (.slice V vp.length VC); simpa using this)
          have HK6 : Hid (OwnT W.heap.size 71 kt (.slice KA kt.length KC) (w3.setCell ⟨gy, 12, none⟩ (.slice V vp.length VC))) := Lib.hid (own_low (own_far HK5.out (own_differ HK5.out HY3.out (by decide)) _) (Nat.le_trans HNX.out.size HSW.out))
          have HV4R : Hid ((w3.setCell ⟨gy, 12, none⟩ (.slice V vp.length VC)).ownsRow wa.heap.size 46 1 (.slice V vp.length VC) vp.length (pcells vp)) := Lib.hid (own_low (own_far HVO.out (own_differ HVO.out HY3.out (by decide)) _) HS2.out)
          have HE4 : Hid (Ext wa (w3.setCell ⟨gy, 12, none⟩ (.slice V vp.length VC))) := Lib.hid (Below.setCell HE3.out HGY.out _)
          clear HVO HY3 HK5 HE3
          generalize w3.setCell ⟨gy, 12, none⟩ (.slice V vp.length VC) = w4 at *
          go_loopw [65] (fun i wr => ∃ (j : Nat) (news : List (HeadD × List TermD)), j ≤ vp.length ∧ i = .int .i64 j ∧ Hid (news.length = j) ∧ Hid (news.map Prod.snd = (vp.take j).map Prod.snd) ∧ Hid (wr.ownsRow wa.heap.size 46 1 (.slice V vp.length VC) vp.length (pcells (news ++ vp.drop j))) ∧ Hid (∀ p ∈ news, OwnT W.heap.size 71 p.2 (hd p.1) wr) ∧ Hid (Blk wr gy 49 #[.int .u8 op, .int .i64 node, .int .u8 mode, .int .i64 table, .bool row, .int .i64 col, .int .i64 var, .int .i64 (goes - (lb : Int)), .bool eq, .int .i64 frm, .int .i64 upto, .slice KA kt.length KC, .slice V vp.length VC]) ∧ Hid (OwnT W.heap.size 71 kt (.slice KA kt.length KC) wr) ∧ Hid (Ext wa wr)) (fun i _ => vp.length - (intOf i).toNat)
          case atStart => exact ⟨0, [], Nat.zero_le _, rfl, Lib.hid rfl, Lib.hid rfl, HV4R, Lib.hid (fun p hp => by cases hp), HY4, HK6, HE4⟩
          case round =>
            clear HV4R HY4 HK6 HE4
            obtain ⟨j, news, hjj, rfl, HNL, HNM, HVR, HNO, HY, HKO, HEX⟩ := hrel
            obtain ⟨w5, rfl⟩ : ∃ w5 : World, w5 = wr := ⟨_, rfl⟩
            by_cases hjl : j < vp.length
            · have d1 : decide ((j : Int) < (vp.length : Int)) = true := decide_eq_true (by omega)
              have q3 : (j : Int) < (vp.length : Int) := by omega
              obtain ⟨gV, hgV, hgV1, hgV2⟩ := own_slot HVR.out (by omega)
              subst hgV
              have hdr : vp.drop j = vp[j] :: vp.drop (j + 1) := List.drop_eq_getElem_cons hjl
              have hvt : (vp.take (j + 1)).map Prod.snd = (vp.take j).map Prod.snd ++ [vp[j].2] := by rw [List.take_succ_eq_append_getElem hjl, List.map_append]; rfl
              have v0 : w5.cell? ⟨gV, j, none⟩ = some (hd vp[j].1) := by
                have hm := pc_mid news vp[j] (vp.drop (j + 1))
                rw [HNL.out] at hm
                rw [own_cell HVR.out hjl, hdr]
                exact hm
              have hsh := HV4.out _ (List.getElem_mem hjl)
              have hbg := HF3.out _ (List.getElem_mem hjl)
              have HDR := Lib.hid hdr
              have HVT := Lib.hid hvt
              clear hdr hvt
              generalize vp[j] = pv at *
              obtain ⟨⟨pa, pn, pc⟩, t⟩ := pv
              obtain ⟨r1, r2, r3⟩ := hsh
              simp only [hd] at r1 r2 r3 v0 hbg
              subst r1
              have HR3 := Lib.hid (r3.ext HEX.out)
              have HR2 := Lib.hid r2
              have HGV := Lib.hid hgV1
              have HGV2 := Lib.hid hgV2
              clear r2 r3 hgV1 hgV2
              go_upto_region 20 with fail
              apply wp_region_ext_tail 6 (by kernel_rfl) (by kernel_rfl) (by kernel_rfl)
              dsimp only [List.take_succ_cons, List.take_zero, List.drop_succ_cons, List.drop_zero]
              apply step_det (.pointer (some ⟨gy, 12, none⟩)) rfl rfl rfl
              · intro w' hw' hH
                clear hH
                simp [YieldsF, go_sem, q3]
                exact Ext.refl _
              apply step_det (.slice (some ⟨gV, 0, none⟩) vp.length VC) rfl rfl rfl
              · intro w' hw' hH
                clear hH
                have cc := (HY.out.ext hw').cell 12
                simp [YieldsF, go_sem, cc, q3]
                exact Ext.refl _
              apply step_det (.int .i64 (j : Int)) rfl rfl rfl
              · intro w' hw' hH
                clear hH
                simp [YieldsF, go_sem, q3]
                exact Ext.refl _
              apply step_det (.slice pa t.length pc) rfl rfl rfl
              · intro w' hw' hH
                clear hH
                simp [YieldsF, go_sem, q3]
                exact Ext.refl _
              apply step_fact (OwnT w5.heap.size 71 t) (fun v w w' h hx => h.ext hx) rfl rfl rfl
              · intro w' hw' hH
                clear hH
                simp [YieldsF, go_sem]
                refine (own_any pa t _ pc w' rfl hbg HR2.out (HR3.out.ext hw')).mono ?_
                rintro e w2 ⟨v2, rfl, ho, hx⟩
                exact ⟨_, rfl, own_low ho hw'.size, hx⟩
              intro v74
              apply step_det (.pointer (some ⟨gV, j, none⟩)) rfl rfl rfl
              · intro w' hw' hH
                clear hH
                simp [YieldsF, go_sem, q3]
                exact Ext.refl _
              apply WalkF_nil
              intro w6 hw6 hH
              have h74 := hH _ (List.mem_cons_self ..)
              clear hH
              obtain ⟨⟨TA, TN, TC⟩, h74v, h74s⟩ := OwnT.shows h74
              have htn : TN = t.length := h74s.1
              subst h74v htn
              simp only [hd] at h74 ⊢
              have HR6 := Lib.hid (own_ext HVR.out hw6)
              have hc6 := own_cell HR6.out hjl
              rw [HDR.out] at hc6
              have hc7 : w6.cell? ⟨gV, j, none⟩ = some (.slice pa t.length pc) := by
                have hm := pc_mid news ((pa, t.length, pc), t) (vp.drop (j + 1))
                rw [HNL.out] at hm
                rw [hc6]
                exact hm
              have hz7 := own_thaw HR6.out hjl
              have hgne : gV ≠ gy := by
                have := own_differ HVR.out HY.out (by decide)
                intro e
                subst e
                exact this rfl
              have HT6 := Lib.hid h74
              have HX6 := Lib.hid (HEX.out.trans hw6)
              have HY6 := Lib.hid (HY.out.ext hw6)
              have HK6 := Lib.hid (HKO.out.ext hw6)
              have HN6 : Hid (∀ p ∈ news, OwnT W.heap.size 71 p.2 (hd p.1) w6) := Lib.hid (fun p hp => (HNO.out p hp).ext hw6)
              have HRS : Hid ((w6.setCell ⟨gV, j, none⟩ (.slice TA t.length TC)).ownsRow wa.heap.size 46 1 (.slice (some ⟨gV, 0, none⟩) vp.length VC) vp.length (pcells ((news ++ [((TA, t.length, TC), t)]) ++ vp.drop (j + 1)))) := Lib.hid (by
                have h := own_set HR6.out hjl (.slice TA t.length TC)
                rw [HDR.out] at h
                have e := pc_set news ((pa, t.length, pc), t) ((TA, t.length, TC), t) (vp.drop (j + 1))
                rw [HNL.out] at e
                rw [← e]
                exact h)
              have HNS : Hid (∀ p ∈ news ++ [((TA, t.length, TC), t)], OwnT W.heap.size 71 p.2 (hd p.1) (w6.setCell ⟨gV, j, none⟩ (.slice TA t.length TC))) := Lib.hid (by
                intro p hp
                rcases List.mem_append.1 hp with hp | hp
                · exact own_set_far (HN6.out p hp) HR6.out (by decide) j _
                · have := List.mem_singleton.1 hp
                  subst this
                  exact own_set_far (own_low HT6.out (Nat.le_trans HNX.out.size HEX.out.size)) HR6.out (by decide) j _)
              have HYS := Lib.hid (HY6.out.far (p := ⟨gV, j, none⟩) (Ne.symm hgne) (.slice TA t.length TC))
              have HKS : Hid (OwnT W.heap.size 71 kt (.slice KA kt.length KC) (w6.setCell ⟨gV, j, none⟩ (.slice TA t.length TC))) := Lib.hid (own_set_far HK6.out HR6.out (by decide) j _)
              have HXS : Hid (Ext wa (w6.setCell ⟨gV, j, none⟩ (.slice TA t.length TC))) := Lib.hid (Below.setCell HX6.out HGV.out _)
              clear hc6 h74 h74s hw6 hgne
              simp only [Act.put, List.setIfInBounds_toArray, List.set_cons_zero, List.set_cons_succ]
              go_wp2_with fail
              go_roundw
              case rel => exact ⟨j + 1, news ++ [((TA, t.length, TC), t)], by omega, by go_num, Lib.hid (by rw [List.length_append, HNL.out]; rfl), Lib.hid (by rw [HVT.out, ← HNM.out, List.map_append]; rfl), HRS, HNS, HYS, HKS, HXS⟩
              case measure => simp [intOf]; omega
            · obtain rfl : j = vp.length := by omega
              have d1 : decide ((vp.length : Int) < (vp.length : Int)) = false := by simp
              have d2 : decide (vp.length < vp.length) = false := by simp
              have hnm : news.map Prod.snd = vp.map Prod.snd := by have := HNM.out; rw [List.take_of_length_le (Nat.le_refl _)] at this; exact this
              have hll : l'.length ≤ 1000 := by have h := congrArg List.length HCO.out; simp only [List.length_map] at h; have := outF_len gone l k; omega
              have HFN : Hid (FullI.Own 71 46 W.heap.size ⟨⟨op, node, mode, table, row, col, var, goes - (lb : Int), eq, frm, upto, (KA, kt.length, KC), (V, vp.length, VC)⟩, kt, news⟩ w5) := Lib.hid ⟨HKO.out, by
                have h := own_low HVR.out HNX.out.size
                rw [List.drop_length, List.append_nil] at h
                show w5.ownsRow W.heap.size 46 1 (.slice V vp.length VC) news.length (pcells news)
                rw [HNL.out]
                exact h, fun p hp => HNO.out p hp⟩
              have HCN : Hid (FullI.con ⟨⟨op, node, mode, table, row, col, var, goes - (lb : Int), eq, frm, upto, (KA, kt.length, KC), (V, vp.length, VC)⟩, kt, news⟩ = FullI.con (fixF gone ⟨⟨op, node, mode, table, row, col, var, goes, eq, frm, upto, (ka, kt.length, kc), (va, vp.length, vc)⟩, kt, vp⟩)) := Lib.hid (by
                unfold FullI.con bareD fixF fixI
                simp only [HLB.out, hnm])
              have HO5 := Lib.hid (own_ext HOU.out HEX.out)
              have HW5 : Hid (∀ f ∈ l', f.Own 71 46 W.heap.size w5) := Lib.hid (fun f hf => (HOW.out f hf).ext HEX.out)
              have HB5 : Hid (Below W.heap.size W w5) := Lib.hid (HNX.out.trans (HEX.out.mono HNX.out.size))
              have HNM2 := Lib.hid hnm
              clear hnm
              have y0 := HY.out.cell 0
              have y1 := HY.out.cell 1
              have y2 := HY.out.cell 2
              have y3 := HY.out.cell 3
              have y4 := HY.out.cell 4
              have y5 := HY.out.cell 5
              have y6 := HY.out.cell 6
              have y7 := HY.out.cell 7
              have y8 := HY.out.cell 8
              have y9 := HY.out.cell 9
              have y10 := HY.out.cell 10
              have y11 := HY.out.cell 11
              have y12 := HY.out.cell 12
              go_wp2_with (at_builtin; refine wpList_grow rfl (.tmp 77) (.tmp 79) 22 rfl W.heap.size 49 j0 _ 13 136 Try.underlying22 hj hjz0 hjz1 hjz2 rfl (by decide) _ l'.length (fcells l') rfl (HO5.out.alloc _) (some ⟨w5.heap.size, 0, none⟩) 1 1 [.int .u8 op, .int .i64 node, .int .u8 mode, .int .i64 table, .bool row, .int .i64 col, .int .i64 var, .int .i64 (goes - (lb : Int)), .bool eq, .int .i64 frm, .int .i64 upto, .slice KA kt.length KC, .slice V vp.length VC] rfl (fun h => by cases h) rfl (Cells.new _ _ _) (by simp [Value.oneCell']) (by unfold maxLen; omega) (by omega) (by have := HB5.out.size; simp; omega) ?_; intro A' c' w6 h0 ho hg)
              have HOA : Hid (w6.ownsRow W.heap.size 49 13 (.slice A' (l'.length + 1) c') (l' ++ [(⟨⟨op, node, mode, table, row, col, var, goes - (lb : Int), eq, frm, upto, (KA, kt.length, KC), (V, vp.length, VC)⟩, kt, news⟩ : FullI)]).length (fcells (l' ++ [(⟨⟨op, node, mode, table, row, col, var, goes - (lb : Int), eq, frm, upto, (KA, kt.length, KC), (V, vp.length, VC)⟩, kt, news⟩ : FullI)]))) := Lib.hid (by
                rw [List.length_append, fcells_snoc]
                exact ho)
              have HWA : Hid (∀ f ∈ l' ++ [(⟨⟨op, node, mode, table, row, col, var, goes - (lb : Int), eq, frm, upto, (KA, kt.length, KC), (V, vp.length, VC)⟩, kt, news⟩ : FullI)], f.Own 71 46 W.heap.size w6) := Lib.hid (by
                intro f hf
                rcases List.mem_append.1 hf with hf | hf
                · exact ((HW5.out f hf).ext (Ext.alloc _ _)).apart (HO5.out.alloc _) (by decide) (by decide) hg
                · have := List.mem_singleton.1 hf
                  subst this
                  exact (HFN.out.ext (Ext.alloc _ _)).apart (HO5.out.alloc _) (by decide) (by decide) hg)
              have HBA : Hid (Below W.heap.size W w6) := Lib.hid (Below.grown (HB5.out.alloc HB5.out.size _) hg (by have := HB5.out.size; simp; omega) (fun j ej => (HO5.out.lt j ej).1))
              clear h0 ho hg y0 y1 y2 y3 y4 y5 y6 y7 y8 y9 y10 y11 y12
              go_wp2_with fail
              go_roundw
              case rel => exact ⟨k + 1, l' ++ [(⟨⟨op, node, mode, table, row, col, var, goes - (lb : Int), eq, frm, upto, (KA, kt.length, KC), (V, vp.length, VC)⟩, kt, news⟩ : FullI)], by omega, by go_num, Lib.hid (by rw [HOT.out, List.map_append, List.map_append, HCO.out]; simp only [List.map_cons, List.map_nil, HCN.out]), HOA, HWA, HBA⟩
              case measure => simp [intOf]; omega
      · obtain rfl : k = l.length := by omega
        have e1 : decide ((l.length : Int) < (is.length : Int)) = false := by rw [HLL.out]; simp
        have e2 : decide (l.length < is.length) = false := by rw [HLL.out]; simp
        have hlt' : DD < W.heap.size := (Array.getElem?_eq_some_iff.1 HDK.out).1
        have hKD : wa.heap[DD]? = some (.deferred (some [])) := (HNX.out.block DD hlt').trans HDK.out
        go_wp2_with fail
        gi_wp2
        refine ⟨by simp, .inl ⟨_, _, rfl, run_takeDeferred hKD, ?_⟩⟩
        refine ⟨_, results_tmp rfl _ _ _, _, l', rfl, ownsRow_putObj (own_low HOU.out hWw) _ hKD rfl, ?_, by rw [HCO.out, hlo.out], ?_⟩
        · intro f hf
          have h := HOW.out f hf
          exact ⟨ownsRow_putObj (own_low h.key hWw) _ hKD rfl, ownsRow_putObj (own_low h.vals hWw) _ hKD rfl, fun p hp => ownsRow_putObj (own_low (h.each p hp) hWw) _ hKD rfl⟩
        · exact (HBW.out.trans (HNX.out.mono hWw)).trans (belowK_b (w := w) (Nat.le_refl _) _ DD _ _ (by simp at hDD; omega) hKD rfl rfl)
  case stop =>
    rintro D c pre W _ _ h _
    exact h.elim
theorem withF_any (A D : Option Addr) (l : List FullI) (is : List InstrD) (ds : List Int) (n m cap dc : Nat) (w : World) (his : is = l.map FullI.x) (hn : n = l.length) (hm : m = ds.length) (hlen : is.length ≤ 1000) (hdl : ds.length ≤ 1000) (hr : Row w A l) (hd : Cells w D (ncells ds)) (hok : ∀ x ∈ is, x.ok) (hfit : ∀ f ∈ l, f.fits) (gone : List Int) (hgone : Hid (goneOf ds (pairsTo (opsOf is) is.length) = gone)) (lo : List FullI) (hlo : Hid (outF gone l l.length = lo)) :
    Calls Try.prog 13 #[.slice A n cap, .slice D m dc] w fun e w' => ∃ A' c' l', e = .returned (.slice A' l'.length c') ∧ (A' = none → c' = 0) ∧ Row w' A' l' ∧ l'.map FullI.con = lo.map FullI.con ∧ Ext w w' := by
  have hn' : n = is.length := by rw [hn, his, List.length_map]
  subst hn' hm
  refine (callsIn_wide (n := 9)).1 ((withF_in 9 (by omega) A D l is ds cap dc his hlen hdl w hr hd hok hfit gone hgone lo hlo).mono ?_)
  rintro e w' ⟨v, l', rfl, h2, h3, h4, h5⟩
  obtain ⟨A', c', rfl, h6, h7⟩ := row_cells h2
  exact ⟨A', c', l', rfl, h6, ⟨h7, fun f hf => (h3 f hf).at⟩, h4, h5⟩
end Go.Proofs.Ytngbpaiohfokbaa
