/- key.Of, walked. -/
import Derived.Test.YthofccoefiogiaaOf
import Derived.Deep.Cut
namespace Go.Proofs.Ythofccoefiogiaa
open Go Go.RowKit
set_option linter.unusedVariables false
set_option linter.unusedSimpArgs false
theorem infoKind : (Try.prog.info? 23).map (fun i => (i.zero, i.size, i.bytes)) = some (some (.agg #[.int .u8 0, .int .i64 0, .int .i64 0]), 3, 24) := by kernel_rfl
theorem cells_at {w : World} {g g' : Nat} {cs : List Value} (h : g = g') (hc : Cells w (some ⟨g', 0, none⟩) cs) : Cells w (some ⟨g, 0, none⟩) cs := by rw [h]; exact hc
theorem tcells_snoc (l : List TermD) (t : TermD) : tcells (l ++ [t]) = tcells l ++ [.int .u8 t.1, .int .i64 t.2.1, .int .i64 t.2.2] := by
  unfold tcells; rw [List.flatMap_append]; rfl
theorem of_next {w W w4 : World} {g n : Nat} {v : Value} {xs : List Value} {z : Array Value} (hw : w.heap.size = g) (hX : Ext w W ∧ g < W.heap.size ∧ Blk W g 23 z) (hO : W.ownsRow (g + 1) 23 3 v n xs) (hg : W.grownBy w4 v.ownBlock) :
    Ext w w4 ∧ g < w4.heap.size ∧ Blk w4 g 23 z := by
  refine ⟨Below.grown hX.1 hg hX.1.size (fun k hk => ?_), Nat.lt_of_lt_of_le hX.2.1 hg.size, hX.2.2.grown hg (fun e => ?_)⟩
  · have := (hO.lt k hk).1
    omega
  · have := (hO.lt g e.symm).1
    omega
theorem of_alloc {w W : World} {g : Nat} {z : Array Value} (hX : Ext w W ∧ g < W.heap.size ∧ Blk W g 23 z) (o : Obj) : Ext w (W.alloc o) ∧ g < (W.alloc o).heap.size ∧ Blk (W.alloc o) g 23 z :=
  ⟨hX.1.trans (Ext.alloc _ _), by have := hX.2.1; simp; omega, hX.2.2.alloc _⟩
theorem of_ext {w W W' : World} {g : Nat} {z : Array Value} (hX : Ext w W ∧ g < W.heap.size ∧ Blk W g 23 z) (h : Ext W W') : Ext w W' ∧ g < W'.heap.size ∧ Blk W' g 23 z :=
  ⟨hX.1.trans h, Nat.lt_of_lt_of_le hX.2.1 h.size, hX.2.2.ext h⟩
theorem neg_v (a r : KindD) (w : World) (h : Hid (negN a = r)) :
    Calls Try.prog 62 #[a.val] w fun e w' => e = .returned r.val ∧ Ext w w' := by
  rw [← h.out]; exact neg_any a w
theorem pair_v (kind : Int) (a b r : KindD) (w : World) (hk : kind = 3 ∨ kind = 4 ∨ kind = 5) (h : Hid (pairN kind a b = r)) :
    Calls Try.prog 63 #[.int .u8 kind, a.val, b.val] w fun e w' => e = .returned r.val ∧ Ext w w' := by
  rw [← h.out]; exact pair_any kind a b w hk
theorem blk_cells {w : World} {g : Nat} {t : TypeId} {cs : Array Value} (h : Blk w g t cs) : Cells w (some ⟨g, 0, none⟩) cs.toList := by
  refine .inr ⟨g, 0, rfl, h.lt, fun k hk => ?_⟩
  rw [Nat.zero_add, h.cell]
  simp
theorem own_there {w : World} {base : Nat} {e : TypeId} {b n c : Nat} {xs : List Value} (h : w.ownsRow base e 3 (.slice (some ⟨b, 0, none⟩) (n + 1) c) (n + 1) xs) : w.there b (n * 3) 3 := by
  intro j hj
  have hl := h.1
  refine ⟨?_, h.frozenAt _⟩
  rw [h.cellAt (n * 3 + j) (by omega), List.getElem?_eq_getElem (by omega)]
  rfl
theorem of_touch {w W W' : World} {g b : Nat} {z : Array Value} (hw : w.heap.size = g) (hX : Ext w W ∧ g < W.heap.size ∧ Blk W g 23 z) (ht : Touch b W W') (hb : g + 1 ≤ b) :
    Ext w W' ∧ g < W'.heap.size ∧ Blk W' g 23 z := by
  refine ⟨ht.ext hX.1 (by omega), by rw [ht.size]; exact hX.2.1, ht.blk hX.2.2 (by omega)⟩
theorem stepK_bad (ps : List KindD) (t : TermD) (st : List KindD) (h1 : t.1 ≠ 1) (h2 : t.1 ≠ 2) (h6 : t.1 ≠ 6) (h : t.1 < 3 ∨ 5 < t.1) : stepK ps t st = none := by
  unfold stepK
  rw [if_neg h1, if_neg h2, if_neg h6, if_neg (by omega)]
theorem stepK_few (ps : List KindD) (t : TermD) (st : List KindD) (h : t.1 = 3 ∨ t.1 = 4 ∨ t.1 = 5) (hs : st.length < 2) : stepK ps t st = none := by
  unfold stepK
  rw [if_neg (by omega), if_neg (by omega), if_neg (by omega), if_pos h]
  match st, hs with
  | [], _ => rfl
  | [_], _ => rfl
theorem stepK_pair (ps : List KindD) (t : TermD) (x y : KindD) (r : List KindD) (h : t.1 = 3 ∨ t.1 = 4 ∨ t.1 = 5) : stepK ps t (y :: x :: r) = some (pairN t.1 x y :: r) := by
  unfold stepK
  rw [if_neg (by omega), if_neg (by omega), if_neg (by omega), if_pos h]
set_option maxHeartbeats 8000000 in
set_option maxRecDepth 4000 in
theorem of_any (A V : Option Addr) (l : List TermD) (ps : List KindD) (c d : Nat) (w : World) (hl : l.length ≤ 900) (hv : ps.length ≤ 900) (hA : Cells w A (tcells l)) (hV : Cells w V (tcells ps)) (hok : ∀ t ∈ l, t.ok) :
    Calls Try.prog 28 #[.slice A l.length c, .slice V ps.length d] w fun e w' => e = .returned (ofR ps l).val ∧ Ext w w' := by
  obtain ⟨i0, hi, hz0, hz1, hz2⟩ := info_parts infoKind
  go_enter Try.func28, Try.ntmps28
  go_wp2_with fail
  have HR0 : Hid (Blk (w.alloc (.cells #[.int .u8 0, .int .i64 0, .int .i64 0] 23)) w.heap.size 23 #[.int .u8 0, .int .i64 0, .int .i64 0]) := Blk.new w _ _
  have HX : Hid (Ext w (w.alloc (.cells #[.int .u8 0, .int .i64 0, .int .i64 0] 23))) := Ext.alloc _ _
  have hg : w.heap.size < (w.alloc (.cells #[.int .u8 0, .int .i64 0, .int .i64 0] 23)).heap.size := by simp
  have HOK := Lib.hid hok
  clear hok
  have HV := Lib.hid hV
  clear hV
  generalize hgd : w.heap.size = g at *
  have HGD := Lib.hid hgd
  clear hgd
  generalize w.alloc (.cells #[.int .u8 0, .int .i64 0, .int .i64 0] 23) = w1 at *
  go_loopw [11, 5] (fun i p wr => ∃ (k : Nat) (st : List KindD) (Ap : Option Addr) (cp : Nat), k ≤ l.length ∧ i = .int .i64 k ∧ p = .slice Ap st.length cp ∧ (Ap = none → cp = 0) ∧ Hid (ofS ps (l.take k) [] = some st) ∧ Hid (wr.ownsRow (g + 1) 23 3 (.slice Ap st.length cp) st.length (tcells st.reverse)) ∧ st.length ≤ k ∧ Hid (Ext w wr ∧ g < wr.heap.size ∧ Blk wr g 23 #[.int .u8 0, .int .i64 0, .int .i64 0])) (fun i _ _ => l.length - (intOf i).toNat)
  case atStart => exact ⟨0, [], none, 0, Nat.zero_le _, rfl, rfl, fun _ => rfl, rfl, World.ownsRow_nil _ _ _ _, by simp, HX.out, hg, HR0.out⟩
  case round =>
    obtain ⟨k, st, Ap, cp, hk, rfl, rfl, hcp, HE, HO, hst, HXr⟩ := hrel
    obtain ⟨wa, rfl⟩ : ∃ wa : World, wa = wr := ⟨_, rfl⟩
    clear HX hg HR0
    by_cases hkl : k < l.length
    · obtain ⟨b, off, rfl, hb, hc⟩ := hA.at_ (by rw [tcells_len]; omega)
      have hbg : b < w.heap.size := hb
      obtain ⟨t1, t2, t3⟩ := tcells_at l k hkl
      have c1 : wa.cell? ⟨b, off + k * 3, none⟩ = some (.int .u8 (l[k]).1) := ((HXr.out.1.cell (p := ⟨b, _, none⟩) hbg).trans (hc _ (by rw [tcells_len]; omega))).trans t1
      have c2 : wa.cell? ⟨b, off + k * 3 + 1, none⟩ = some (.int .i64 (l[k]).2.1) := ((HXr.out.1.cell (p := ⟨b, _, none⟩) hbg).trans (by rw [Nat.add_assoc]; exact hc _ (by rw [tcells_len]; omega))).trans t2
      have c3 : wa.cell? ⟨b, off + k * 3 + 2, none⟩ = some (.int .i64 (l[k]).2.2) := ((HXr.out.1.cell (p := ⟨b, _, none⟩) hbg).trans (by rw [Nat.add_assoc]; exact hc _ (by rw [tcells_len]; omega))).trans t3
      have HN := Lib.hid (ofS_take ps l k hkl st HE.out)
      have HF := Lib.hid (ofS_fail ps l k hkl st HE.out)
      have hokt := HOK.out _ (List.getElem_mem hkl)
      clear hc t1 t2 t3 hA
      generalize l[k] = t at *
      obtain ⟨kd, nn, vv⟩ := t
      obtain ⟨hk1, hn1, hv1⟩ := hokt
      simp only at hk1 hn1 hv1 c1 c2 c3
      have HBX : Hid (Blk (wa.alloc (.cells #[.int .u8 kd, .int .i64 nn, .int .i64 vv] 57)) wa.heap.size 57 #[.int .u8 kd, .int .i64 nn, .int .i64 vv]) := Blk.new _ _ _
      have HO2 : Hid ((wa.alloc (.cells #[.int .u8 kd, .int .i64 nn, .int .i64 vv] 57)).ownsRow (g + 1) 23 3 (.slice Ap st.length cp) st.length (tcells st.reverse)) := HO.out.alloc _
      have HX2 : Hid (Ext w (wa.alloc (.cells #[.int .u8 kd, .int .i64 nn, .int .i64 vv] 57)) ∧ g < (wa.alloc (.cells #[.int .u8 kd, .int .i64 nn, .int .i64 vv] 57)).heap.size ∧ Blk (wa.alloc (.cells #[.int .u8 kd, .int .i64 nn, .int .i64 vv] 57)) g 23 #[.int .u8 0, .int .i64 0, .int .i64 0]) := ⟨HXr.out.1.trans (Ext.alloc _ _), by have := HXr.out.2.1; simp; omega, HXr.out.2.2.alloc _⟩
      have hx1 : (wa.alloc (.cells #[.int .u8 kd, .int .i64 nn, .int .i64 vv] 57)).cell? ⟨wa.heap.size, 0, none⟩ = some (.int .u8 kd) := HBX.out.cell 0
      have hx2 : (wa.alloc (.cells #[.int .u8 kd, .int .i64 nn, .int .i64 vv] 57)).cell? ⟨wa.heap.size, 1, none⟩ = some (.int .i64 nn) := HBX.out.cell 1
      have hx3 : (wa.alloc (.cells #[.int .u8 kd, .int .i64 nn, .int .i64 vv] 57)).cell? ⟨wa.heap.size, 2, none⟩ = some (.int .i64 vv) := HBX.out.cell 2
      have HQ0 : Hid (g < wa.heap.size) := HXr.out.2.1
      clear HO HXr
      by_cases h1 : kd = 1
      · subst h1
        clear HF
        have HOL := Lib.hid (HO2.out.alloc (.cells #[.int .u8 1, .int .i64 nn, .int .i64 0] 23))
        have HXL := Lib.hid (of_alloc HX2.out (.cells #[.int .u8 1, .int .i64 nn, .int .i64 0] 23))
        go_wp2_with (at_builtin; refine wpList_grow rfl (.tmp 22) (.tmp 26) 52 rfl (g + 1) 23 i0 _ 3 24 Try.underlying52 hi hz0 hz1 hz2 rfl (by decide) _ st.length (tcells st.reverse) rfl HOL.out _ 1 1 [.int .u8 1, .int .i64 nn, .int .i64 0] rfl (by simp) rfl ?c1 ?c2 ?c3 ?c4 ?c5 ?_)
        case c1 => exact cells_at (by simp) (Cells.new _ 23 #[.int .u8 1, .int .i64 nn, .int .i64 0])
        case c2 => first | (intro u hu; simp at hu; rcases hu with rfl | rfl | rfl <;> rfl) | exact ⟨rfl, rfl⟩ | exact ⟨rfl, rfl, rfl⟩
        case c3 => unfold maxLen; omega
        case c4 => omega
        case c5 => have := HXL.out.2.1; simp at this ⊢; omega
        intro A' c' w4 hA' hO4 hgrow
        have HX4 := Lib.hid (of_next HGD.out HXL.out HOL.out hgrow)
        have HO5 : Hid (w4.ownsRow (g + 1) 23 3 (.slice A' (st.length + 1) c') (st.length + 1) (tcells (((1, nn, 0) : KindD) :: st).reverse)) := Lib.hid (by rw [List.reverse_cons, tcells_snoc]; exact hO4)
        have HN1 : Hid (ofS ps (l.take (k + 1)) [] = some ((1, nn, 0) :: st)) := Lib.hid (HN.out.trans (by rfl))
        clear hO4 hgrow HXL HOL
        go_wp2_with fail
        go_roundw
        case rel => exact ⟨k + 1, _, A', c', by omega, by go_num, rfl, hA', HN1, HO5, by simp; omega, HX4⟩
        case measure => simp [intOf]; omega
      · have e1 : (kd == 1) = false := beq_eq_false_iff_ne.2 h1
        by_cases h2 : kd = 2
        · subst h2
          by_cases hneg : vv < 0
          · have hd : decide (vv < 0) = true := by simpa using hneg
            have HOL := Lib.hid (HO2.out.alloc (.cells #[.int .u8 3, .int .i64 0, .int .i64 0] 23))
            have HXL := Lib.hid (of_alloc HX2.out (.cells #[.int .u8 3, .int .i64 0, .int .i64 0] 23))
            go_wp2_with (at_builtin; refine wpList_grow rfl (.tmp 44) (.tmp 46) 52 rfl (g + 1) 23 i0 _ 3 24 Try.underlying52 hi hz0 hz1 hz2 rfl (by decide) _ st.length (tcells st.reverse) rfl HOL.out _ 1 1 [.int .u8 3, .int .i64 0, .int .i64 0] rfl (by simp) rfl ?c1 ?c2 ?c3 ?c4 ?c5 ?_)
            case c1 => exact cells_at (by simp) (Cells.new _ 23 #[.int .u8 3, .int .i64 0, .int .i64 0])
            case c2 => first | (intro u hu; simp at hu; rcases hu with rfl | rfl | rfl <;> rfl) | exact ⟨rfl, rfl⟩ | exact ⟨rfl, rfl, rfl⟩
            case c3 => unfold maxLen; omega
            case c4 => omega
            case c5 => have := HXL.out.2.1; simp at this ⊢; omega
            intro A' c' w4 hA' hO4 hgrow
            have HX4 := Lib.hid (of_next HGD.out HXL.out HOL.out hgrow)
            have HO5 : Hid (w4.ownsRow (g + 1) 23 3 (.slice A' (st.length + 1) c') (st.length + 1) (tcells (((3, 0, 0) : KindD) :: st).reverse)) := Lib.hid (by rw [List.reverse_cons, tcells_snoc]; exact hO4)
            have HN1 : Hid (ofS ps (l.take (k + 1)) [] = some ((3, 0, 0) :: st)) := Lib.hid (HN.out.trans (by simp [stepK]; omega))
            clear hO4 hgrow HXL HOL
            go_wp2_with fail
            go_roundw
            case rel => exact ⟨k + 1, _, A', c', by omega, by go_num, rfl, hA', HN1, HO5, by simp; omega, HX4⟩
            case measure => simp [intOf]; omega
          · have hd : decide (vv < 0) = false := by simpa using hneg
            by_cases hbig : (ps.length : Int) ≤ vv
            · have hd2 : decide ((ps.length : Int) ≤ vv) = true := by simpa using hbig
              have HOL := Lib.hid (HO2.out.alloc (.cells #[.int .u8 3, .int .i64 0, .int .i64 0] 23))
              have HXL := Lib.hid (of_alloc HX2.out (.cells #[.int .u8 3, .int .i64 0, .int .i64 0] 23))
              go_wp2_with (at_builtin; refine wpList_grow rfl (.tmp 44) (.tmp 46) 52 rfl (g + 1) 23 i0 _ 3 24 Try.underlying52 hi hz0 hz1 hz2 rfl (by decide) _ st.length (tcells st.reverse) rfl HOL.out _ 1 1 [.int .u8 3, .int .i64 0, .int .i64 0] rfl (by simp) rfl ?c1 ?c2 ?c3 ?c4 ?c5 ?_)
              case c1 => exact cells_at (by simp) (Cells.new _ 23 #[.int .u8 3, .int .i64 0, .int .i64 0])
              case c2 => first | (intro u hu; simp at hu; rcases hu with rfl | rfl | rfl <;> rfl) | exact ⟨rfl, rfl⟩ | exact ⟨rfl, rfl, rfl⟩
              case c3 => unfold maxLen; omega
              case c4 => omega
              case c5 => have := HXL.out.2.1; simp at this ⊢; omega
              intro A' c' w4 hA' hO4 hgrow
              have HX4 := Lib.hid (of_next HGD.out HXL.out HOL.out hgrow)
              have HO5 : Hid (w4.ownsRow (g + 1) 23 3 (.slice A' (st.length + 1) c') (st.length + 1) (tcells (((3, 0, 0) : KindD) :: st).reverse)) := Lib.hid (by rw [List.reverse_cons, tcells_snoc]; exact hO4)
              have HN1 : Hid (ofS ps (l.take (k + 1)) [] = some ((3, 0, 0) :: st)) := Lib.hid (HN.out.trans (by simp [stepK]; omega))
              clear hO4 hgrow HXL HOL
              go_wp2_with fail
              go_roundw
              case rel => exact ⟨k + 1, _, A', c', by omega, by go_num, rfl, hA', HN1, HO5, by simp; omega, HX4⟩
              case measure => simp [intOf]; omega
            · have hd2 : decide ((ps.length : Int) ≤ vv) = false := by simpa using hbig
              obtain ⟨m, rfl⟩ := Int.eq_ofNat_of_zero_le (show 0 ≤ vv by omega)
              have hm : m < ps.length := by omega
              obtain ⟨b2, off2, rfl, hb2, hc2⟩ := HV.out.at_ (by rw [tcells_len]; omega)
              obtain ⟨u1, u2, u3⟩ := tcells_at ps m hm
              have d1 : (wa.alloc (.cells #[.int .u8 2, .int .i64 nn, .int .i64 (m : Int)] 57)).cell? ⟨b2, off2 + m * 3, none⟩ = some (.int .u8 (ps[m]).1) := ((HX2.out.1.cell (p := ⟨b2, _, none⟩) hb2).trans (hc2 _ (by rw [tcells_len]; omega))).trans u1
              have d2 : (wa.alloc (.cells #[.int .u8 2, .int .i64 nn, .int .i64 (m : Int)] 57)).cell? ⟨b2, off2 + m * 3 + 1, none⟩ = some (.int .i64 (ps[m]).2.1) := ((HX2.out.1.cell (p := ⟨b2, _, none⟩) hb2).trans (by rw [Nat.add_assoc]; exact hc2 _ (by rw [tcells_len]; omega))).trans u2
              have d3 : (wa.alloc (.cells #[.int .u8 2, .int .i64 nn, .int .i64 (m : Int)] 57)).cell? ⟨b2, off2 + m * 3 + 2, none⟩ = some (.int .i64 (ps[m]).2.2) := ((HX2.out.1.cell (p := ⟨b2, _, none⟩) hb2).trans (by rw [Nat.add_assoc]; exact hc2 _ (by rw [tcells_len]; omega))).trans u3
              have hn2 : ofS ps (l.take (k + 1)) [] = some (plainN ps[m] :: st) := HN.out.trans (by simp [stepK, hm])
              clear hc2 u1 u2 u3 HN HF
              generalize ps[m] = y at *
              obtain ⟨sy, ny, py⟩ := y
              obtain ⟨v, HVV⟩ : ∃ v, Hid (plainN (sy, ny, py) = v) := ⟨_, Lib.hid rfl⟩
              rw [HVV.out] at hn2
              have HN := Lib.hid hn2
              clear hn2
              obtain ⟨sv, nv, pv⟩ := v
              simp only at d1 d2 d3
              go_wp2_with fail
              refine (plain_v (sy, ny, py) (sv, nv, pv) _ HVV).mono ?_
              rintro e w3 ⟨rfl, hx⟩
              simp only [KindD.val]
              have HO3 := Lib.hid (own_ext HO2.out hx)
              have HX3 := Lib.hid (of_ext HX2.out hx)
              clear hx d1 d2 d3 HO2 HX2 hx1 hx2 hx3 HBX c1 c2 c3
              have HOL := Lib.hid (HO3.out.alloc (.cells #[.int .u8 sv, .int .i64 nv, .int .i64 pv] 23))
              have HXL := Lib.hid (of_alloc HX3.out (.cells #[.int .u8 sv, .int .i64 nv, .int .i64 pv] 23))
              go_wp2_with (at_builtin; refine wpList_grow rfl (.tmp 52) (.tmp 59) 52 rfl (g + 1) 23 i0 _ 3 24 Try.underlying52 hi hz0 hz1 hz2 rfl (by decide) _ st.length (tcells st.reverse) rfl HOL.out _ 1 1 [.int .u8 sv, .int .i64 nv, .int .i64 pv] rfl (by simp) rfl ?c1 ?c2 ?c3 ?c4 ?c5 ?_)
              case c1 => exact cells_at (by simp) (Cells.new _ 23 #[.int .u8 sv, .int .i64 nv, .int .i64 pv])
              case c2 => first | (intro u hu; simp at hu; rcases hu with rfl | rfl | rfl <;> rfl) | exact ⟨rfl, rfl⟩ | exact ⟨rfl, rfl, rfl⟩
              case c3 => unfold maxLen; omega
              case c4 => omega
              case c5 => have := HXL.out.2.1; simp at this ⊢; omega
              intro A' c' w4 hA' hO4 hgrow
              have HX4 := Lib.hid (of_next HGD.out HXL.out HOL.out hgrow)
              have HO5 : Hid (w4.ownsRow (g + 1) 23 3 (.slice A' (st.length + 1) c') (st.length + 1) (tcells (((sv, nv, pv) : KindD) :: st).reverse)) := Lib.hid (by rw [List.reverse_cons, tcells_snoc]; exact hO4)
              have HN1 : Hid (ofS ps (l.take (k + 1)) [] = some ((sv, nv, pv) :: st)) := Lib.hid (HN.out.trans (by rfl))
              clear hO4 hgrow HXL HOL
              go_wp2_with fail
              go_roundw
              case rel => exact ⟨k + 1, _, A', c', by omega, by go_num, rfl, hA', HN1, HO5, by simp; omega, HX4⟩
              case measure => simp [intOf]; omega
        · have e2 : (kd == 2) = false := beq_eq_false_iff_ne.2 h2
          by_cases h6 : kd = 6
          · subst h6
            cases st with
            | nil =>
              have HR : Hid (ofR ps l = (3, 0, 0)) := Lib.hid (HF.out (by rfl))
              clear HF HN HO2 HE
              go_upto_region 6 with fail
              go_wp2_with (refine wpList_put rfl 23 (.tmp 4) (.tmp 17) rfl g #[.int .u8 3, .int .i64 0, .int .i64 0] rfl rfl 23 _ HX2.out.2.2 (by kernel_rfl) rfl rfl ?_)
              intro w5 ht5 hC5
              have HEX5 : Hid (Ext w w5) := ht5.ext HX2.out.1 (by have := HGD.out; omega)
              have HC5 := Lib.hid hC5
              clear ht5 hC5
              go_wp2_with fail
              exact ret_row _ _ _ _ rfl rfl rfl HC5.out Try.underlying23 rfl (by kernel_rfl) ⟨ret_val HR.out, HEX5.out⟩
            | cons y r =>
              obtain ⟨sy, ny, py⟩ := y
              obtain ⟨v, HVV⟩ : ∃ v, Hid (negN (sy, ny, py) = v) := ⟨_, Lib.hid rfl⟩
              have hn6 : ofS ps (l.take (k + 1)) [] = some (negN (sy, ny, py) :: r) := HN.out.trans (by rfl)
              rw [HVV.out] at hn6
              have HN6 := Lib.hid hn6
              clear hn6 HN HF HE
              obtain ⟨sv, nv, pv⟩ := v
              have hO := HO2.out
              rw [List.reverse_cons, tcells_snoc] at hO
              simp only [List.length_cons] at hO hst
              obtain ⟨b2, rfl, hb2, hb2s, hnc, hcm, hcc, hcut⟩ := own_cut (n := r.length) (m := 1) hO (by omega) (by simp [tcells_len])
              have HOO := Lib.hid hO
              clear hO hcut HO2
              have d1 := hcc 0 (by omega)
              have d2 := hcc 1 (by omega)
              have d3 := hcc 2 (by omega)
              simp only [Nat.add_zero, List.getElem?_cons_zero, List.getElem?_cons_succ] at d1 d2 d3
              have hrl : decide ((0:Int) < ((r.length + 1 : Nat) : Int)) = true := by simp; try omega
              go_wp2_with fail
              refine (neg_v (sy, ny, py) (sv, nv, pv) _ HVV).mono ?_
              rintro e w3 ⟨rfl, hx⟩
              simp only [KindD.val]
              have HO3 := Lib.hid (own_ext HOO.out hx)
              have HX3 := Lib.hid (of_ext HX2.out hx)
              clear hx d1 d2 d3 HOO HX2 hx1 hx2 hx3 HBX c1 c2 c3 hcc
              have hth := own_there HO3.out
              go_wp2_with (refine wpList_store_mid rfl 23 (.tmp 78) (.tmp 77) rfl b2 (r.length * 3) #[.int .u8 sv, .int .i64 nv, .int .i64 pv] ?a1 ?a2 ?a3 ?a4 ?a5 ?_)
              case a1 => go_num
              case a2 => rfl
              case a3 => exact hth
              case a4 => kernel_rfl
              case a5 => rw [← Array.all_toList]; rfl
              obtain ⟨HO4, ht4⟩ := own_set3 HO3.out (by simp [tcells_len]) (.int .u8 sv) (.int .i64 nv) (.int .i64 pv)
              have HO5 := Lib.hid HO4
              have HX5 := Lib.hid (of_touch HGD.out HX3.out ht4 hb2)
              clear HO4 ht4 hth HO3 HX3
              generalize World.setCells _ _ _ _ = w5 at *
              go_wp2_with fail
              go_roundw
              case rel => exact ⟨k + 1, (sv, nv, pv) :: r, some ⟨b2, 0, none⟩, cp, by omega, by go_num, rfl, hcp, HN6, (by rw [List.reverse_cons, tcells_snoc]; exact HO5), by simp; omega, HX5⟩
              case measure => simp [intOf]; omega
          · have e6 : (kd == 6) = false := beq_eq_false_iff_ne.2 h6
            by_cases h3 : kd < 3
            · have hd : decide ((3:Int) ≤ kd) = false := by simp; omega
              have HR : Hid (ofR ps l = (3, 0, 0)) := Lib.hid (HF.out (stepK_bad _ _ _ h1 h2 h6 (by omega)))
              clear HF HN HE HO2
              go_upto_region 6 with fail
              go_wp2_with (refine wpList_put rfl 23 (.tmp 4) (.tmp 17) rfl g #[.int .u8 3, .int .i64 0, .int .i64 0] rfl rfl 23 _ HX2.out.2.2 (by kernel_rfl) rfl rfl ?_)
              intro w5 ht5 hC5
              have HEX5 : Hid (Ext w w5) := ht5.ext HX2.out.1 (by have := HGD.out; omega)
              have HC5 := Lib.hid hC5
              clear ht5 hC5
              go_wp2_with fail
              exact ret_row _ _ _ _ rfl rfl rfl HC5.out Try.underlying23 rfl (by kernel_rfl) ⟨ret_val HR.out, HEX5.out⟩
            · have hd : decide ((3:Int) ≤ kd) = true := by simp; omega
              by_cases h5 : 5 < kd
              · have hd5 : decide (kd ≤ 5) = false := by simp; omega
                have HR : Hid (ofR ps l = (3, 0, 0)) := Lib.hid (HF.out (stepK_bad _ _ _ h1 h2 h6 (by omega)))
                clear HF HN HE HO2
                go_upto_region 6 with fail
                go_wp2_with (refine wpList_put rfl 23 (.tmp 4) (.tmp 17) rfl g #[.int .u8 3, .int .i64 0, .int .i64 0] rfl rfl 23 _ HX2.out.2.2 (by kernel_rfl) rfl rfl ?_)
                intro w5 ht5 hC5
                have HEX5 : Hid (Ext w w5) := ht5.ext HX2.out.1 (by have := HGD.out; omega)
                have HC5 := Lib.hid hC5
                clear ht5 hC5
                go_wp2_with fail
                exact ret_row _ _ _ _ rfl rfl rfl HC5.out Try.underlying23 rfl (by kernel_rfl) ⟨ret_val HR.out, HEX5.out⟩
              · have hd5 : decide (kd ≤ 5) = true := by simp; omega
                have hk35 : kd = 3 ∨ kd = 4 ∨ kd = 5 := by omega
                cases st with
                | nil =>
                  have HR : Hid (ofR ps l = (3, 0, 0)) := Lib.hid (HF.out (stepK_few ps _ [] hk35 (by simp)))
                  clear HF HN HE HO2
                  go_upto_region 6 with fail
                  go_wp2_with (refine wpList_put rfl 23 (.tmp 4) (.tmp 17) rfl g #[.int .u8 3, .int .i64 0, .int .i64 0] rfl rfl 23 _ HX2.out.2.2 (by kernel_rfl) rfl rfl ?_)
                  intro w5 ht5 hC5
                  have HEX5 : Hid (Ext w w5) := ht5.ext HX2.out.1 (by have := HGD.out; omega)
                  have HC5 := Lib.hid hC5
                  clear ht5 hC5
                  go_wp2_with fail
                  exact ret_row _ _ _ _ rfl rfl rfl HC5.out Try.underlying23 rfl (by kernel_rfl) ⟨ret_val HR.out, HEX5.out⟩
                | cons y r1 =>
                  cases r1 with
                  | nil =>
                    have HR : Hid (ofR ps l = (3, 0, 0)) := Lib.hid (HF.out (stepK_few ps _ [y] hk35 (by simp)))
                    clear HF HN HE HO2
                    go_upto_region 6 with fail
                    go_wp2_with (refine wpList_put rfl 23 (.tmp 4) (.tmp 17) rfl g #[.int .u8 3, .int .i64 0, .int .i64 0] rfl rfl 23 _ HX2.out.2.2 (by kernel_rfl) rfl rfl ?_)
                    intro w5 ht5 hC5
                    have HEX5 : Hid (Ext w w5) := ht5.ext HX2.out.1 (by have := HGD.out; omega)
                    have HC5 := Lib.hid hC5
                    clear ht5 hC5
                    go_wp2_with fail
                    exact ret_row _ _ _ _ rfl rfl rfl HC5.out Try.underlying23 rfl (by kernel_rfl) ⟨ret_val HR.out, HEX5.out⟩
                  | cons x r =>
                    obtain ⟨sx, nx, px⟩ := x
                    obtain ⟨sy, ny, py⟩ := y
                    obtain ⟨v, HVV⟩ : ∃ v, Hid (pairN kd (sx, nx, px) (sy, ny, py) = v) := ⟨_, Lib.hid rfl⟩
                    have hn6 : ofS ps (l.take (k + 1)) [] = some (pairN kd (sx, nx, px) (sy, ny, py) :: r) := HN.out.trans (stepK_pair _ _ _ _ _ hk35)
                    rw [HVV.out] at hn6
                    have HN6 := Lib.hid hn6
                    clear hn6 HN HF HE
                    obtain ⟨sv, nv, pv⟩ := v
                    have hO := HO2.out
                    rw [List.reverse_cons, tcells_snoc, List.reverse_cons, tcells_snoc] at hO
                    simp only [List.length_cons, List.append_assoc, Nat.add_assoc, List.cons_append, List.nil_append, Nat.reduceAdd] at hO hst
                    obtain ⟨b2, rfl, hb2, hb2s, hnc, hcm, hcc, hcut⟩ := own_cut (n := r.length) (m := 2) hO (by omega) (by simp [tcells_len])
                    clear hO HO2
                    have d1 := hcc 0 (by omega)
                    have d2 := hcc 1 (by omega)
                    have d3 := hcc 2 (by omega)
                    have d4 := hcc 3 (by omega)
                    have d5 := hcc 4 (by omega)
                    have d6 := hcc 5 (by omega)
                    simp only [Nat.add_zero, List.getElem?_cons_zero, List.getElem?_cons_succ] at d1 d2 d3 d4 d5 d6
                    have q0 : (r.length : Int) < (r.length : Int) + 1 + 1 := by omega
                    have q1 : (0 : Int) ≤ (r.length : Int) + 1 := by omega
                    have q2 : (r.length : Int) < (r.length : Int) + 1 := by omega
                    have q3 : (r.length + 1) * 3 = r.length * 3 + 3 := by omega
                    have q4 : (r.length : Int) ≤ (cp : Int) := by omega
                    have q5 : IntKind.i64.wrap ((r.length : Int) + 1 + 1 - 2) = (r.length : Int) := by rw [IntKind.wrap_i64]; omega
                    have q6 : IntKind.i64.wrap ((r.length : Int) + 1) = (r.length : Int) + 1 := by rw [IntKind.wrap_i64]; omega
                    have hrl : decide ((1:Int) < ((r.length + 2 : Nat) : Int)) = true := by simp; try omega
                    go_wp2_with fail
                    have HOC := Lib.hid hcut
                    clear hcc hcut hrl hd hd5 c1 c2 c3 hx1 hx2 hx3 hn1 hv1 hk1 h3 h5
                    generalize wa.alloc (.cells #[.int .u8 kd, .int .i64 nn, .int .i64 vv] 57) = wd at *
                    generalize wa.heap.size = gt at *
                    apply wp_region_ext_tail 18 (by kernel_rfl) (by kernel_rfl) (by kernel_rfl)
                    dsimp only [List.take_succ_cons, List.take_zero, List.drop_succ_cons, List.drop_zero]
                    apply step_det (.slice (some ⟨b2, 0, none⟩) (r.length + 1 + 1) cp) rfl rfl rfl
                    · intro w' hw' hH
                      clear hH
                      simp [YieldsF, go_sem]
                      exact Ext.refl _
                    apply step_det (.int .i64 ((r.length : Int) + 1 + 1)) rfl rfl rfl
                    · intro w' hw' hH
                      clear hH
                      simp [YieldsF, go_sem]
                      exact Ext.refl _
                    apply step_det (.int .i64 (r.length : Int)) rfl rfl rfl
                    · intro w' hw' hH
                      clear hH
                      simp [YieldsF, go_sem]
                      exact ⟨q5, Ext.refl _⟩
                    apply step_det (.slice (some ⟨b2, 0, none⟩) r.length cp) rfl rfl rfl
                    · intro w' hw' hH
                      clear hH
                      simp [YieldsF, go_sem, q4]
                      exact Ext.refl _
                    apply step_det (.pointer (some ⟨gt, 0, none⟩)) rfl rfl rfl
                    · intro w' hw' hH
                      clear hH
                      simp [YieldsF, go_sem]
                      exact Ext.refl _
                    apply step_det (.int .u8 kd) rfl rfl rfl
                    · intro w' hw' hH
                      clear hH
                      have c0 := (HBX.out.ext hw').cell 0
                      simp [YieldsF, go_sem, c0]
                      exact Ext.refl _
                    apply step_det (.slice (some ⟨b2, 0, none⟩) (r.length + 1 + 1) cp) rfl rfl rfl
                    · intro w' hw' hH
                      clear hH
                      simp [YieldsF, go_sem]
                      exact Ext.refl _
                    apply step_det (.int .i64 ((r.length : Int) + 1 + 1)) rfl rfl rfl
                    · intro w' hw' hH
                      clear hH
                      simp [YieldsF, go_sem]
                      exact Ext.refl _
                    apply step_det (.int .i64 (r.length : Int)) rfl rfl rfl
                    · intro w' hw' hH
                      clear hH
                      simp [YieldsF, go_sem]
                      exact ⟨q5, Ext.refl _⟩
                    apply step_det (.pointer (some ⟨b2, r.length * 3, none⟩)) rfl rfl rfl
                    · intro w' hw' hH
                      clear hH
                      simp [YieldsF, go_sem, q0]
                      exact Ext.refl _
                    apply step_det (.agg #[.int .u8 sx, .int .i64 nx, .int .i64 px]) rfl rfl rfl
                    · intro w' hw' hH
                      clear hH
                      have d1' := (hw'.cell (p := ⟨b2, _, none⟩) hb2s).trans d1
                      have d2' := (hw'.cell (p := ⟨b2, _, none⟩) hb2s).trans d2
                      have d3' := (hw'.cell (p := ⟨b2, _, none⟩) hb2s).trans d3
                      simp [YieldsF, go_sem, d1', d2', d3']
                      exact Ext.refl _
                    apply step_det (.slice (some ⟨b2, 0, none⟩) (r.length + 1 + 1) cp) rfl rfl rfl
                    · intro w' hw' hH
                      clear hH
                      simp [YieldsF, go_sem]
                      exact Ext.refl _
                    apply step_det (.int .i64 ((r.length : Int) + 1 + 1)) rfl rfl rfl
                    · intro w' hw' hH
                      clear hH
                      simp [YieldsF, go_sem]
                      exact Ext.refl _
                    apply step_det (.int .i64 ((r.length : Int) + 1)) rfl rfl rfl
                    · intro w' hw' hH
                      clear hH
                      simp [YieldsF, go_sem]
                      exact ⟨q6, Ext.refl _⟩
                    apply step_det (.pointer (some ⟨b2, r.length * 3 + 3, none⟩)) rfl rfl rfl
                    · intro w' hw' hH
                      clear hH
                      simp [YieldsF, go_sem, q1, q2, q3]
                      exact Ext.refl _
                    apply step_det (.agg #[.int .u8 sy, .int .i64 ny, .int .i64 py]) rfl rfl rfl
                    · intro w' hw' hH
                      clear hH
                      have d4' := (hw'.cell (p := ⟨b2, _, none⟩) hb2s).trans d4
                      have d5' := (hw'.cell (p := ⟨b2, _, none⟩) hb2s).trans d5
                      have d6' := (hw'.cell (p := ⟨b2, _, none⟩) hb2s).trans d6
                      simp [YieldsF, go_sem, d4', d5', d6']
                      exact Ext.refl _
                    apply step_det (.agg #[.int .u8 sv, .int .i64 nv, .int .i64 pv]) rfl rfl rfl
                    · intro w' hw' hH
                      clear hH
                      simp [YieldsF, go_sem]
                      refine (pair_v kd (sx, nx, px) (sy, ny, py) (sv, nv, pv) w' hk35 HVV).mono ?_
                      rintro e w2 ⟨rfl, hx⟩
                      exact ⟨_, rfl, rfl, hx⟩
                    apply step_fact (fun v w' => ∃ g', v = .slice (some ⟨g', 0, none⟩) 1 1 ∧ Blk w' g' 23 #[.int .u8 sv, .int .i64 nv, .int .i64 pv]) (by rintro v w w' ⟨g, h1, h2⟩ hx; exact ⟨g, h1, h2.ext hx⟩) rfl rfl rfl
                    · intro w' hw' hH
                      clear hH
                      simp [YieldsF, go_sem]
                      exact ⟨Blk.new w' _ _, Ext.alloc _ _⟩
                    intro v109
                    apply WalkF_nil
                    intro w2 hw2 hH
                    obtain ⟨gp, rfl, hP⟩ := hH _ (List.mem_cons_self ..)
                    clear hH
                    have HOL := Lib.hid (own_ext HOC.out hw2)
                    have HXL := Lib.hid (of_ext HX2.out hw2)
                    clear HOC HX2 hw2 HBX d1 d2 d3 d4 d5 d6
                    have HC : Cells w2 (some ⟨gp, 0, none⟩) [.int .u8 sv, .int .i64 nv, .int .i64 pv] := blk_cells hP
                    simp only [Act.put]
                    simp
                    refine wpList_grow rfl (.tmp 95) (.tmp 109) 52 rfl (g + 1) 23 i0 _ 3 24 Try.underlying52 hi hz0 hz1 hz2 rfl (by decide) _ r.length (tcells r.reverse) rfl HOL.out _ 1 1 [.int .u8 sv, .int .i64 nv, .int .i64 pv] rfl (by simp) rfl HC ?c2 ?c3 ?c4 ?c5 ?_
                    case c2 => first | (intro u hu; simp at hu; rcases hu with rfl | rfl | rfl <;> rfl) | exact ⟨rfl, rfl⟩ | exact ⟨rfl, rfl, rfl⟩
                    case c3 => unfold maxLen; omega
                    case c4 => omega
                    case c5 => exact HXL.out.2.1
                    intro A' c' w4 hA' hO4 hgrow
                    have HX4 := Lib.hid (of_next HGD.out HXL.out HOL.out hgrow)
                    have HO5 := Lib.hid hO4
                    clear hO4 hgrow HXL HOL HC hP hcp
                    go_wp2_with fail
                    go_roundw
                    case rel => exact ⟨k + 1, (sv, nv, pv) :: r, A', c', by omega, by go_num, rfl, hA', HN6, (by rw [List.reverse_cons, tcells_snoc]; exact HO5), by simp; omega, HX4⟩
                    case measure => simp [intOf]; omega
    · have hke : k = l.length := by omega
      subst hke
      have hfin : ofS ps l [] = some st := by have := HE.out; rwa [List.take_length] at this
      have e1 : decide ((l.length : Int) < (l.length : Int)) = false := by simp
      clear HE HV HOK hA
      by_cases hs : st.length = 1
      · obtain ⟨x, rfl⟩ : ∃ x, st = [x] := by
          match st, hs with
          | [x], _ => exact ⟨x, rfl⟩
        have HR : Hid (ofR ps l = x) := Lib.hid (by unfold ofR; rw [hfin])
        clear hfin hst
        obtain ⟨sx, nx, px⟩ := x
        obtain ⟨b2, rfl, hb2, hb2s, hnc, hcm, hcc, hcut⟩ := own_cut (n := 0) (m := 1) (xs := []) HO.out (by omega) rfl
        have d1 := hcc 0 (by omega)
        have d2 := hcc 1 (by omega)
        have d3 := hcc 2 (by omega)
        simp only [Nat.zero_mul, Nat.add_zero, Nat.zero_add] at d1 d2 d3
        replace d1 : wa.cell? ⟨b2, 0, none⟩ = some (.int .u8 sx) := d1
        replace d2 : wa.cell? ⟨b2, 1, none⟩ = some (.int .i64 nx) := d2
        replace d3 : wa.cell? ⟨b2, 2, none⟩ = some (.int .i64 px) := d3
        clear hcc hcut HO
        go_upto_region 20 with fail
        go_wp2_with (refine wpList_put rfl 23 (.tmp 4) (.tmp 118) rfl g #[.int .u8 sx, .int .i64 nx, .int .i64 px] rfl rfl 23 _ HXr.out.2.2 (by kernel_rfl) rfl rfl ?_)
        intro w5 ht5 hC5
        have HEX5 : Hid (Ext w w5) := ht5.ext HXr.out.1 (by have := HGD.out; omega)
        have HC5 := Lib.hid hC5
        clear ht5 hC5
        go_wp2_with fail
        exact ret_row _ _ _ _ rfl rfl rfl HC5.out Try.underlying23 rfl (by kernel_rfl) ⟨ret_val HR.out, HEX5.out⟩
      · have hs1 : ((st.length : Int) == 1) = false := beq_eq_false_iff_ne.2 (by omega)
        have HR : Hid (ofR ps l = (3, 0, 0)) := Lib.hid (by
          unfold ofR
          rw [hfin]
          match st, hs with
          | [], _ => rfl
          | _ :: _ :: _, _ => rfl
          | [_], h => exact absurd rfl h)
        clear hfin hst HO
        go_upto_region 19 with fail
        go_wp2_with (refine wpList_put rfl 23 (.tmp 4) (.tmp 115) rfl g #[.int .u8 3, .int .i64 0, .int .i64 0] rfl rfl 23 _ HXr.out.2.2 (by kernel_rfl) rfl rfl ?_)
        intro w5 ht5 hC5
        have HEX5 : Hid (Ext w w5) := ht5.ext HXr.out.1 (by have := HGD.out; omega)
        have HC5 := Lib.hid hC5
        clear ht5 hC5
        go_wp2_with fail
        exact ret_row _ _ _ _ rfl rfl rfl HC5.out Try.underlying23 rfl (by kernel_rfl) ⟨ret_val HR.out, HEX5.out⟩
end Go.Proofs.Ythofccoefiogiaa
