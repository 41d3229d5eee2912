/- KeySums, walked. -/
import Derived.Test.YthofccoefiogiaaWork20
import Derived.Test.YthofccoefiogiaaRow
import Derived.Test.YthofccoefiogiaaKSLaw
import Derived.Deep.OwnRows
namespace Go.Proofs.Ythofccoefiogiaa
open Go Go.RowKit
set_option linter.unusedVariables false
set_option linter.unusedSimpArgs false
theorem infoTerm : (Try.prog.info? 57).map (fun i => (i.zero, i.size, i.bytes)) = some (some (.agg #[.int .u8 0, .int .i64 0, .int .i64 0]), 3, 24) := by kernel_rfl
theorem infoN64 : (Try.prog.info? 2).map (fun i => (i.zero, i.size, i.bytes)) = some (some (.int .i64 0), 1, 8) := by kernel_rfl
theorem tcells_one (l : List TermD) : ∀ u ∈ tcells l, u.oneCell' = true := by
  intro u hu
  simp only [tcells, List.mem_flatMap] at hu
  obtain ⟨t, _, ht⟩ := hu
  simp at ht
  rcases ht with rfl | rfl | rfl <;> rfl
theorem tcells_append (l m : List TermD) : tcells (l ++ m) = tcells l ++ tcells m := by unfold tcells; rw [List.flatMap_append]
theorem eval_w (A V : Option Addr) (l : List TermD) (vars : List Int) (n m c d : Nat) (a : Int) (b : Bool) (w : World) (hn : n = l.length) (hm : m = vars.length) (hl : l.length ≤ 900) (hv : vars.length ≤ 900) (hA : Cells w A (tcells l)) (hV : Cells w V (ncells vars)) (hok : ∀ t ∈ l, t.ok) (hvk : ∀ n ∈ vars, -9223372036854775808 ≤ n ∧ n ≤ 9223372036854775807) (h : Hid (evalR vars l = (a, b))) :
    Calls Try.prog 27 #[.slice A n c, .slice V m d] w fun e w' => e = .returned (.tuple #[.int .i64 a, .bool b]) ∧ Ext w w' := by
  subst hn hm
  refine (eval_any A V l vars c d w hl hv hA hV hok hvk).mono fun e w' ⟨he, hx⟩ => ⟨?_, hx⟩
  rw [he, h.out]
theorem own_none (w : World) (base : Nat) (h : base ≤ w.heap.size) : RowF base 57 0 [] (.slice (some ⟨w.heap.size, 0, none⟩) 0 0) (w.alloc (.cells #[] 57)) :=
  ⟨World.ownsRow_made w #[] 0 h (by simp) rfl, _, _, rfl, (fun h => by cases h), fun _ => rfl⟩
theorem wp_region_keeps {P : Program} {id : Nat} {Q' : Exit → Act → World → Prop} {a : Act} {w : World} {l : List Oper} {ks : List Take} (Fs : List (Value → World → Prop)) (m : Nat) (hm : P.follows .mixedOrders = true) (hB : factsB l.toArray m = true) (hT : tailB l.toArray m = true)
    (hE : ∀ F ∈ Fs, ∀ v w w', F v w → Ext w w' → F v w')
    (h : WalkF P l.toArray (Keeps w.heap.size Fs) w (fun a' w' => wpList P l.toArray Q' (l.drop m) a' w') (l.take m) ks a []) : (Code.region id l.toArray true).wp P Q' a w :=
  wp_region_facts (R := Keeps w.heap.size Fs) m ks hm hB hT (fun _ _ _ => Keeps.trans _ _ _) (Keeps.ext hE (Nat.le_refl _) (Below.drew (Below.refl _ _))) h
theorem Keeps.self {N : Nat} {Fs : List (Value → World → Prop)} {w0 w : World} (h : Keeps N Fs w0 w) : Keeps N Fs w w := ⟨Below.refl _ _, Nat.le_trans h.2.1 h.1.size, fun F hF v hv => hv⟩
theorem Keeps.more {N : Nat} {Fs : List (Value → World → Prop)} {w0 w w' : World} (h : Keeps N Fs w0 w) (hE : ∀ F ∈ Fs, ∀ v w w', F v w → Ext w w' → F v w') (hx : Ext w w') : Keeps N Fs w w' := Keeps.ext hE (Nat.le_trans h.2.1 h.1.size) hx
theorem Keeps.big {N : Nat} {Fs : List (Value → World → Prop)} {w0 w : World} (h : Keeps N Fs w0 w) : N ≤ w.heap.size := Nat.le_trans h.2.1 h.1.size
theorem keeps_fact {N : Nat} {Fs : List (Value → World → Prop)} {F : Value → World → Prop} (hF : F ∈ Fs) : ∀ v w w', F v w → Keeps N Fs w w' → F v w' := fun v w w' h k => k.2.2 F hF v h
theorem fs_ext (N n m : Nat) (xs ys : List Value) : ∀ F ∈ [RowF N 57 0 [], RowF N 57 (0 + n) ([] ++ xs), RowF N 57 (0 + n + m) ([] ++ xs ++ ys), LitF 57 1 #[.int .u8 3, .int .i64 0, .int .i64 0]], ∀ v w w', F v w → Ext w w' → F v w' := by
  intro F hF v w w' h hx
  simp only [List.mem_cons, List.not_mem_nil, or_false] at hF
  rcases hF with rfl | rfl | rfl | rfl
  · exact h.ext hx
  · exact h.ext hx
  · exact h.ext hx
  · exact h.ext hx
theorem fs_room (N n m : Nat) (xs ys : List Value) (w : World) : ∀ g cap w', Roomy N g (0 + n) m cap 57 ([] ++ xs) ys w w' → 0 < 0 + n → 0 < m → ∀ F ∈ [RowF N 57 0 [], RowF N 57 (0 + n) ([] ++ xs), RowF N 57 (0 + n + m) ([] ++ xs ++ ys), LitF 57 1 #[.int .u8 3, .int .i64 0, .int .i64 0]], ∀ v, F v w → F v w' := by
  intro g cap w' hr h1 h2 F hF v h
  simp only [List.mem_cons, List.not_mem_nil, or_false] at hF
  rcases hF with rfl | rfl | rfl | rfl
  · exact RowF.roomy hr h (.inl (by omega))
  · exact RowF.roomy hr h (.inl (Nat.le_refl _))
  · exact RowF.roomy hr h (.inr ⟨rfl, rfl⟩)
  · exact LitF.roomy hr h (by simp; omega)
theorem gs_ext (N n : Nat) (xs ys : List Value) (cs : Array Value) : ∀ F ∈ [RowF N 57 0 [], RowF N 57 (0 + n) ([] ++ xs), RowF N 57 (0 + n + 4) ([] ++ xs ++ ys), LitF 57 4 cs, PtrF 23 #[.int .u8 0, .int .i64 0, .int .i64 0] N], ∀ v w w', F v w → Ext w w' → F v w' := by
  intro F hF v w w' h hx
  simp only [List.mem_cons, List.not_mem_nil, or_false] at hF
  rcases hF with rfl | rfl | rfl | rfl | rfl
  · exact h.ext hx
  · exact h.ext hx
  · exact h.ext hx
  · exact h.ext hx
  · exact h.ext hx
theorem gs_room (N n : Nat) (xs ys : List Value) (cs : Array Value) (hcs : cs.size = 12) (w : World) : ∀ g cap w', Roomy N g (0 + n) 4 cap 57 ([] ++ xs) ys w w' → 0 < 0 + n → 0 < 4 → ∀ F ∈ [RowF N 57 0 [], RowF N 57 (0 + n) ([] ++ xs), RowF N 57 (0 + n + 4) ([] ++ xs ++ ys), LitF 57 4 cs, PtrF 23 #[.int .u8 0, .int .i64 0, .int .i64 0] N], ∀ v, F v w → F v w' := by
  intro g cap w' hr h1 h2 F hF v h
  simp only [List.mem_cons, List.not_mem_nil, or_false] at hF
  rcases hF with rfl | rfl | rfl | rfl | rfl
  · exact RowF.roomy hr h (.inl (by omega))
  · exact RowF.roomy hr h (.inl (Nat.le_refl _))
  · exact RowF.roomy hr h (.inr ⟨rfl, rfl⟩)
  · exact LitF.roomy hr h (by omega)
  · exact PtrF.roomy hr h (by decide)
theorem below_ext {w w' : World} {N : Nat} (h : w.heap.size = N) (hb : Below N w w') : Ext w w' := by rw [← h] at hb; exact hb
theorem Ext.grown {w0 w w' : World} {row : Option Nat} (h : Ext w0 w) (hg : w.grownBy w' row) (hr : ∀ k, row = some k → w0.heap.size ≤ k) : Ext w0 w' := Below.grown h hg h.size hr
theorem ok_sum {a b : List TermD} (ha : ∀ t ∈ a, t.ok) (hb : ∀ t ∈ b, t.ok) : ∀ t ∈ a ++ b ++ [((3, 0, 0) : TermD)], t.ok := by
  intro t ht
  rcases List.mem_append.1 ht with h | h
  · rcases List.mem_append.1 h with h | h
    · exact ha t h
    · exact hb t h
  · have := List.mem_singleton.1 h
    subst this
    exact ⟨by decide, by decide, by decide⟩
theorem ok_back {a : List TermD} {n : Int} (ha : ∀ t ∈ a, t.ok) (hn : -9223372036854775808 ≤ n ∧ n ≤ 9223372036854775807) : ∀ t ∈ a ++ [((1, n, 0) : TermD), (3, 0, 0), (1, n, 0), (4, 0, 0)], t.ok := by
  intro t ht
  rcases List.mem_append.1 ht with h | h
  · exact ha t h
  · simp only [List.mem_cons, List.not_mem_nil, or_false] at h
    rcases h with rfl | rfl | rfl | rfl
    · exact ⟨by simp, hn, by simp⟩
    · exact ⟨by decide, by decide, by decide⟩
    · exact ⟨by simp, hn, by simp⟩
    · exact ⟨by decide, by decide, by decide⟩
set_option maxHeartbeats 8000000 in
set_option maxRecDepth 4000 in
theorem keySums_no (A1 A2 V : Option Addr) (a b : List TermD) (ps : List KindD) (n : Int) (c1 c2 d : Nat) (w : World) (z1 : A1 = none → c1 = 0) (z2 : A2 = none → c2 = 0) (h1 : a.length ≤ 60) (h2 : b.length ≤ 60) (h3 : ps.length ≤ 100)
    (hA : Cells w A1 (tcells a)) (hB : Cells w A2 (tcells b)) (hV : Cells w V (tcells ps)) (oka : ∀ t ∈ a, t.ok) (okb : ∀ t ∈ b, t.ok) (hn : -9223372036854775808 ≤ n ∧ n ≤ 9223372036854775807)
    (x y : Int) (hx : Hid (evalR (List.replicate ps.length 0) a = (x, true))) (hy : Hid (evalR (List.replicate ps.length 0) b = (y, true)))
    (su nu pu sk nk pk sz nz pz : Int) (HU : Hid (ofR ps (a ++ b ++ [(3, 0, 0)]) = (su, nu, pu))) (HUC : Hid (ofR ps (b ++ a ++ [(3, 0, 0)]) = (su, nu, pu))) (HK : Hid (ofR ps a = (sk, nk, pk)))
    (HZ : Hid (ofR ps (a ++ [(1, n, 0), (3, 0, 0), (1, n, 0), (4, 0, 0)]) = (sz, nz, pz))) (e21 : (sk == 1) = false) (e22 : (sk == 2) = false) (n21 : ¬ sk = 1) (n22 : ¬ sk = 2) :
    Calls Try.prog 7 #[.slice A1 a.length c1, .slice A2 b.length c2, .slice V ps.length d, .int .i64 n] w fun e w' => e = .returned (.bool true) ∧ Ext w w' := by
  obtain ⟨i0, hi, hz0, hz1, hz2⟩ := info_parts infoTerm
  have e1 : decide ((60 : Int) < (a.length : Int)) = false := by simp; omega
  have e2 : decide ((60 : Int) < (b.length : Int)) = false := by simp; omega
  have e3 : decide ((100 : Int) < (ps.length : Int)) = false := by simp; omega
  have hmk := run_make_row' (P := Try.prog) 53 2 (.int .i64 0) 8 Try.underlying53 infoN64 rfl .i64 .i64 ps.length (by omega) (by omega)
  have HA := Lib.hid hA
  have HB := Lib.hid hB
  have HV := Lib.hid hV
  have HOA := Lib.hid oka
  have HOB := Lib.hid okb
  have HZ1 := Lib.hid z1
  have HZ2 := Lib.hid z2
  have HNR := Lib.hid hn
  clear hA hB hV oka okb z1 z2 hn
  go_enter Try.func7, Try.ntmps7
  go_upto_region 4 with fail
  have HZR : Hid (Cells (w.alloc (.cells (madeCells #[.int .i64 0] ps.length) 2)) (some ⟨w.heap.size, 0, none⟩) (ncells (List.replicate ps.length 0))) := by
    have := Cells.new w 2 (madeCells #[.int .i64 0] ps.length)
    rw [toList_madeCells_one] at this
    unfold ncells
    rw [List.map_replicate]
    exact this
  have HX0 : Hid (Ext w (w.alloc (.cells (madeCells #[.int .i64 0] ps.length) 2))) := Ext.alloc _ _
  have HVK : Hid (∀ n ∈ List.replicate ps.length (0 : Int), -9223372036854775808 ≤ n ∧ n ≤ 9223372036854775807) := Lib.hid (fun n hn => by rw [(List.mem_replicate.1 hn).2]; decide)
  generalize w.alloc (.cells (madeCells #[.int .i64 0] ps.length) 2) = w0 at *
  generalize w.heap.size = gz at *
  clear hmk
  go_wp2_with fail
  refine (eval_w _ _ a (List.replicate ps.length 0) _ _ _ _ x _ _ rfl (by simp) (by omega) (by simp; omega) (HA.out.ext HX0.out) HZR.out HOA.out HVK.out hx).mono ?_
  rintro e w1 ⟨rfl, hx1⟩
  have HX1 := Lib.hid hx1
  clear hx1
  go_wp2_with fail
  refine (eval_w _ _ b (List.replicate ps.length 0) _ _ _ _ y _ _ rfl (by simp) (by omega) (by simp; omega) ((HB.out.ext HX0.out).ext HX1.out) (HZR.out.ext HX1.out) HOB.out HVK.out hy).mono ?_
  rintro e w2 ⟨rfl, hx2⟩
  have HX2 : Hid (Ext w w2) := Ext.trans HX0.out (Ext.trans HX1.out hx2)
  clear hx2 HX1 HX0 HZR
  go_wp2_with fail
  have HP14 : Hid (Blk (((w2.alloc (.cells #[.int .u8 3, .int .i64 0, .int .i64 0] 57)).alloc (.cells #[.int .u8 4, .int .i64 0, .int .i64 0] 57)).alloc (.cells #[.int .u8 1, .int .i64 n, .int .i64 0] 57)) w2.heap.size 57 #[.int .u8 3, .int .i64 0, .int .i64 0]) := ((Blk.new w2 _ _).alloc _).alloc _
  have HP15 : Hid (Blk (((w2.alloc (.cells #[.int .u8 3, .int .i64 0, .int .i64 0] 57)).alloc (.cells #[.int .u8 4, .int .i64 0, .int .i64 0] 57)).alloc (.cells #[.int .u8 1, .int .i64 n, .int .i64 0] 57)) (w2.heap.size + 1) 57 #[.int .u8 4, .int .i64 0, .int .i64 0]) := (blkNew (w := w2.alloc (.cells #[.int .u8 3, .int .i64 0, .int .i64 0] 57)) 57 _ (by simp)).alloc _
  have HP16 : Hid (Blk (((w2.alloc (.cells #[.int .u8 3, .int .i64 0, .int .i64 0] 57)).alloc (.cells #[.int .u8 4, .int .i64 0, .int .i64 0] 57)).alloc (.cells #[.int .u8 1, .int .i64 n, .int .i64 0] 57)) (w2.heap.size + 1 + 1) 57 #[.int .u8 1, .int .i64 n, .int .i64 0]) := blkNew (w := ((w2.alloc (.cells #[.int .u8 3, .int .i64 0, .int .i64 0] 57)).alloc (.cells #[.int .u8 4, .int .i64 0, .int .i64 0] 57))) 57 _ (by simp)
  have HX3 : Hid (Ext w (((w2.alloc (.cells #[.int .u8 3, .int .i64 0, .int .i64 0] 57)).alloc (.cells #[.int .u8 4, .int .i64 0, .int .i64 0] 57)).alloc (.cells #[.int .u8 1, .int .i64 n, .int .i64 0] 57))) := Ext.trans HX2.out (Ext.trans (Ext.trans (Ext.alloc _ _) (Ext.alloc _ _)) (Ext.alloc _ _))
  generalize ((w2.alloc (.cells #[.int .u8 3, .int .i64 0, .int .i64 0] 57)).alloc (.cells #[.int .u8 4, .int .i64 0, .int .i64 0] 57)).alloc (.cells #[.int .u8 1, .int .i64 n, .int .i64 0] 57) = w3 at *
  generalize w2.heap.size = gp at *
  have HA3 := Lib.hid (HA.out.ext HX3.out)
  have HB3 := Lib.hid (HB.out.ext HX3.out)
  clear HX2
  obtain ⟨N1, HN1⟩ : ∃ N, Hid (w3.heap.size = N) := ⟨_, Lib.hid rfl⟩
  obtain ⟨Fs1, hFs1⟩ : ∃ Fs, Fs = [RowF N1 57 0 [], RowF N1 57 (0 + a.length) ([] ++ tcells a), RowF N1 57 (0 + a.length + b.length) ([] ++ tcells a ++ tcells b), LitF 57 1 #[.int .u8 3, .int .i64 0, .int .i64 0]] := ⟨_, rfl⟩
  have HE1 : Hid (∀ F ∈ Fs1, ∀ v w w', F v w → Ext w w' → F v w') := Lib.hid (by rw [hFs1]; exact fs_ext _ _ _ _ _)
  have HR1 : Hid (∀ w g cap w', Roomy N1 g (0 + a.length) b.length cap 57 ([] ++ tcells a) (tcells b) w w' → 0 < 0 + a.length → 0 < b.length → ∀ F ∈ Fs1, ∀ v, F v w → F v w') := Lib.hid (by rw [hFs1]; exact fun w => fs_room _ _ _ _ _ w)
  have HF1 : Hid (RowF N1 57 0 [] ∈ Fs1 ∧ RowF N1 57 (0 + a.length) ([] ++ tcells a) ∈ Fs1 ∧ RowF N1 57 (0 + a.length + b.length) ([] ++ tcells a ++ tcells b) ∈ Fs1 ∧ LitF 57 1 #[.int .u8 3, .int .i64 0, .int .i64 0] ∈ Fs1) := Lib.hid (by rw [hFs1]; simp)
  clear hFs1
  apply wp_region_keeps Fs1 7 (by kernel_rfl) (by kernel_rfl) (by kernel_rfl) HE1.out
  dsimp only [List.take_succ_cons, List.take_zero, List.drop_succ_cons, List.drop_zero]
  rw [HN1.out]
  apply step_fact (RowF N1 57 0 []) (keeps_fact HF1.out.1) rfl rfl rfl
  · intro w' hw' hH
    clear hH
    simp [YieldsF, go_sem]
    exact ⟨own_none w' _ hw'.big, hw'.more HE1.out (Ext.alloc _ _)⟩
  intro va1
  apply step_det (.slice A1 a.length c1) rfl rfl rfl
  · intro w' hw' hH
    clear hH
    simp [YieldsF, go_sem]
    exact hw'.self
  apply step_fact (RowF N1 57 (0 + a.length) ([] ++ tcells a)) (keeps_fact HF1.out.2.1) rfl rfl rfl
  · intro w' hw' hH
    have h0 := hH _ (List.mem_cons_self ..) ⟨61, rfl, by decide⟩
    clear hH
    exact yields_append N1 Fs1 (.tmp 61) (.tmp 62) 47 rfl 57 i0 _ 24 Try.underlying47 hi hz0 hz1 hz2 rfl va1 0 [] rfl h0 A1 a.length c1 (tcells a) rfl HZ1.out (tcells_len _) (HA3.out.ext (below_ext HN1.out hw'.1)) (tcells_one _) (by unfold maxLen; omega) (by omega) hw'.big HE1.out (fun _ _ _ _ h => absurd h (by omega))
  intro vb1
  apply step_det (.slice A2 b.length c2) rfl rfl rfl
  · intro w' hw' hH
    clear hH
    simp [YieldsF, go_sem]
    exact hw'.self
  apply step_fact (RowF N1 57 (0 + a.length + b.length) ([] ++ tcells a ++ tcells b)) (keeps_fact HF1.out.2.2.1) rfl rfl rfl
  · intro w' hw' hH
    have h0 := hH _ (List.mem_cons_self ..) ⟨63, rfl, by decide⟩
    clear hH
    exact yields_append N1 Fs1 (.tmp 63) (.tmp 64) 47 rfl 57 i0 _ 24 Try.underlying47 hi hz0 hz1 hz2 rfl vb1 (0 + a.length) ([] ++ tcells a) rfl h0 A2 b.length c2 (tcells b) rfl HZ2.out (tcells_len _) (HB3.out.ext (below_ext HN1.out hw'.1)) (tcells_one _) (by unfold maxLen; omega) (by omega) hw'.big HE1.out (HR1.out w')
  intro vc1
  apply step_det (.agg #[.int .u8 3, .int .i64 0, .int .i64 0]) rfl rfl rfl
  · intro w' hw' hH
    clear hH
    have hb := HP14.out.ext (below_ext HN1.out hw'.1)
    have c0 := hb.cell 0
    have c1 := hb.cell 1
    have c2 := hb.cell 2
    simp [YieldsF, go_sem, c0, c1, c2]
    exact hw'.self
  apply step_fact (LitF 57 1 #[.int .u8 3, .int .i64 0, .int .i64 0]) (keeps_fact HF1.out.2.2.2) rfl rfl rfl
  · intro w' hw' hH
    clear hH
    simp [YieldsF, go_sem]
    exact ⟨⟨_, rfl, Blk.new w' _ _⟩, hw'.more HE1.out (Ext.alloc _ _)⟩
  intro vd1
  apply WalkF_nil
  intro wa1 hw1 hH
  obtain ⟨gd1, rfl, hb1⟩ := hH _ (List.mem_cons_self ..)
  obtain ⟨ho1, Ac1, cc1, rfl, hzc1, _⟩ := hH _ (List.mem_cons_of_mem _ (List.mem_cons_self ..))
  clear hH
  have hc1 := blk_cells hb1
  have hX1 : Ext w3 wa1 := below_ext HN1.out hw1.1
  have hG1 := hw1.big
  clear hb1 hw1
  simp only [Nat.zero_add, List.nil_append] at ho1
  simp only [Act.put]
  simp
  refine wpList_grow rfl (.tmp 65) (.tmp 67) 47 rfl N1 57 i0 _ 3 24 Try.underlying47 hi hz0 hz1 hz2 rfl (by decide) _ _ _ rfl ho1 _ 1 1 [.int .u8 3, .int .i64 0, .int .i64 0] rfl (by simp) rfl hc1 ?c2 ?c3 ?c4 hG1 ?_
  case c2 => first | (intro u hu; simp at hu; rcases hu with rfl | rfl | rfl <;> rfl) | exact ⟨rfl, rfl⟩ | exact ⟨rfl, rfl, rfl⟩
  case c3 => unfold maxLen; omega
  case c4 => omega
  intro Ax1 cx1 wb1 zx1 hown1 hgrow1
  have HXR1 : Hid (Ext w3 wb1) := Lib.hid (hX1.grown hgrow1 (fun q hq => by have := (ho1.lt q hq).1; have := HN1.out; omega))
  have HCR1 : Hid (Cells wb1 Ax1 (tcells (a ++ b ++ [(3, 0, 0)]))) := Lib.hid (by rw [tcells_append, tcells_append]; exact Cells.own hown1)
  clear hown1 hgrow1 ho1 hc1 hX1 hG1 hzc1 zx1 HE1 HR1 HF1 HN1
  have hlx1 : a.length + (b.length + 1) = (a ++ b ++ [((3, 0, 0) : TermD)]).length := by simp
  go_wp2_with fail
  have HX4 : Hid (Ext w wb1) := Ext.trans HX3.out HXR1.out
  have HA4 := Lib.hid (HA3.out.ext HXR1.out)
  have HB4 := Lib.hid (HB3.out.ext HXR1.out)
  have HP14b := Lib.hid (HP14.out.ext HXR1.out)
  have HP15b := Lib.hid (HP15.out.ext HXR1.out)
  have HP16b := Lib.hid (HP16.out.ext HXR1.out)
  clear HX3 HA3 HB3 HP14 HP15 HP16 HXR1
  obtain ⟨N2, HN2⟩ : ∃ N, Hid (wb1.heap.size = N) := ⟨_, Lib.hid rfl⟩
  obtain ⟨Fs2, hFs2⟩ : ∃ Fs, Fs = [RowF N2 57 0 [], RowF N2 57 (0 + b.length) ([] ++ tcells b), RowF N2 57 (0 + b.length + a.length) ([] ++ tcells b ++ tcells a), LitF 57 1 #[.int .u8 3, .int .i64 0, .int .i64 0]] := ⟨_, rfl⟩
  have HE2 : Hid (∀ F ∈ Fs2, ∀ v w w', F v w → Ext w w' → F v w') := Lib.hid (by rw [hFs2]; exact fs_ext _ _ _ _ _)
  have HR2 : Hid (∀ w g cap w', Roomy N2 g (0 + b.length) a.length cap 57 ([] ++ tcells b) (tcells a) w w' → 0 < 0 + b.length → 0 < a.length → ∀ F ∈ Fs2, ∀ v, F v w → F v w') := Lib.hid (by rw [hFs2]; exact fun w => fs_room _ _ _ _ _ w)
  have HF2 : Hid (RowF N2 57 0 [] ∈ Fs2 ∧ RowF N2 57 (0 + b.length) ([] ++ tcells b) ∈ Fs2 ∧ RowF N2 57 (0 + b.length + a.length) ([] ++ tcells b ++ tcells a) ∈ Fs2 ∧ LitF 57 1 #[.int .u8 3, .int .i64 0, .int .i64 0] ∈ Fs2) := Lib.hid (by rw [hFs2]; simp)
  clear hFs2
  apply wp_region_keeps Fs2 7 (by kernel_rfl) (by kernel_rfl) (by kernel_rfl) HE2.out
  dsimp only [List.take_succ_cons, List.take_zero, List.drop_succ_cons, List.drop_zero]
  rw [HN2.out]
  apply step_fact (RowF N2 57 0 []) (keeps_fact HF2.out.1) rfl rfl rfl
  · intro w' hw' hH
    clear hH
    simp [YieldsF, go_sem]
    exact ⟨own_none w' _ hw'.big, hw'.more HE2.out (Ext.alloc _ _)⟩
  intro va2
  apply step_det (.slice A2 b.length c2) rfl rfl rfl
  · intro w' hw' hH
    clear hH
    simp [YieldsF, go_sem]
    exact hw'.self
  apply step_fact (RowF N2 57 (0 + b.length) ([] ++ tcells b)) (keeps_fact HF2.out.2.1) rfl rfl rfl
  · intro w' hw' hH
    have h0 := hH _ (List.mem_cons_self ..) ⟨69, rfl, by decide⟩
    clear hH
    exact yields_append N2 Fs2 (.tmp 69) (.tmp 70) 47 rfl 57 i0 _ 24 Try.underlying47 hi hz0 hz1 hz2 rfl va2 0 [] rfl h0 A2 b.length c2 (tcells b) rfl HZ2.out (tcells_len _) (HB4.out.ext (below_ext HN2.out hw'.1)) (tcells_one _) (by unfold maxLen; omega) (by omega) hw'.big HE2.out (fun _ _ _ _ h => absurd h (by omega))
  intro vb2
  apply step_det (.slice A1 a.length c1) rfl rfl rfl
  · intro w' hw' hH
    clear hH
    simp [YieldsF, go_sem]
    exact hw'.self
  apply step_fact (RowF N2 57 (0 + b.length + a.length) ([] ++ tcells b ++ tcells a)) (keeps_fact HF2.out.2.2.1) rfl rfl rfl
  · intro w' hw' hH
    have h0 := hH _ (List.mem_cons_self ..) ⟨71, rfl, by decide⟩
    clear hH
    exact yields_append N2 Fs2 (.tmp 71) (.tmp 72) 47 rfl 57 i0 _ 24 Try.underlying47 hi hz0 hz1 hz2 rfl vb2 (0 + b.length) ([] ++ tcells b) rfl h0 A1 a.length c1 (tcells a) rfl HZ1.out (tcells_len _) (HA4.out.ext (below_ext HN2.out hw'.1)) (tcells_one _) (by unfold maxLen; omega) (by omega) hw'.big HE2.out (HR2.out w')
  intro vc2
  apply step_det (.agg #[.int .u8 3, .int .i64 0, .int .i64 0]) rfl rfl rfl
  · intro w' hw' hH
    clear hH
    have hb := HP14b.out.ext (below_ext HN2.out hw'.1)
    have c0 := hb.cell 0
    have c1 := hb.cell 1
    have c2 := hb.cell 2
    simp [YieldsF, go_sem, c0, c1, c2]
    exact hw'.self
  apply step_fact (LitF 57 1 #[.int .u8 3, .int .i64 0, .int .i64 0]) (keeps_fact HF2.out.2.2.2) rfl rfl rfl
  · intro w' hw' hH
    clear hH
    simp [YieldsF, go_sem]
    exact ⟨⟨_, rfl, Blk.new w' _ _⟩, hw'.more HE2.out (Ext.alloc _ _)⟩
  intro vd2
  apply WalkF_nil
  intro wa2 hw2 hH
  obtain ⟨gd2, rfl, hb2⟩ := hH _ (List.mem_cons_self ..)
  obtain ⟨ho2, Ac2, cc2, rfl, hzc2, _⟩ := hH _ (List.mem_cons_of_mem _ (List.mem_cons_self ..))
  clear hH
  have hc2 := blk_cells hb2
  have hX2 : Ext wb1 wa2 := below_ext HN2.out hw2.1
  have hG2 := hw2.big
  clear hb2 hw2
  simp only [Nat.zero_add, List.nil_append] at ho2
  simp only [Act.put]
  simp
  refine wpList_grow rfl (.tmp 73) (.tmp 75) 47 rfl N2 57 i0 _ 3 24 Try.underlying47 hi hz0 hz1 hz2 rfl (by decide) _ _ _ rfl ho2 _ 1 1 [.int .u8 3, .int .i64 0, .int .i64 0] rfl (by simp) rfl hc2 ?c2 ?c3 ?c4 hG2 ?_
  case c2 => first | (intro u hu; simp at hu; rcases hu with rfl | rfl | rfl <;> rfl) | exact ⟨rfl, rfl⟩ | exact ⟨rfl, rfl, rfl⟩
  case c3 => unfold maxLen; omega
  case c4 => omega
  intro Ax2 cx2 wb2 zx2 hown2 hgrow2
  have HXR2 : Hid (Ext wb1 wb2) := Lib.hid (hX2.grown hgrow2 (fun q hq => by have := (ho2.lt q hq).1; have := HN2.out; omega))
  have HCR2 : Hid (Cells wb2 Ax2 (tcells (b ++ a ++ [(3, 0, 0)]))) := Lib.hid (by rw [tcells_append, tcells_append]; exact Cells.own hown2)
  clear hown2 hgrow2 ho2 hc2 hX2 hG2 hzc2 zx2 HE2 HR2 HF2 HN2
  have hlx2 : b.length + (a.length + 1) = (b ++ a ++ [((3, 0, 0) : TermD)]).length := by simp
  go_wp2_with fail
  have HX5 : Hid (Ext w wb2) := Ext.trans HX4.out HXR2.out
  have HA5 := Lib.hid (HA4.out.ext HXR2.out)
  have HP14c := Lib.hid (HP14b.out.ext HXR2.out)
  have HP15c := Lib.hid (HP15b.out.ext HXR2.out)
  have HP16c := Lib.hid (HP16b.out.ext HXR2.out)
  have HCR1b := Lib.hid (HCR1.out.ext HXR2.out)
  clear HX4 HA4 HB4 HP14b HP15b HP16b HCR1 HXR2
  have HOAB : Hid (∀ t ∈ a ++ b ++ [((3, 0, 0) : TermD)], t.ok) := Lib.hid (ok_sum HOA.out HOB.out)
  have HOBA : Hid (∀ t ∈ b ++ a ++ [((3, 0, 0) : TermD)], t.ok) := Lib.hid (ok_sum HOB.out HOA.out)
  refine (of_v _ _ (a ++ b ++ [(3, 0, 0)]) ps _ _ _ _ (su, nu, pu) _ hlx1 rfl (by rw [← hlx1]; omega) (by omega) HCR1b.out (HV.out.ext HX5.out) HOAB.out HU).mono ?_
  rintro e w6 ⟨rfl, hx6⟩
  simp only [KindD.val]
  have HX6 := Lib.hid hx6
  clear hx6
  go_wp2_with fail
  refine (of_v _ _ (b ++ a ++ [(3, 0, 0)]) ps _ _ _ _ (su, nu, pu) _ hlx2 rfl (by rw [← hlx2]; omega) (by omega) (HCR2.out.ext HX6.out) ((HV.out.ext HX5.out).ext HX6.out) HOBA.out HUC).mono ?_
  rintro e w7 ⟨rfl, hx7⟩
  simp only [KindD.val]
  have HX7 : Hid (Ext wb2 w7) := Ext.trans HX6.out hx7
  clear hx7 HX6 HCR1b HCR2
  go_wp2_with fail
  refine (of_v _ _ a ps _ _ _ _ (sk, nk, pk) _ rfl rfl (by omega) (by omega) (HA5.out.ext HX7.out) ((HV.out.ext HX5.out).ext HX7.out) HOA.out HK).mono ?_
  rintro e w8 ⟨rfl, hx8⟩
  simp only [KindD.val]
  have HX8 : Hid (Ext wb2 w8) := Ext.trans HX7.out hx8
  clear hx8 HX7
  go_wp2_with fail
  have HP14d := Lib.hid ((HP14c.out.ext HX8.out).alloc (.cells #[.int .u8 sk, .int .i64 nk, .int .i64 pk] 23))
  have HP15d := Lib.hid ((HP15c.out.ext HX8.out).alloc (.cells #[.int .u8 sk, .int .i64 nk, .int .i64 pk] 23))
  have HP16d := Lib.hid ((HP16c.out.ext HX8.out).alloc (.cells #[.int .u8 sk, .int .i64 nk, .int .i64 pk] 23))
  have HP19 : Hid (Blk (w8.alloc (.cells #[.int .u8 sk, .int .i64 nk, .int .i64 pk] 23)) w8.heap.size 23 #[.int .u8 sk, .int .i64 nk, .int .i64 pk]) := Blk.new _ _ _
  have HX9 : Hid (Ext w (w8.alloc (.cells #[.int .u8 sk, .int .i64 nk, .int .i64 pk] 23))) := Ext.trans HX5.out (Ext.trans HX8.out (Ext.alloc _ _))
  have HA9 : Hid (Cells (w8.alloc (.cells #[.int .u8 sk, .int .i64 nk, .int .i64 pk] 23)) A1 (tcells a)) := Lib.hid (HA.out.ext HX9.out)
  have HV9 : Hid (Cells (w8.alloc (.cells #[.int .u8 sk, .int .i64 nk, .int .i64 pk] 23)) V (tcells ps)) := Lib.hid (HV.out.ext HX9.out)
  clear HP14c HP15c HP16c HX8 HX5 HA5
  generalize w8.alloc (.cells #[.int .u8 sk, .int .i64 nk, .int .i64 pk] 23) = w9 at *
  generalize w8.heap.size = g19 at *
  obtain ⟨N3, HN3⟩ : ∃ N, Hid (w9.heap.size = N) := ⟨_, Lib.hid rfl⟩
  obtain ⟨cs, hcs⟩ : ∃ cs : Array Value, cs = #[.int .u8 1, .int .i64 n, .int .i64 0, .int .u8 3, .int .i64 0, .int .i64 0, .int .u8 1, .int .i64 n, .int .i64 0, .int .u8 4, .int .i64 0, .int .i64 0] := ⟨_, rfl⟩
  obtain ⟨Fs3, hFs3⟩ : ∃ Fs, Fs = [RowF N3 57 0 [], RowF N3 57 (0 + a.length) ([] ++ tcells a), RowF N3 57 (0 + a.length + 4) ([] ++ tcells a ++ cs.toList), LitF 57 4 cs, PtrF 23 #[.int .u8 0, .int .i64 0, .int .i64 0] N3] := ⟨_, rfl⟩
  have HE3 : Hid (∀ F ∈ Fs3, ∀ v w w', F v w → Ext w w' → F v w') := Lib.hid (by rw [hFs3]; exact gs_ext _ _ _ _ _)
  have HR3 : Hid (∀ w g cap w', Roomy N3 g (0 + a.length) 4 cap 57 ([] ++ tcells a) cs.toList w w' → 0 < 0 + a.length → 0 < 4 → ∀ F ∈ Fs3, ∀ v, F v w → F v w') := Lib.hid (by rw [hFs3]; exact fun w => gs_room _ _ _ _ _ (by rw [hcs]; rfl) w)
  have HF3 : Hid (RowF N3 57 0 [] ∈ Fs3 ∧ RowF N3 57 (0 + a.length) ([] ++ tcells a) ∈ Fs3 ∧ RowF N3 57 (0 + a.length + 4) ([] ++ tcells a ++ cs.toList) ∈ Fs3 ∧ LitF 57 4 cs ∈ Fs3 ∧ PtrF 23 #[.int .u8 0, .int .i64 0, .int .i64 0] N3 ∈ Fs3) := Lib.hid (by rw [hFs3]; simp)
  have HCS := Lib.hid hcs
  clear hFs3 hcs
  apply wp_region_keeps Fs3 12 (by kernel_rfl) (by kernel_rfl) (by kernel_rfl) HE3.out
  dsimp only [List.take_succ_cons, List.take_zero, List.drop_succ_cons, List.drop_zero]
  rw [HN3.out]
  apply step_fact (RowF N3 57 0 []) (keeps_fact HF3.out.1) rfl rfl rfl
  · intro w' hw' hH
    clear hH
    simp [YieldsF, go_sem]
    exact ⟨own_none w' _ hw'.big, hw'.more HE3.out (Ext.alloc _ _)⟩
  intro va3
  apply step_det (.slice A1 a.length c1) rfl rfl rfl
  · intro w' hw' hH
    clear hH
    simp [YieldsF, go_sem]
    exact hw'.self
  apply step_fact (RowF N3 57 (0 + a.length) ([] ++ tcells a)) (keeps_fact HF3.out.2.1) rfl rfl rfl
  · intro w' hw' hH
    have h0 := hH _ (List.mem_cons_self ..) ⟨87, rfl, by decide⟩
    clear hH
    exact yields_append N3 Fs3 (.tmp 87) (.tmp 88) 47 rfl 57 i0 _ 24 Try.underlying47 hi hz0 hz1 hz2 rfl va3 0 [] rfl h0 A1 a.length c1 (tcells a) rfl HZ1.out (tcells_len _) (HA9.out.ext (below_ext HN3.out hw'.1)) (tcells_one _) (by unfold maxLen; omega) (by omega) hw'.big HE3.out (fun _ _ _ _ h => absurd h (by omega))
  intro vb3
  apply step_det (.agg #[.int .u8 1, .int .i64 n, .int .i64 0]) rfl rfl rfl
  · intro w' hw' hH
    clear hH
    have hb := HP16d.out.ext (below_ext HN3.out hw'.1)
    have c0 := hb.cell 0
    have c1 := hb.cell 1
    have c2 := hb.cell 2
    simp [YieldsF, go_sem, c0, c1, c2]
    exact hw'.self
  apply step_det (.agg #[.int .u8 3, .int .i64 0, .int .i64 0]) rfl rfl rfl
  · intro w' hw' hH
    clear hH
    have hb := HP14d.out.ext (below_ext HN3.out hw'.1)
    have c0 := hb.cell 0
    have c1 := hb.cell 1
    have c2 := hb.cell 2
    simp [YieldsF, go_sem, c0, c1, c2]
    exact hw'.self
  apply step_det (.agg #[.int .u8 1, .int .i64 n, .int .i64 0]) rfl rfl rfl
  · intro w' hw' hH
    clear hH
    have hb := HP16d.out.ext (below_ext HN3.out hw'.1)
    have c0 := hb.cell 0
    have c1 := hb.cell 1
    have c2 := hb.cell 2
    simp [YieldsF, go_sem, c0, c1, c2]
    exact hw'.self
  apply step_det (.agg #[.int .u8 4, .int .i64 0, .int .i64 0]) rfl rfl rfl
  · intro w' hw' hH
    clear hH
    have hb := HP15d.out.ext (below_ext HN3.out hw'.1)
    have c0 := hb.cell 0
    have c1 := hb.cell 1
    have c2 := hb.cell 2
    simp [YieldsF, go_sem, c0, c1, c2]
    exact hw'.self
  apply step_fact (LitF 57 4 cs) (keeps_fact HF3.out.2.2.2.1) rfl rfl rfl
  · intro w' hw' hH
    clear hH
    rw [HCS.out]
    simp [YieldsF, go_sem]
    exact ⟨⟨_, rfl, Blk.new w' _ _⟩, hw'.more HE3.out (Ext.alloc _ _)⟩
  intro vl3
  apply step_fact (RowF N3 57 (0 + a.length + 4) ([] ++ tcells a ++ cs.toList)) (keeps_fact HF3.out.2.2.1) rfl rfl rfl
  · intro w' hw' hH
    obtain ⟨gl, rfl, hbl⟩ := hH _ (List.mem_cons_self ..) ⟨94, rfl, by decide⟩
    have h0 := hH _ (List.mem_cons_of_mem _ (List.mem_cons_self ..)) ⟨89, rfl, by decide⟩
    clear hH
    exact yields_append N3 Fs3 (.tmp 89) (.tmp 94) 47 rfl 57 i0 _ 24 Try.underlying47 hi hz0 hz1 hz2 rfl vb3 (0 + a.length) ([] ++ tcells a) (by kernel_rfl) h0 (some ⟨gl, 0, none⟩) 4 4 cs.toList (by kernel_rfl) (fun h => by cases h) (by rw [HCS.out]; rfl) (blk_cells hbl) (by rw [HCS.out]; intro u hu; simp at hu; rcases hu with rfl | rfl | rfl | rfl | rfl | rfl | rfl | rfl | rfl | rfl | rfl | rfl <;> rfl) (by unfold maxLen; omega) (by omega) hw'.big HE3.out (HR3.out w')
  intro vx3
  apply step_det (.slice V ps.length d) rfl rfl rfl
  · intro w' hw' hH
    clear hH
    simp [YieldsF, go_sem]
    exact hw'.self
  apply step_det (.agg #[.int .u8 sz, .int .i64 nz, .int .i64 pz]) rfl rfl rfl
  · intro w' hw' hH
    obtain ⟨ho, Ax, cx, rfl, _, _⟩ := hH _ (List.mem_cons_self ..) ⟨95, rfl, by decide⟩
    clear hH
    simp [YieldsF, go_sem]
    have hC : Cells w' Ax (tcells (a ++ [(1, n, 0), (3, 0, 0), (1, n, 0), (4, 0, 0)])) := by
      have := Cells.own ho
      rw [HCS.out] at this
      rw [tcells_append]
      exact this
    refine (of_v Ax V (a ++ [(1, n, 0), (3, 0, 0), (1, n, 0), (4, 0, 0)]) ps _ _ _ _ (sz, nz, pz) w' (by simp) rfl (by simp; omega) (by omega) hC (HV9.out.ext (below_ext HN3.out hw'.1)) (ok_back HOA.out HNR.out) HZ).mono ?_
    rintro e w2 ⟨rfl, hx⟩
    exact ⟨_, rfl, rfl, hw'.more HE3.out hx⟩
  apply step_fact (PtrF 23 #[.int .u8 0, .int .i64 0, .int .i64 0] N3) (keeps_fact HF3.out.2.2.2.2) rfl rfl rfl
  · intro w' hw' hH
    clear hH
    simp [YieldsF, go_sem]
    exact ⟨⟨_, rfl, Blk.new w' _ _, hw'.big⟩, hw'.more HE3.out (Ext.alloc _ _)⟩
  intro vp3
  apply WalkF_nil
  intro wa3 hw3 hH
  obtain ⟨g20, rfl, hb20, hg20⟩ := hH _ (List.mem_cons_self ..)
  clear hH
  have hX3 : Ext w9 wa3 := below_ext HN3.out hw3.1
  clear hw3
  simp only [Act.put]
  simp
  refine wpList_put rfl 23 (.tmp 20) (.tmp 97) rfl g20 #[.int .u8 sz, .int .i64 nz, .int .i64 pz] rfl rfl 23 _ hb20 (by kernel_rfl) rfl rfl ?_
  intro wc ht hC20
  have hE20 : Ext w9 wc := ht.ext hX3 (by have := HN3.out; omega)
  have HP19c := Lib.hid (HP19.out.ext hE20)
  have HP20 := Lib.hid hC20
  have HXC : Hid (Ext w wc) := Ext.trans HX9.out hE20
  clear ht hC20 hE20 hX3 hb20 hg20 HE3 HR3 HF3 HN3 HCS HP19 HX9 HP14d HP15d HP16d HA9 HV9
  have d0 := HP19c.out.cell 0
  have d1 := HP19c.out.cell 1
  have d2 := HP19c.out.cell 2
  have f0 := HP20.out.cell 0
  have f1 := HP20.out.cell 1
  have f2 := HP20.out.cell 2
  simp only [Act.put]
  go_wp2_with fail
  refine (works20 _).mono ?_
  rintro e wz ⟨rfl, hxz⟩
  have HXZ : Hid (Ext w wz) := Ext.trans HXC.out hxz
  clear hxz
  go_wp2_with fail
  go_ret
  exact ⟨rfl, HXZ.out⟩
set_option maxHeartbeats 8000000 in
set_option maxRecDepth 4000 in
theorem keySums_one (A1 A2 V : Option Addr) (a b : List TermD) (ps : List KindD) (n : Int) (c1 c2 d : Nat) (w : World) (z1 : A1 = none → c1 = 0) (z2 : A2 = none → c2 = 0) (h1 : a.length ≤ 60) (h2 : b.length ≤ 60) (h3 : ps.length ≤ 100)
    (hA : Cells w A1 (tcells a)) (hB : Cells w A2 (tcells b)) (hV : Cells w V (tcells ps)) (oka : ∀ t ∈ a, t.ok) (okb : ∀ t ∈ b, t.ok) (hn : -9223372036854775808 ≤ n ∧ n ≤ 9223372036854775807)
    (x y : Int) (hx : Hid (evalR (List.replicate ps.length 0) a = (x, true))) (hy : Hid (evalR (List.replicate ps.length 0) b = (y, true)))
    (su nu pu nk pk : Int) (HU : Hid (ofR ps (a ++ b ++ [(3, 0, 0)]) = (su, nu, pu))) (HUC : Hid (ofR ps (b ++ a ++ [(3, 0, 0)]) = (su, nu, pu))) (HK : Hid (ofR ps a = (1, nk, pk)))
    (HZ : Hid (ofR ps (a ++ [(1, n, 0), (3, 0, 0), (1, n, 0), (4, 0, 0)]) = (1, nk, pk)))  :
    Calls Try.prog 7 #[.slice A1 a.length c1, .slice A2 b.length c2, .slice V ps.length d, .int .i64 n] w fun e w' => e = .returned (.bool true) ∧ Ext w w' := by
  obtain ⟨i0, hi, hz0, hz1, hz2⟩ := info_parts infoTerm
  have e1 : decide ((60 : Int) < (a.length : Int)) = false := by simp; omega
  have e2 : decide ((60 : Int) < (b.length : Int)) = false := by simp; omega
  have e3 : decide ((100 : Int) < (ps.length : Int)) = false := by simp; omega
  have hmk := run_make_row' (P := Try.prog) 53 2 (.int .i64 0) 8 Try.underlying53 infoN64 rfl .i64 .i64 ps.length (by omega) (by omega)
  have HA := Lib.hid hA
  have HB := Lib.hid hB
  have HV := Lib.hid hV
  have HOA := Lib.hid oka
  have HOB := Lib.hid okb
  have HZ1 := Lib.hid z1
  have HZ2 := Lib.hid z2
  have HNR := Lib.hid hn
  clear hA hB hV oka okb z1 z2 hn
  go_enter Try.func7, Try.ntmps7
  go_upto_region 4 with fail
  have HZR : Hid (Cells (w.alloc (.cells (madeCells #[.int .i64 0] ps.length) 2)) (some ⟨w.heap.size, 0, none⟩) (ncells (List.replicate ps.length 0))) := by
    have := Cells.new w 2 (madeCells #[.int .i64 0] ps.length)
    rw [toList_madeCells_one] at this
    unfold ncells
    rw [List.map_replicate]
    exact this
  have HX0 : Hid (Ext w (w.alloc (.cells (madeCells #[.int .i64 0] ps.length) 2))) := Ext.alloc _ _
  have HVK : Hid (∀ n ∈ List.replicate ps.length (0 : Int), -9223372036854775808 ≤ n ∧ n ≤ 9223372036854775807) := Lib.hid (fun n hn => by rw [(List.mem_replicate.1 hn).2]; decide)
  generalize w.alloc (.cells (madeCells #[.int .i64 0] ps.length) 2) = w0 at *
  generalize w.heap.size = gz at *
  clear hmk
  go_wp2_with fail
  refine (eval_w _ _ a (List.replicate ps.length 0) _ _ _ _ x _ _ rfl (by simp) (by omega) (by simp; omega) (HA.out.ext HX0.out) HZR.out HOA.out HVK.out hx).mono ?_
  rintro e w1 ⟨rfl, hx1⟩
  have HX1 := Lib.hid hx1
  clear hx1
  go_wp2_with fail
  refine (eval_w _ _ b (List.replicate ps.length 0) _ _ _ _ y _ _ rfl (by simp) (by omega) (by simp; omega) ((HB.out.ext HX0.out).ext HX1.out) (HZR.out.ext HX1.out) HOB.out HVK.out hy).mono ?_
  rintro e w2 ⟨rfl, hx2⟩
  have HX2 : Hid (Ext w w2) := Ext.trans HX0.out (Ext.trans HX1.out hx2)
  clear hx2 HX1 HX0 HZR
  go_wp2_with fail
  have HP14 : Hid (Blk (((w2.alloc (.cells #[.int .u8 3, .int .i64 0, .int .i64 0] 57)).alloc (.cells #[.int .u8 4, .int .i64 0, .int .i64 0] 57)).alloc (.cells #[.int .u8 1, .int .i64 n, .int .i64 0] 57)) w2.heap.size 57 #[.int .u8 3, .int .i64 0, .int .i64 0]) := ((Blk.new w2 _ _).alloc _).alloc _
  have HP15 : Hid (Blk (((w2.alloc (.cells #[.int .u8 3, .int .i64 0, .int .i64 0] 57)).alloc (.cells #[.int .u8 4, .int .i64 0, .int .i64 0] 57)).alloc (.cells #[.int .u8 1, .int .i64 n, .int .i64 0] 57)) (w2.heap.size + 1) 57 #[.int .u8 4, .int .i64 0, .int .i64 0]) := (blkNew (w := w2.alloc (.cells #[.int .u8 3, .int .i64 0, .int .i64 0] 57)) 57 _ (by simp)).alloc _
  have HP16 : Hid (Blk (((w2.alloc (.cells #[.int .u8 3, .int .i64 0, .int .i64 0] 57)).alloc (.cells #[.int .u8 4, .int .i64 0, .int .i64 0] 57)).alloc (.cells #[.int .u8 1, .int .i64 n, .int .i64 0] 57)) (w2.heap.size + 1 + 1) 57 #[.int .u8 1, .int .i64 n, .int .i64 0]) := blkNew (w := ((w2.alloc (.cells #[.int .u8 3, .int .i64 0, .int .i64 0] 57)).alloc (.cells #[.int .u8 4, .int .i64 0, .int .i64 0] 57))) 57 _ (by simp)
  have HX3 : Hid (Ext w (((w2.alloc (.cells #[.int .u8 3, .int .i64 0, .int .i64 0] 57)).alloc (.cells #[.int .u8 4, .int .i64 0, .int .i64 0] 57)).alloc (.cells #[.int .u8 1, .int .i64 n, .int .i64 0] 57))) := Ext.trans HX2.out (Ext.trans (Ext.trans (Ext.alloc _ _) (Ext.alloc _ _)) (Ext.alloc _ _))
  generalize ((w2.alloc (.cells #[.int .u8 3, .int .i64 0, .int .i64 0] 57)).alloc (.cells #[.int .u8 4, .int .i64 0, .int .i64 0] 57)).alloc (.cells #[.int .u8 1, .int .i64 n, .int .i64 0] 57) = w3 at *
  generalize w2.heap.size = gp at *
  have HA3 := Lib.hid (HA.out.ext HX3.out)
  have HB3 := Lib.hid (HB.out.ext HX3.out)
  clear HX2
  obtain ⟨N1, HN1⟩ : ∃ N, Hid (w3.heap.size = N) := ⟨_, Lib.hid rfl⟩
  obtain ⟨Fs1, hFs1⟩ : ∃ Fs, Fs = [RowF N1 57 0 [], RowF N1 57 (0 + a.length) ([] ++ tcells a), RowF N1 57 (0 + a.length + b.length) ([] ++ tcells a ++ tcells b), LitF 57 1 #[.int .u8 3, .int .i64 0, .int .i64 0]] := ⟨_, rfl⟩
  have HE1 : Hid (∀ F ∈ Fs1, ∀ v w w', F v w → Ext w w' → F v w') := Lib.hid (by rw [hFs1]; exact fs_ext _ _ _ _ _)
  have HR1 : Hid (∀ w g cap w', Roomy N1 g (0 + a.length) b.length cap 57 ([] ++ tcells a) (tcells b) w w' → 0 < 0 + a.length → 0 < b.length → ∀ F ∈ Fs1, ∀ v, F v w → F v w') := Lib.hid (by rw [hFs1]; exact fun w => fs_room _ _ _ _ _ w)
  have HF1 : Hid (RowF N1 57 0 [] ∈ Fs1 ∧ RowF N1 57 (0 + a.length) ([] ++ tcells a) ∈ Fs1 ∧ RowF N1 57 (0 + a.length + b.length) ([] ++ tcells a ++ tcells b) ∈ Fs1 ∧ LitF 57 1 #[.int .u8 3, .int .i64 0, .int .i64 0] ∈ Fs1) := Lib.hid (by rw [hFs1]; simp)
  clear hFs1
  apply wp_region_keeps Fs1 7 (by kernel_rfl) (by kernel_rfl) (by kernel_rfl) HE1.out
  dsimp only [List.take_succ_cons, List.take_zero, List.drop_succ_cons, List.drop_zero]
  rw [HN1.out]
  apply step_fact (RowF N1 57 0 []) (keeps_fact HF1.out.1) rfl rfl rfl
  · intro w' hw' hH
    clear hH
    simp [YieldsF, go_sem]
    exact ⟨own_none w' _ hw'.big, hw'.more HE1.out (Ext.alloc _ _)⟩
  intro va1
  apply step_det (.slice A1 a.length c1) rfl rfl rfl
  · intro w' hw' hH
    clear hH
    simp [YieldsF, go_sem]
    exact hw'.self
  apply step_fact (RowF N1 57 (0 + a.length) ([] ++ tcells a)) (keeps_fact HF1.out.2.1) rfl rfl rfl
  · intro w' hw' hH
    have h0 := hH _ (List.mem_cons_self ..) ⟨61, rfl, by decide⟩
    clear hH
    exact yields_append N1 Fs1 (.tmp 61) (.tmp 62) 47 rfl 57 i0 _ 24 Try.underlying47 hi hz0 hz1 hz2 rfl va1 0 [] rfl h0 A1 a.length c1 (tcells a) rfl HZ1.out (tcells_len _) (HA3.out.ext (below_ext HN1.out hw'.1)) (tcells_one _) (by unfold maxLen; omega) (by omega) hw'.big HE1.out (fun _ _ _ _ h => absurd h (by omega))
  intro vb1
  apply step_det (.slice A2 b.length c2) rfl rfl rfl
  · intro w' hw' hH
    clear hH
    simp [YieldsF, go_sem]
    exact hw'.self
  apply step_fact (RowF N1 57 (0 + a.length + b.length) ([] ++ tcells a ++ tcells b)) (keeps_fact HF1.out.2.2.1) rfl rfl rfl
  · intro w' hw' hH
    have h0 := hH _ (List.mem_cons_self ..) ⟨63, rfl, by decide⟩
    clear hH
    exact yields_append N1 Fs1 (.tmp 63) (.tmp 64) 47 rfl 57 i0 _ 24 Try.underlying47 hi hz0 hz1 hz2 rfl vb1 (0 + a.length) ([] ++ tcells a) rfl h0 A2 b.length c2 (tcells b) rfl HZ2.out (tcells_len _) (HB3.out.ext (below_ext HN1.out hw'.1)) (tcells_one _) (by unfold maxLen; omega) (by omega) hw'.big HE1.out (HR1.out w')
  intro vc1
  apply step_det (.agg #[.int .u8 3, .int .i64 0, .int .i64 0]) rfl rfl rfl
  · intro w' hw' hH
    clear hH
    have hb := HP14.out.ext (below_ext HN1.out hw'.1)
    have c0 := hb.cell 0
    have c1 := hb.cell 1
    have c2 := hb.cell 2
    simp [YieldsF, go_sem, c0, c1, c2]
    exact hw'.self
  apply step_fact (LitF 57 1 #[.int .u8 3, .int .i64 0, .int .i64 0]) (keeps_fact HF1.out.2.2.2) rfl rfl rfl
  · intro w' hw' hH
    clear hH
    simp [YieldsF, go_sem]
    exact ⟨⟨_, rfl, Blk.new w' _ _⟩, hw'.more HE1.out (Ext.alloc _ _)⟩
  intro vd1
  apply WalkF_nil
  intro wa1 hw1 hH
  obtain ⟨gd1, rfl, hb1⟩ := hH _ (List.mem_cons_self ..)
  obtain ⟨ho1, Ac1, cc1, rfl, hzc1, _⟩ := hH _ (List.mem_cons_of_mem _ (List.mem_cons_self ..))
  clear hH
  have hc1 := blk_cells hb1
  have hX1 : Ext w3 wa1 := below_ext HN1.out hw1.1
  have hG1 := hw1.big
  clear hb1 hw1
  simp only [Nat.zero_add, List.nil_append] at ho1
  simp only [Act.put]
  simp
  refine wpList_grow rfl (.tmp 65) (.tmp 67) 47 rfl N1 57 i0 _ 3 24 Try.underlying47 hi hz0 hz1 hz2 rfl (by decide) _ _ _ rfl ho1 _ 1 1 [.int .u8 3, .int .i64 0, .int .i64 0] rfl (by simp) rfl hc1 ?c2 ?c3 ?c4 hG1 ?_
  case c2 => first | (intro u hu; simp at hu; rcases hu with rfl | rfl | rfl <;> rfl) | exact ⟨rfl, rfl⟩ | exact ⟨rfl, rfl, rfl⟩
  case c3 => unfold maxLen; omega
  case c4 => omega
  intro Ax1 cx1 wb1 zx1 hown1 hgrow1
  have HXR1 : Hid (Ext w3 wb1) := Lib.hid (hX1.grown hgrow1 (fun q hq => by have := (ho1.lt q hq).1; have := HN1.out; omega))
  have HCR1 : Hid (Cells wb1 Ax1 (tcells (a ++ b ++ [(3, 0, 0)]))) := Lib.hid (by rw [tcells_append, tcells_append]; exact Cells.own hown1)
  clear hown1 hgrow1 ho1 hc1 hX1 hG1 hzc1 zx1 HE1 HR1 HF1 HN1
  have hlx1 : a.length + (b.length + 1) = (a ++ b ++ [((3, 0, 0) : TermD)]).length := by simp
  go_wp2_with fail
  have HX4 : Hid (Ext w wb1) := Ext.trans HX3.out HXR1.out
  have HA4 := Lib.hid (HA3.out.ext HXR1.out)
  have HB4 := Lib.hid (HB3.out.ext HXR1.out)
  have HP14b := Lib.hid (HP14.out.ext HXR1.out)
  have HP15b := Lib.hid (HP15.out.ext HXR1.out)
  have HP16b := Lib.hid (HP16.out.ext HXR1.out)
  clear HX3 HA3 HB3 HP14 HP15 HP16 HXR1
  obtain ⟨N2, HN2⟩ : ∃ N, Hid (wb1.heap.size = N) := ⟨_, Lib.hid rfl⟩
  obtain ⟨Fs2, hFs2⟩ : ∃ Fs, Fs = [RowF N2 57 0 [], RowF N2 57 (0 + b.length) ([] ++ tcells b), RowF N2 57 (0 + b.length + a.length) ([] ++ tcells b ++ tcells a), LitF 57 1 #[.int .u8 3, .int .i64 0, .int .i64 0]] := ⟨_, rfl⟩
  have HE2 : Hid (∀ F ∈ Fs2, ∀ v w w', F v w → Ext w w' → F v w') := Lib.hid (by rw [hFs2]; exact fs_ext _ _ _ _ _)
  have HR2 : Hid (∀ w g cap w', Roomy N2 g (0 + b.length) a.length cap 57 ([] ++ tcells b) (tcells a) w w' → 0 < 0 + b.length → 0 < a.length → ∀ F ∈ Fs2, ∀ v, F v w → F v w') := Lib.hid (by rw [hFs2]; exact fun w => fs_room _ _ _ _ _ w)
  have HF2 : Hid (RowF N2 57 0 [] ∈ Fs2 ∧ RowF N2 57 (0 + b.length) ([] ++ tcells b) ∈ Fs2 ∧ RowF N2 57 (0 + b.length + a.length) ([] ++ tcells b ++ tcells a) ∈ Fs2 ∧ LitF 57 1 #[.int .u8 3, .int .i64 0, .int .i64 0] ∈ Fs2) := Lib.hid (by rw [hFs2]; simp)
  clear hFs2
  apply wp_region_keeps Fs2 7 (by kernel_rfl) (by kernel_rfl) (by kernel_rfl) HE2.out
  dsimp only [List.take_succ_cons, List.take_zero, List.drop_succ_cons, List.drop_zero]
  rw [HN2.out]
  apply step_fact (RowF N2 57 0 []) (keeps_fact HF2.out.1) rfl rfl rfl
  · intro w' hw' hH
    clear hH
    simp [YieldsF, go_sem]
    exact ⟨own_none w' _ hw'.big, hw'.more HE2.out (Ext.alloc _ _)⟩
  intro va2
  apply step_det (.slice A2 b.length c2) rfl rfl rfl
  · intro w' hw' hH
    clear hH
    simp [YieldsF, go_sem]
    exact hw'.self
  apply step_fact (RowF N2 57 (0 + b.length) ([] ++ tcells b)) (keeps_fact HF2.out.2.1) rfl rfl rfl
  · intro w' hw' hH
    have h0 := hH _ (List.mem_cons_self ..) ⟨69, rfl, by decide⟩
    clear hH
    exact yields_append N2 Fs2 (.tmp 69) (.tmp 70) 47 rfl 57 i0 _ 24 Try.underlying47 hi hz0 hz1 hz2 rfl va2 0 [] rfl h0 A2 b.length c2 (tcells b) rfl HZ2.out (tcells_len _) (HB4.out.ext (below_ext HN2.out hw'.1)) (tcells_one _) (by unfold maxLen; omega) (by omega) hw'.big HE2.out (fun _ _ _ _ h => absurd h (by omega))
  intro vb2
  apply step_det (.slice A1 a.length c1) rfl rfl rfl
  · intro w' hw' hH
    clear hH
    simp [YieldsF, go_sem]
    exact hw'.self
  apply step_fact (RowF N2 57 (0 + b.length + a.length) ([] ++ tcells b ++ tcells a)) (keeps_fact HF2.out.2.2.1) rfl rfl rfl
  · intro w' hw' hH
    have h0 := hH _ (List.mem_cons_self ..) ⟨71, rfl, by decide⟩
    clear hH
    exact yields_append N2 Fs2 (.tmp 71) (.tmp 72) 47 rfl 57 i0 _ 24 Try.underlying47 hi hz0 hz1 hz2 rfl vb2 (0 + b.length) ([] ++ tcells b) rfl h0 A1 a.length c1 (tcells a) rfl HZ1.out (tcells_len _) (HA4.out.ext (below_ext HN2.out hw'.1)) (tcells_one _) (by unfold maxLen; omega) (by omega) hw'.big HE2.out (HR2.out w')
  intro vc2
  apply step_det (.agg #[.int .u8 3, .int .i64 0, .int .i64 0]) rfl rfl rfl
  · intro w' hw' hH
    clear hH
    have hb := HP14b.out.ext (below_ext HN2.out hw'.1)
    have c0 := hb.cell 0
    have c1 := hb.cell 1
    have c2 := hb.cell 2
    simp [YieldsF, go_sem, c0, c1, c2]
    exact hw'.self
  apply step_fact (LitF 57 1 #[.int .u8 3, .int .i64 0, .int .i64 0]) (keeps_fact HF2.out.2.2.2) rfl rfl rfl
  · intro w' hw' hH
    clear hH
    simp [YieldsF, go_sem]
    exact ⟨⟨_, rfl, Blk.new w' _ _⟩, hw'.more HE2.out (Ext.alloc _ _)⟩
  intro vd2
  apply WalkF_nil
  intro wa2 hw2 hH
  obtain ⟨gd2, rfl, hb2⟩ := hH _ (List.mem_cons_self ..)
  obtain ⟨ho2, Ac2, cc2, rfl, hzc2, _⟩ := hH _ (List.mem_cons_of_mem _ (List.mem_cons_self ..))
  clear hH
  have hc2 := blk_cells hb2
  have hX2 : Ext wb1 wa2 := below_ext HN2.out hw2.1
  have hG2 := hw2.big
  clear hb2 hw2
  simp only [Nat.zero_add, List.nil_append] at ho2
  simp only [Act.put]
  simp
  refine wpList_grow rfl (.tmp 73) (.tmp 75) 47 rfl N2 57 i0 _ 3 24 Try.underlying47 hi hz0 hz1 hz2 rfl (by decide) _ _ _ rfl ho2 _ 1 1 [.int .u8 3, .int .i64 0, .int .i64 0] rfl (by simp) rfl hc2 ?c2 ?c3 ?c4 hG2 ?_
  case c2 => first | (intro u hu; simp at hu; rcases hu with rfl | rfl | rfl <;> rfl) | exact ⟨rfl, rfl⟩ | exact ⟨rfl, rfl, rfl⟩
  case c3 => unfold maxLen; omega
  case c4 => omega
  intro Ax2 cx2 wb2 zx2 hown2 hgrow2
  have HXR2 : Hid (Ext wb1 wb2) := Lib.hid (hX2.grown hgrow2 (fun q hq => by have := (ho2.lt q hq).1; have := HN2.out; omega))
  have HCR2 : Hid (Cells wb2 Ax2 (tcells (b ++ a ++ [(3, 0, 0)]))) := Lib.hid (by rw [tcells_append, tcells_append]; exact Cells.own hown2)
  clear hown2 hgrow2 ho2 hc2 hX2 hG2 hzc2 zx2 HE2 HR2 HF2 HN2
  have hlx2 : b.length + (a.length + 1) = (b ++ a ++ [((3, 0, 0) : TermD)]).length := by simp
  go_wp2_with fail
  have HX5 : Hid (Ext w wb2) := Ext.trans HX4.out HXR2.out
  have HA5 := Lib.hid (HA4.out.ext HXR2.out)
  have HP14c := Lib.hid (HP14b.out.ext HXR2.out)
  have HP15c := Lib.hid (HP15b.out.ext HXR2.out)
  have HP16c := Lib.hid (HP16b.out.ext HXR2.out)
  have HCR1b := Lib.hid (HCR1.out.ext HXR2.out)
  clear HX4 HA4 HB4 HP14b HP15b HP16b HCR1 HXR2
  have HOAB : Hid (∀ t ∈ a ++ b ++ [((3, 0, 0) : TermD)], t.ok) := Lib.hid (ok_sum HOA.out HOB.out)
  have HOBA : Hid (∀ t ∈ b ++ a ++ [((3, 0, 0) : TermD)], t.ok) := Lib.hid (ok_sum HOB.out HOA.out)
  refine (of_v _ _ (a ++ b ++ [(3, 0, 0)]) ps _ _ _ _ (su, nu, pu) _ hlx1 rfl (by rw [← hlx1]; omega) (by omega) HCR1b.out (HV.out.ext HX5.out) HOAB.out HU).mono ?_
  rintro e w6 ⟨rfl, hx6⟩
  simp only [KindD.val]
  have HX6 := Lib.hid hx6
  clear hx6
  go_wp2_with fail
  refine (of_v _ _ (b ++ a ++ [(3, 0, 0)]) ps _ _ _ _ (su, nu, pu) _ hlx2 rfl (by rw [← hlx2]; omega) (by omega) (HCR2.out.ext HX6.out) ((HV.out.ext HX5.out).ext HX6.out) HOBA.out HUC).mono ?_
  rintro e w7 ⟨rfl, hx7⟩
  simp only [KindD.val]
  have HX7 : Hid (Ext wb2 w7) := Ext.trans HX6.out hx7
  clear hx7 HX6 HCR1b HCR2
  go_wp2_with fail
  refine (of_v _ _ a ps _ _ _ _ (1, nk, pk) _ rfl rfl (by omega) (by omega) (HA5.out.ext HX7.out) ((HV.out.ext HX5.out).ext HX7.out) HOA.out HK).mono ?_
  rintro e w8 ⟨rfl, hx8⟩
  simp only [KindD.val]
  have HX8 : Hid (Ext wb2 w8) := Ext.trans HX7.out hx8
  clear hx8 HX7
  go_wp2_with fail
  have HP14d := Lib.hid ((HP14c.out.ext HX8.out).alloc (.cells #[.int .u8 1, .int .i64 nk, .int .i64 pk] 23))
  have HP15d := Lib.hid ((HP15c.out.ext HX8.out).alloc (.cells #[.int .u8 1, .int .i64 nk, .int .i64 pk] 23))
  have HP16d := Lib.hid ((HP16c.out.ext HX8.out).alloc (.cells #[.int .u8 1, .int .i64 nk, .int .i64 pk] 23))
  have HP19 : Hid (Blk (w8.alloc (.cells #[.int .u8 1, .int .i64 nk, .int .i64 pk] 23)) w8.heap.size 23 #[.int .u8 1, .int .i64 nk, .int .i64 pk]) := Blk.new _ _ _
  have HX9 : Hid (Ext w (w8.alloc (.cells #[.int .u8 1, .int .i64 nk, .int .i64 pk] 23))) := Ext.trans HX5.out (Ext.trans HX8.out (Ext.alloc _ _))
  have HA9 : Hid (Cells (w8.alloc (.cells #[.int .u8 1, .int .i64 nk, .int .i64 pk] 23)) A1 (tcells a)) := Lib.hid (HA.out.ext HX9.out)
  have HV9 : Hid (Cells (w8.alloc (.cells #[.int .u8 1, .int .i64 nk, .int .i64 pk] 23)) V (tcells ps)) := Lib.hid (HV.out.ext HX9.out)
  clear HP14c HP15c HP16c HX8 HX5 HA5
  generalize w8.alloc (.cells #[.int .u8 1, .int .i64 nk, .int .i64 pk] 23) = w9 at *
  generalize w8.heap.size = g19 at *
  obtain ⟨N3, HN3⟩ : ∃ N, Hid (w9.heap.size = N) := ⟨_, Lib.hid rfl⟩
  obtain ⟨cs, hcs⟩ : ∃ cs : Array Value, cs = #[.int .u8 1, .int .i64 n, .int .i64 0, .int .u8 3, .int .i64 0, .int .i64 0, .int .u8 1, .int .i64 n, .int .i64 0, .int .u8 4, .int .i64 0, .int .i64 0] := ⟨_, rfl⟩
  obtain ⟨Fs3, hFs3⟩ : ∃ Fs, Fs = [RowF N3 57 0 [], RowF N3 57 (0 + a.length) ([] ++ tcells a), RowF N3 57 (0 + a.length + 4) ([] ++ tcells a ++ cs.toList), LitF 57 4 cs, PtrF 23 #[.int .u8 0, .int .i64 0, .int .i64 0] N3] := ⟨_, rfl⟩
  have HE3 : Hid (∀ F ∈ Fs3, ∀ v w w', F v w → Ext w w' → F v w') := Lib.hid (by rw [hFs3]; exact gs_ext _ _ _ _ _)
  have HR3 : Hid (∀ w g cap w', Roomy N3 g (0 + a.length) 4 cap 57 ([] ++ tcells a) cs.toList w w' → 0 < 0 + a.length → 0 < 4 → ∀ F ∈ Fs3, ∀ v, F v w → F v w') := Lib.hid (by rw [hFs3]; exact fun w => gs_room _ _ _ _ _ (by rw [hcs]; rfl) w)
  have HF3 : Hid (RowF N3 57 0 [] ∈ Fs3 ∧ RowF N3 57 (0 + a.length) ([] ++ tcells a) ∈ Fs3 ∧ RowF N3 57 (0 + a.length + 4) ([] ++ tcells a ++ cs.toList) ∈ Fs3 ∧ LitF 57 4 cs ∈ Fs3 ∧ PtrF 23 #[.int .u8 0, .int .i64 0, .int .i64 0] N3 ∈ Fs3) := Lib.hid (by rw [hFs3]; simp)
  have HCS := Lib.hid hcs
  clear hFs3 hcs
  apply wp_region_keeps Fs3 12 (by kernel_rfl) (by kernel_rfl) (by kernel_rfl) HE3.out
  dsimp only [List.take_succ_cons, List.take_zero, List.drop_succ_cons, List.drop_zero]
  rw [HN3.out]
  apply step_fact (RowF N3 57 0 []) (keeps_fact HF3.out.1) rfl rfl rfl
  · intro w' hw' hH
    clear hH
    simp [YieldsF, go_sem]
    exact ⟨own_none w' _ hw'.big, hw'.more HE3.out (Ext.alloc _ _)⟩
  intro va3
  apply step_det (.slice A1 a.length c1) rfl rfl rfl
  · intro w' hw' hH
    clear hH
    simp [YieldsF, go_sem]
    exact hw'.self
  apply step_fact (RowF N3 57 (0 + a.length) ([] ++ tcells a)) (keeps_fact HF3.out.2.1) rfl rfl rfl
  · intro w' hw' hH
    have h0 := hH _ (List.mem_cons_self ..) ⟨87, rfl, by decide⟩
    clear hH
    exact yields_append N3 Fs3 (.tmp 87) (.tmp 88) 47 rfl 57 i0 _ 24 Try.underlying47 hi hz0 hz1 hz2 rfl va3 0 [] rfl h0 A1 a.length c1 (tcells a) rfl HZ1.out (tcells_len _) (HA9.out.ext (below_ext HN3.out hw'.1)) (tcells_one _) (by unfold maxLen; omega) (by omega) hw'.big HE3.out (fun _ _ _ _ h => absurd h (by omega))
  intro vb3
  apply step_det (.agg #[.int .u8 1, .int .i64 n, .int .i64 0]) rfl rfl rfl
  · intro w' hw' hH
    clear hH
    have hb := HP16d.out.ext (below_ext HN3.out hw'.1)
    have c0 := hb.cell 0
    have c1 := hb.cell 1
    have c2 := hb.cell 2
    simp [YieldsF, go_sem, c0, c1, c2]
    exact hw'.self
  apply step_det (.agg #[.int .u8 3, .int .i64 0, .int .i64 0]) rfl rfl rfl
  · intro w' hw' hH
    clear hH
    have hb := HP14d.out.ext (below_ext HN3.out hw'.1)
    have c0 := hb.cell 0
    have c1 := hb.cell 1
    have c2 := hb.cell 2
    simp [YieldsF, go_sem, c0, c1, c2]
    exact hw'.self
  apply step_det (.agg #[.int .u8 1, .int .i64 n, .int .i64 0]) rfl rfl rfl
  · intro w' hw' hH
    clear hH
    have hb := HP16d.out.ext (below_ext HN3.out hw'.1)
    have c0 := hb.cell 0
    have c1 := hb.cell 1
    have c2 := hb.cell 2
    simp [YieldsF, go_sem, c0, c1, c2]
    exact hw'.self
  apply step_det (.agg #[.int .u8 4, .int .i64 0, .int .i64 0]) rfl rfl rfl
  · intro w' hw' hH
    clear hH
    have hb := HP15d.out.ext (below_ext HN3.out hw'.1)
    have c0 := hb.cell 0
    have c1 := hb.cell 1
    have c2 := hb.cell 2
    simp [YieldsF, go_sem, c0, c1, c2]
    exact hw'.self
  apply step_fact (LitF 57 4 cs) (keeps_fact HF3.out.2.2.2.1) rfl rfl rfl
  · intro w' hw' hH
    clear hH
    rw [HCS.out]
    simp [YieldsF, go_sem]
    exact ⟨⟨_, rfl, Blk.new w' _ _⟩, hw'.more HE3.out (Ext.alloc _ _)⟩
  intro vl3
  apply step_fact (RowF N3 57 (0 + a.length + 4) ([] ++ tcells a ++ cs.toList)) (keeps_fact HF3.out.2.2.1) rfl rfl rfl
  · intro w' hw' hH
    obtain ⟨gl, rfl, hbl⟩ := hH _ (List.mem_cons_self ..) ⟨94, rfl, by decide⟩
    have h0 := hH _ (List.mem_cons_of_mem _ (List.mem_cons_self ..)) ⟨89, rfl, by decide⟩
    clear hH
    exact yields_append N3 Fs3 (.tmp 89) (.tmp 94) 47 rfl 57 i0 _ 24 Try.underlying47 hi hz0 hz1 hz2 rfl vb3 (0 + a.length) ([] ++ tcells a) (by kernel_rfl) h0 (some ⟨gl, 0, none⟩) 4 4 cs.toList (by kernel_rfl) (fun h => by cases h) (by rw [HCS.out]; rfl) (blk_cells hbl) (by rw [HCS.out]; intro u hu; simp at hu; rcases hu with rfl | rfl | rfl | rfl | rfl | rfl | rfl | rfl | rfl | rfl | rfl | rfl <;> rfl) (by unfold maxLen; omega) (by omega) hw'.big HE3.out (HR3.out w')
  intro vx3
  apply step_det (.slice V ps.length d) rfl rfl rfl
  · intro w' hw' hH
    clear hH
    simp [YieldsF, go_sem]
    exact hw'.self
  apply step_det (.agg #[.int .u8 1, .int .i64 nk, .int .i64 pk]) rfl rfl rfl
  · intro w' hw' hH
    obtain ⟨ho, Ax, cx, rfl, _, _⟩ := hH _ (List.mem_cons_self ..) ⟨95, rfl, by decide⟩
    clear hH
    simp [YieldsF, go_sem]
    have hC : Cells w' Ax (tcells (a ++ [(1, n, 0), (3, 0, 0), (1, n, 0), (4, 0, 0)])) := by
      have := Cells.own ho
      rw [HCS.out] at this
      rw [tcells_append]
      exact this
    refine (of_v Ax V (a ++ [(1, n, 0), (3, 0, 0), (1, n, 0), (4, 0, 0)]) ps _ _ _ _ (1, nk, pk) w' (by simp) rfl (by simp; omega) (by omega) hC (HV9.out.ext (below_ext HN3.out hw'.1)) (ok_back HOA.out HNR.out) HZ).mono ?_
    rintro e w2 ⟨rfl, hx⟩
    exact ⟨_, rfl, rfl, hw'.more HE3.out hx⟩
  apply step_fact (PtrF 23 #[.int .u8 0, .int .i64 0, .int .i64 0] N3) (keeps_fact HF3.out.2.2.2.2) rfl rfl rfl
  · intro w' hw' hH
    clear hH
    simp [YieldsF, go_sem]
    exact ⟨⟨_, rfl, Blk.new w' _ _, hw'.big⟩, hw'.more HE3.out (Ext.alloc _ _)⟩
  intro vp3
  apply WalkF_nil
  intro wa3 hw3 hH
  obtain ⟨g20, rfl, hb20, hg20⟩ := hH _ (List.mem_cons_self ..)
  clear hH
  have hX3 : Ext w9 wa3 := below_ext HN3.out hw3.1
  clear hw3
  simp only [Act.put]
  simp
  refine wpList_put rfl 23 (.tmp 20) (.tmp 97) rfl g20 #[.int .u8 1, .int .i64 nk, .int .i64 pk] rfl rfl 23 _ hb20 (by kernel_rfl) rfl rfl ?_
  intro wc ht hC20
  have hE20 : Ext w9 wc := ht.ext hX3 (by have := HN3.out; omega)
  have HP19c := Lib.hid (HP19.out.ext hE20)
  have HP20 := Lib.hid hC20
  have HXC : Hid (Ext w wc) := Ext.trans HX9.out hE20
  clear ht hC20 hE20 hX3 hb20 hg20 HE3 HR3 HF3 HN3 HCS HP19 HX9 HP14d HP15d HP16d HA9 HV9
  have d0 := HP19c.out.cell 0
  have d1 := HP19c.out.cell 1
  have d2 := HP19c.out.cell 2
  have f0 := HP20.out.cell 0
  have f1 := HP20.out.cell 1
  have f2 := HP20.out.cell 2
  simp only [Act.put]
  go_wp2_with fail
  refine (works20 _).mono ?_
  rintro e wz ⟨rfl, hxz⟩
  have HXZ : Hid (Ext w wz) := Ext.trans HXC.out hxz
  clear hxz
  go_wp2_with fail
  go_ret
  exact ⟨rfl, HXZ.out⟩
set_option maxHeartbeats 8000000 in
set_option maxRecDepth 4000 in
theorem keySums_two (A1 A2 V : Option Addr) (a b : List TermD) (ps : List KindD) (n : Int) (c1 c2 d : Nat) (w : World) (z1 : A1 = none → c1 = 0) (z2 : A2 = none → c2 = 0) (h1 : a.length ≤ 60) (h2 : b.length ≤ 60) (h3 : ps.length ≤ 100)
    (hA : Cells w A1 (tcells a)) (hB : Cells w A2 (tcells b)) (hV : Cells w V (tcells ps)) (oka : ∀ t ∈ a, t.ok) (okb : ∀ t ∈ b, t.ok) (hn : -9223372036854775808 ≤ n ∧ n ≤ 9223372036854775807)
    (x y : Int) (hx : Hid (evalR (List.replicate ps.length 0) a = (x, true))) (hy : Hid (evalR (List.replicate ps.length 0) b = (y, true)))
    (su nu pu nk pk : Int) (HU : Hid (ofR ps (a ++ b ++ [(3, 0, 0)]) = (su, nu, pu))) (HUC : Hid (ofR ps (b ++ a ++ [(3, 0, 0)]) = (su, nu, pu))) (HK : Hid (ofR ps a = (2, nk, pk)))
    (HZ : Hid (ofR ps (a ++ [(1, n, 0), (3, 0, 0), (1, n, 0), (4, 0, 0)]) = (2, nk, pk)))  :
    Calls Try.prog 7 #[.slice A1 a.length c1, .slice A2 b.length c2, .slice V ps.length d, .int .i64 n] w fun e w' => e = .returned (.bool true) ∧ Ext w w' := by
  obtain ⟨i0, hi, hz0, hz1, hz2⟩ := info_parts infoTerm
  have e1 : decide ((60 : Int) < (a.length : Int)) = false := by simp; omega
  have e2 : decide ((60 : Int) < (b.length : Int)) = false := by simp; omega
  have e3 : decide ((100 : Int) < (ps.length : Int)) = false := by simp; omega
  have hmk := run_make_row' (P := Try.prog) 53 2 (.int .i64 0) 8 Try.underlying53 infoN64 rfl .i64 .i64 ps.length (by omega) (by omega)
  have HA := Lib.hid hA
  have HB := Lib.hid hB
  have HV := Lib.hid hV
  have HOA := Lib.hid oka
  have HOB := Lib.hid okb
  have HZ1 := Lib.hid z1
  have HZ2 := Lib.hid z2
  have HNR := Lib.hid hn
  clear hA hB hV oka okb z1 z2 hn
  go_enter Try.func7, Try.ntmps7
  go_upto_region 4 with fail
  have HZR : Hid (Cells (w.alloc (.cells (madeCells #[.int .i64 0] ps.length) 2)) (some ⟨w.heap.size, 0, none⟩) (ncells (List.replicate ps.length 0))) := by
    have := Cells.new w 2 (madeCells #[.int .i64 0] ps.length)
    rw [toList_madeCells_one] at this
    unfold ncells
    rw [List.map_replicate]
    exact this
  have HX0 : Hid (Ext w (w.alloc (.cells (madeCells #[.int .i64 0] ps.length) 2))) := Ext.alloc _ _
  have HVK : Hid (∀ n ∈ List.replicate ps.length (0 : Int), -9223372036854775808 ≤ n ∧ n ≤ 9223372036854775807) := Lib.hid (fun n hn => by rw [(List.mem_replicate.1 hn).2]; decide)
  generalize w.alloc (.cells (madeCells #[.int .i64 0] ps.length) 2) = w0 at *
  generalize w.heap.size = gz at *
  clear hmk
  go_wp2_with fail
  refine (eval_w _ _ a (List.replicate ps.length 0) _ _ _ _ x _ _ rfl (by simp) (by omega) (by simp; omega) (HA.out.ext HX0.out) HZR.out HOA.out HVK.out hx).mono ?_
  rintro e w1 ⟨rfl, hx1⟩
  have HX1 := Lib.hid hx1
  clear hx1
  go_wp2_with fail
  refine (eval_w _ _ b (List.replicate ps.length 0) _ _ _ _ y _ _ rfl (by simp) (by omega) (by simp; omega) ((HB.out.ext HX0.out).ext HX1.out) (HZR.out.ext HX1.out) HOB.out HVK.out hy).mono ?_
  rintro e w2 ⟨rfl, hx2⟩
  have HX2 : Hid (Ext w w2) := Ext.trans HX0.out (Ext.trans HX1.out hx2)
  clear hx2 HX1 HX0 HZR
  go_wp2_with fail
  have HP14 : Hid (Blk (((w2.alloc (.cells #[.int .u8 3, .int .i64 0, .int .i64 0] 57)).alloc (.cells #[.int .u8 4, .int .i64 0, .int .i64 0] 57)).alloc (.cells #[.int .u8 1, .int .i64 n, .int .i64 0] 57)) w2.heap.size 57 #[.int .u8 3, .int .i64 0, .int .i64 0]) := ((Blk.new w2 _ _).alloc _).alloc _
  have HP15 : Hid (Blk (((w2.alloc (.cells #[.int .u8 3, .int .i64 0, .int .i64 0] 57)).alloc (.cells #[.int .u8 4, .int .i64 0, .int .i64 0] 57)).alloc (.cells #[.int .u8 1, .int .i64 n, .int .i64 0] 57)) (w2.heap.size + 1) 57 #[.int .u8 4, .int .i64 0, .int .i64 0]) := (blkNew (w := w2.alloc (.cells #[.int .u8 3, .int .i64 0, .int .i64 0] 57)) 57 _ (by simp)).alloc _
  have HP16 : Hid (Blk (((w2.alloc (.cells #[.int .u8 3, .int .i64 0, .int .i64 0] 57)).alloc (.cells #[.int .u8 4, .int .i64 0, .int .i64 0] 57)).alloc (.cells #[.int .u8 1, .int .i64 n, .int .i64 0] 57)) (w2.heap.size + 1 + 1) 57 #[.int .u8 1, .int .i64 n, .int .i64 0]) := blkNew (w := ((w2.alloc (.cells #[.int .u8 3, .int .i64 0, .int .i64 0] 57)).alloc (.cells #[.int .u8 4, .int .i64 0, .int .i64 0] 57))) 57 _ (by simp)
  have HX3 : Hid (Ext w (((w2.alloc (.cells #[.int .u8 3, .int .i64 0, .int .i64 0] 57)).alloc (.cells #[.int .u8 4, .int .i64 0, .int .i64 0] 57)).alloc (.cells #[.int .u8 1, .int .i64 n, .int .i64 0] 57))) := Ext.trans HX2.out (Ext.trans (Ext.trans (Ext.alloc _ _) (Ext.alloc _ _)) (Ext.alloc _ _))
  generalize ((w2.alloc (.cells #[.int .u8 3, .int .i64 0, .int .i64 0] 57)).alloc (.cells #[.int .u8 4, .int .i64 0, .int .i64 0] 57)).alloc (.cells #[.int .u8 1, .int .i64 n, .int .i64 0] 57) = w3 at *
  generalize w2.heap.size = gp at *
  have HA3 := Lib.hid (HA.out.ext HX3.out)
  have HB3 := Lib.hid (HB.out.ext HX3.out)
  clear HX2
  obtain ⟨N1, HN1⟩ : ∃ N, Hid (w3.heap.size = N) := ⟨_, Lib.hid rfl⟩
  obtain ⟨Fs1, hFs1⟩ : ∃ Fs, Fs = [RowF N1 57 0 [], RowF N1 57 (0 + a.length) ([] ++ tcells a), RowF N1 57 (0 + a.length + b.length) ([] ++ tcells a ++ tcells b), LitF 57 1 #[.int .u8 3, .int .i64 0, .int .i64 0]] := ⟨_, rfl⟩
  have HE1 : Hid (∀ F ∈ Fs1, ∀ v w w', F v w → Ext w w' → F v w') := Lib.hid (by rw [hFs1]; exact fs_ext _ _ _ _ _)
  have HR1 : Hid (∀ w g cap w', Roomy N1 g (0 + a.length) b.length cap 57 ([] ++ tcells a) (tcells b) w w' → 0 < 0 + a.length → 0 < b.length → ∀ F ∈ Fs1, ∀ v, F v w → F v w') := Lib.hid (by rw [hFs1]; exact fun w => fs_room _ _ _ _ _ w)
  have HF1 : Hid (RowF N1 57 0 [] ∈ Fs1 ∧ RowF N1 57 (0 + a.length) ([] ++ tcells a) ∈ Fs1 ∧ RowF N1 57 (0 + a.length + b.length) ([] ++ tcells a ++ tcells b) ∈ Fs1 ∧ LitF 57 1 #[.int .u8 3, .int .i64 0, .int .i64 0] ∈ Fs1) := Lib.hid (by rw [hFs1]; simp)
  clear hFs1
  apply wp_region_keeps Fs1 7 (by kernel_rfl) (by kernel_rfl) (by kernel_rfl) HE1.out
  dsimp only [List.take_succ_cons, List.take_zero, List.drop_succ_cons, List.drop_zero]
  rw [HN1.out]
  apply step_fact (RowF N1 57 0 []) (keeps_fact HF1.out.1) rfl rfl rfl
  · intro w' hw' hH
    clear hH
    simp [YieldsF, go_sem]
    exact ⟨own_none w' _ hw'.big, hw'.more HE1.out (Ext.alloc _ _)⟩
  intro va1
  apply step_det (.slice A1 a.length c1) rfl rfl rfl
  · intro w' hw' hH
    clear hH
    simp [YieldsF, go_sem]
    exact hw'.self
  apply step_fact (RowF N1 57 (0 + a.length) ([] ++ tcells a)) (keeps_fact HF1.out.2.1) rfl rfl rfl
  · intro w' hw' hH
    have h0 := hH _ (List.mem_cons_self ..) ⟨61, rfl, by decide⟩
    clear hH
    exact yields_append N1 Fs1 (.tmp 61) (.tmp 62) 47 rfl 57 i0 _ 24 Try.underlying47 hi hz0 hz1 hz2 rfl va1 0 [] rfl h0 A1 a.length c1 (tcells a) rfl HZ1.out (tcells_len _) (HA3.out.ext (below_ext HN1.out hw'.1)) (tcells_one _) (by unfold maxLen; omega) (by omega) hw'.big HE1.out (fun _ _ _ _ h => absurd h (by omega))
  intro vb1
  apply step_det (.slice A2 b.length c2) rfl rfl rfl
  · intro w' hw' hH
    clear hH
    simp [YieldsF, go_sem]
    exact hw'.self
  apply step_fact (RowF N1 57 (0 + a.length + b.length) ([] ++ tcells a ++ tcells b)) (keeps_fact HF1.out.2.2.1) rfl rfl rfl
  · intro w' hw' hH
    have h0 := hH _ (List.mem_cons_self ..) ⟨63, rfl, by decide⟩
    clear hH
    exact yields_append N1 Fs1 (.tmp 63) (.tmp 64) 47 rfl 57 i0 _ 24 Try.underlying47 hi hz0 hz1 hz2 rfl vb1 (0 + a.length) ([] ++ tcells a) rfl h0 A2 b.length c2 (tcells b) rfl HZ2.out (tcells_len _) (HB3.out.ext (below_ext HN1.out hw'.1)) (tcells_one _) (by unfold maxLen; omega) (by omega) hw'.big HE1.out (HR1.out w')
  intro vc1
  apply step_det (.agg #[.int .u8 3, .int .i64 0, .int .i64 0]) rfl rfl rfl
  · intro w' hw' hH
    clear hH
    have hb := HP14.out.ext (below_ext HN1.out hw'.1)
    have c0 := hb.cell 0
    have c1 := hb.cell 1
    have c2 := hb.cell 2
    simp [YieldsF, go_sem, c0, c1, c2]
    exact hw'.self
  apply step_fact (LitF 57 1 #[.int .u8 3, .int .i64 0, .int .i64 0]) (keeps_fact HF1.out.2.2.2) rfl rfl rfl
  · intro w' hw' hH
    clear hH
    simp [YieldsF, go_sem]
    exact ⟨⟨_, rfl, Blk.new w' _ _⟩, hw'.more HE1.out (Ext.alloc _ _)⟩
  intro vd1
  apply WalkF_nil
  intro wa1 hw1 hH
  obtain ⟨gd1, rfl, hb1⟩ := hH _ (List.mem_cons_self ..)
  obtain ⟨ho1, Ac1, cc1, rfl, hzc1, _⟩ := hH _ (List.mem_cons_of_mem _ (List.mem_cons_self ..))
  clear hH
  have hc1 := blk_cells hb1
  have hX1 : Ext w3 wa1 := below_ext HN1.out hw1.1
  have hG1 := hw1.big
  clear hb1 hw1
  simp only [Nat.zero_add, List.nil_append] at ho1
  simp only [Act.put]
  simp
  refine wpList_grow rfl (.tmp 65) (.tmp 67) 47 rfl N1 57 i0 _ 3 24 Try.underlying47 hi hz0 hz1 hz2 rfl (by decide) _ _ _ rfl ho1 _ 1 1 [.int .u8 3, .int .i64 0, .int .i64 0] rfl (by simp) rfl hc1 ?c2 ?c3 ?c4 hG1 ?_
  case c2 => first | (intro u hu; simp at hu; rcases hu with rfl | rfl | rfl <;> rfl) | exact ⟨rfl, rfl⟩ | exact ⟨rfl, rfl, rfl⟩
  case c3 => unfold maxLen; omega
  case c4 => omega
  intro Ax1 cx1 wb1 zx1 hown1 hgrow1
  have HXR1 : Hid (Ext w3 wb1) := Lib.hid (hX1.grown hgrow1 (fun q hq => by have := (ho1.lt q hq).1; have := HN1.out; omega))
  have HCR1 : Hid (Cells wb1 Ax1 (tcells (a ++ b ++ [(3, 0, 0)]))) := Lib.hid (by rw [tcells_append, tcells_append]; exact Cells.own hown1)
  clear hown1 hgrow1 ho1 hc1 hX1 hG1 hzc1 zx1 HE1 HR1 HF1 HN1
  have hlx1 : a.length + (b.length + 1) = (a ++ b ++ [((3, 0, 0) : TermD)]).length := by simp
  go_wp2_with fail
  have HX4 : Hid (Ext w wb1) := Ext.trans HX3.out HXR1.out
  have HA4 := Lib.hid (HA3.out.ext HXR1.out)
  have HB4 := Lib.hid (HB3.out.ext HXR1.out)
  have HP14b := Lib.hid (HP14.out.ext HXR1.out)
  have HP15b := Lib.hid (HP15.out.ext HXR1.out)
  have HP16b := Lib.hid (HP16.out.ext HXR1.out)
  clear HX3 HA3 HB3 HP14 HP15 HP16 HXR1
  obtain ⟨N2, HN2⟩ : ∃ N, Hid (wb1.heap.size = N) := ⟨_, Lib.hid rfl⟩
  obtain ⟨Fs2, hFs2⟩ : ∃ Fs, Fs = [RowF N2 57 0 [], RowF N2 57 (0 + b.length) ([] ++ tcells b), RowF N2 57 (0 + b.length + a.length) ([] ++ tcells b ++ tcells a), LitF 57 1 #[.int .u8 3, .int .i64 0, .int .i64 0]] := ⟨_, rfl⟩
  have HE2 : Hid (∀ F ∈ Fs2, ∀ v w w', F v w → Ext w w' → F v w') := Lib.hid (by rw [hFs2]; exact fs_ext _ _ _ _ _)
  have HR2 : Hid (∀ w g cap w', Roomy N2 g (0 + b.length) a.length cap 57 ([] ++ tcells b) (tcells a) w w' → 0 < 0 + b.length → 0 < a.length → ∀ F ∈ Fs2, ∀ v, F v w → F v w') := Lib.hid (by rw [hFs2]; exact fun w => fs_room _ _ _ _ _ w)
  have HF2 : Hid (RowF N2 57 0 [] ∈ Fs2 ∧ RowF N2 57 (0 + b.length) ([] ++ tcells b) ∈ Fs2 ∧ RowF N2 57 (0 + b.length + a.length) ([] ++ tcells b ++ tcells a) ∈ Fs2 ∧ LitF 57 1 #[.int .u8 3, .int .i64 0, .int .i64 0] ∈ Fs2) := Lib.hid (by rw [hFs2]; simp)
  clear hFs2
  apply wp_region_keeps Fs2 7 (by kernel_rfl) (by kernel_rfl) (by kernel_rfl) HE2.out
  dsimp only [List.take_succ_cons, List.take_zero, List.drop_succ_cons, List.drop_zero]
  rw [HN2.out]
  apply step_fact (RowF N2 57 0 []) (keeps_fact HF2.out.1) rfl rfl rfl
  · intro w' hw' hH
    clear hH
    simp [YieldsF, go_sem]
    exact ⟨own_none w' _ hw'.big, hw'.more HE2.out (Ext.alloc _ _)⟩
  intro va2
  apply step_det (.slice A2 b.length c2) rfl rfl rfl
  · intro w' hw' hH
    clear hH
    simp [YieldsF, go_sem]
    exact hw'.self
  apply step_fact (RowF N2 57 (0 + b.length) ([] ++ tcells b)) (keeps_fact HF2.out.2.1) rfl rfl rfl
  · intro w' hw' hH
    have h0 := hH _ (List.mem_cons_self ..) ⟨69, rfl, by decide⟩
    clear hH
    exact yields_append N2 Fs2 (.tmp 69) (.tmp 70) 47 rfl 57 i0 _ 24 Try.underlying47 hi hz0 hz1 hz2 rfl va2 0 [] rfl h0 A2 b.length c2 (tcells b) rfl HZ2.out (tcells_len _) (HB4.out.ext (below_ext HN2.out hw'.1)) (tcells_one _) (by unfold maxLen; omega) (by omega) hw'.big HE2.out (fun _ _ _ _ h => absurd h (by omega))
  intro vb2
  apply step_det (.slice A1 a.length c1) rfl rfl rfl
  · intro w' hw' hH
    clear hH
    simp [YieldsF, go_sem]
    exact hw'.self
  apply step_fact (RowF N2 57 (0 + b.length + a.length) ([] ++ tcells b ++ tcells a)) (keeps_fact HF2.out.2.2.1) rfl rfl rfl
  · intro w' hw' hH
    have h0 := hH _ (List.mem_cons_self ..) ⟨71, rfl, by decide⟩
    clear hH
    exact yields_append N2 Fs2 (.tmp 71) (.tmp 72) 47 rfl 57 i0 _ 24 Try.underlying47 hi hz0 hz1 hz2 rfl vb2 (0 + b.length) ([] ++ tcells b) rfl h0 A1 a.length c1 (tcells a) rfl HZ1.out (tcells_len _) (HA4.out.ext (below_ext HN2.out hw'.1)) (tcells_one _) (by unfold maxLen; omega) (by omega) hw'.big HE2.out (HR2.out w')
  intro vc2
  apply step_det (.agg #[.int .u8 3, .int .i64 0, .int .i64 0]) rfl rfl rfl
  · intro w' hw' hH
    clear hH
    have hb := HP14b.out.ext (below_ext HN2.out hw'.1)
    have c0 := hb.cell 0
    have c1 := hb.cell 1
    have c2 := hb.cell 2
    simp [YieldsF, go_sem, c0, c1, c2]
    exact hw'.self
  apply step_fact (LitF 57 1 #[.int .u8 3, .int .i64 0, .int .i64 0]) (keeps_fact HF2.out.2.2.2) rfl rfl rfl
  · intro w' hw' hH
    clear hH
    simp [YieldsF, go_sem]
    exact ⟨⟨_, rfl, Blk.new w' _ _⟩, hw'.more HE2.out (Ext.alloc _ _)⟩
  intro vd2
  apply WalkF_nil
  intro wa2 hw2 hH
  obtain ⟨gd2, rfl, hb2⟩ := hH _ (List.mem_cons_self ..)
  obtain ⟨ho2, Ac2, cc2, rfl, hzc2, _⟩ := hH _ (List.mem_cons_of_mem _ (List.mem_cons_self ..))
  clear hH
  have hc2 := blk_cells hb2
  have hX2 : Ext wb1 wa2 := below_ext HN2.out hw2.1
  have hG2 := hw2.big
  clear hb2 hw2
  simp only [Nat.zero_add, List.nil_append] at ho2
  simp only [Act.put]
  simp
  refine wpList_grow rfl (.tmp 73) (.tmp 75) 47 rfl N2 57 i0 _ 3 24 Try.underlying47 hi hz0 hz1 hz2 rfl (by decide) _ _ _ rfl ho2 _ 1 1 [.int .u8 3, .int .i64 0, .int .i64 0] rfl (by simp) rfl hc2 ?c2 ?c3 ?c4 hG2 ?_
  case c2 => first | (intro u hu; simp at hu; rcases hu with rfl | rfl | rfl <;> rfl) | exact ⟨rfl, rfl⟩ | exact ⟨rfl, rfl, rfl⟩
  case c3 => unfold maxLen; omega
  case c4 => omega
  intro Ax2 cx2 wb2 zx2 hown2 hgrow2
  have HXR2 : Hid (Ext wb1 wb2) := Lib.hid (hX2.grown hgrow2 (fun q hq => by have := (ho2.lt q hq).1; have := HN2.out; omega))
  have HCR2 : Hid (Cells wb2 Ax2 (tcells (b ++ a ++ [(3, 0, 0)]))) := Lib.hid (by rw [tcells_append, tcells_append]; exact Cells.own hown2)
  clear hown2 hgrow2 ho2 hc2 hX2 hG2 hzc2 zx2 HE2 HR2 HF2 HN2
  have hlx2 : b.length + (a.length + 1) = (b ++ a ++ [((3, 0, 0) : TermD)]).length := by simp
  go_wp2_with fail
  have HX5 : Hid (Ext w wb2) := Ext.trans HX4.out HXR2.out
  have HA5 := Lib.hid (HA4.out.ext HXR2.out)
  have HP14c := Lib.hid (HP14b.out.ext HXR2.out)
  have HP15c := Lib.hid (HP15b.out.ext HXR2.out)
  have HP16c := Lib.hid (HP16b.out.ext HXR2.out)
  have HCR1b := Lib.hid (HCR1.out.ext HXR2.out)
  clear HX4 HA4 HB4 HP14b HP15b HP16b HCR1 HXR2
  have HOAB : Hid (∀ t ∈ a ++ b ++ [((3, 0, 0) : TermD)], t.ok) := Lib.hid (ok_sum HOA.out HOB.out)
  have HOBA : Hid (∀ t ∈ b ++ a ++ [((3, 0, 0) : TermD)], t.ok) := Lib.hid (ok_sum HOB.out HOA.out)
  refine (of_v _ _ (a ++ b ++ [(3, 0, 0)]) ps _ _ _ _ (su, nu, pu) _ hlx1 rfl (by rw [← hlx1]; omega) (by omega) HCR1b.out (HV.out.ext HX5.out) HOAB.out HU).mono ?_
  rintro e w6 ⟨rfl, hx6⟩
  simp only [KindD.val]
  have HX6 := Lib.hid hx6
  clear hx6
  go_wp2_with fail
  refine (of_v _ _ (b ++ a ++ [(3, 0, 0)]) ps _ _ _ _ (su, nu, pu) _ hlx2 rfl (by rw [← hlx2]; omega) (by omega) (HCR2.out.ext HX6.out) ((HV.out.ext HX5.out).ext HX6.out) HOBA.out HUC).mono ?_
  rintro e w7 ⟨rfl, hx7⟩
  simp only [KindD.val]
  have HX7 : Hid (Ext wb2 w7) := Ext.trans HX6.out hx7
  clear hx7 HX6 HCR1b HCR2
  go_wp2_with fail
  refine (of_v _ _ a ps _ _ _ _ (2, nk, pk) _ rfl rfl (by omega) (by omega) (HA5.out.ext HX7.out) ((HV.out.ext HX5.out).ext HX7.out) HOA.out HK).mono ?_
  rintro e w8 ⟨rfl, hx8⟩
  simp only [KindD.val]
  have HX8 : Hid (Ext wb2 w8) := Ext.trans HX7.out hx8
  clear hx8 HX7
  go_wp2_with fail
  have HP14d := Lib.hid ((HP14c.out.ext HX8.out).alloc (.cells #[.int .u8 2, .int .i64 nk, .int .i64 pk] 23))
  have HP15d := Lib.hid ((HP15c.out.ext HX8.out).alloc (.cells #[.int .u8 2, .int .i64 nk, .int .i64 pk] 23))
  have HP16d := Lib.hid ((HP16c.out.ext HX8.out).alloc (.cells #[.int .u8 2, .int .i64 nk, .int .i64 pk] 23))
  have HP19 : Hid (Blk (w8.alloc (.cells #[.int .u8 2, .int .i64 nk, .int .i64 pk] 23)) w8.heap.size 23 #[.int .u8 2, .int .i64 nk, .int .i64 pk]) := Blk.new _ _ _
  have HX9 : Hid (Ext w (w8.alloc (.cells #[.int .u8 2, .int .i64 nk, .int .i64 pk] 23))) := Ext.trans HX5.out (Ext.trans HX8.out (Ext.alloc _ _))
  have HA9 : Hid (Cells (w8.alloc (.cells #[.int .u8 2, .int .i64 nk, .int .i64 pk] 23)) A1 (tcells a)) := Lib.hid (HA.out.ext HX9.out)
  have HV9 : Hid (Cells (w8.alloc (.cells #[.int .u8 2, .int .i64 nk, .int .i64 pk] 23)) V (tcells ps)) := Lib.hid (HV.out.ext HX9.out)
  clear HP14c HP15c HP16c HX8 HX5 HA5
  generalize w8.alloc (.cells #[.int .u8 2, .int .i64 nk, .int .i64 pk] 23) = w9 at *
  generalize w8.heap.size = g19 at *
  obtain ⟨N3, HN3⟩ : ∃ N, Hid (w9.heap.size = N) := ⟨_, Lib.hid rfl⟩
  obtain ⟨cs, hcs⟩ : ∃ cs : Array Value, cs = #[.int .u8 1, .int .i64 n, .int .i64 0, .int .u8 3, .int .i64 0, .int .i64 0, .int .u8 1, .int .i64 n, .int .i64 0, .int .u8 4, .int .i64 0, .int .i64 0] := ⟨_, rfl⟩
  obtain ⟨Fs3, hFs3⟩ : ∃ Fs, Fs = [RowF N3 57 0 [], RowF N3 57 (0 + a.length) ([] ++ tcells a), RowF N3 57 (0 + a.length + 4) ([] ++ tcells a ++ cs.toList), LitF 57 4 cs, PtrF 23 #[.int .u8 0, .int .i64 0, .int .i64 0] N3] := ⟨_, rfl⟩
  have HE3 : Hid (∀ F ∈ Fs3, ∀ v w w', F v w → Ext w w' → F v w') := Lib.hid (by rw [hFs3]; exact gs_ext _ _ _ _ _)
  have HR3 : Hid (∀ w g cap w', Roomy N3 g (0 + a.length) 4 cap 57 ([] ++ tcells a) cs.toList w w' → 0 < 0 + a.length → 0 < 4 → ∀ F ∈ Fs3, ∀ v, F v w → F v w') := Lib.hid (by rw [hFs3]; exact fun w => gs_room _ _ _ _ _ (by rw [hcs]; rfl) w)
  have HF3 : Hid (RowF N3 57 0 [] ∈ Fs3 ∧ RowF N3 57 (0 + a.length) ([] ++ tcells a) ∈ Fs3 ∧ RowF N3 57 (0 + a.length + 4) ([] ++ tcells a ++ cs.toList) ∈ Fs3 ∧ LitF 57 4 cs ∈ Fs3 ∧ PtrF 23 #[.int .u8 0, .int .i64 0, .int .i64 0] N3 ∈ Fs3) := Lib.hid (by rw [hFs3]; simp)
  have HCS := Lib.hid hcs
  clear hFs3 hcs
  apply wp_region_keeps Fs3 12 (by kernel_rfl) (by kernel_rfl) (by kernel_rfl) HE3.out
  dsimp only [List.take_succ_cons, List.take_zero, List.drop_succ_cons, List.drop_zero]
  rw [HN3.out]
  apply step_fact (RowF N3 57 0 []) (keeps_fact HF3.out.1) rfl rfl rfl
  · intro w' hw' hH
    clear hH
    simp [YieldsF, go_sem]
    exact ⟨own_none w' _ hw'.big, hw'.more HE3.out (Ext.alloc _ _)⟩
  intro va3
  apply step_det (.slice A1 a.length c1) rfl rfl rfl
  · intro w' hw' hH
    clear hH
    simp [YieldsF, go_sem]
    exact hw'.self
  apply step_fact (RowF N3 57 (0 + a.length) ([] ++ tcells a)) (keeps_fact HF3.out.2.1) rfl rfl rfl
  · intro w' hw' hH
    have h0 := hH _ (List.mem_cons_self ..) ⟨87, rfl, by decide⟩
    clear hH
    exact yields_append N3 Fs3 (.tmp 87) (.tmp 88) 47 rfl 57 i0 _ 24 Try.underlying47 hi hz0 hz1 hz2 rfl va3 0 [] rfl h0 A1 a.length c1 (tcells a) rfl HZ1.out (tcells_len _) (HA9.out.ext (below_ext HN3.out hw'.1)) (tcells_one _) (by unfold maxLen; omega) (by omega) hw'.big HE3.out (fun _ _ _ _ h => absurd h (by omega))
  intro vb3
  apply step_det (.agg #[.int .u8 1, .int .i64 n, .int .i64 0]) rfl rfl rfl
  · intro w' hw' hH
    clear hH
    have hb := HP16d.out.ext (below_ext HN3.out hw'.1)
    have c0 := hb.cell 0
    have c1 := hb.cell 1
    have c2 := hb.cell 2
    simp [YieldsF, go_sem, c0, c1, c2]
    exact hw'.self
  apply step_det (.agg #[.int .u8 3, .int .i64 0, .int .i64 0]) rfl rfl rfl
  · intro w' hw' hH
    clear hH
    have hb := HP14d.out.ext (below_ext HN3.out hw'.1)
    have c0 := hb.cell 0
    have c1 := hb.cell 1
    have c2 := hb.cell 2
    simp [YieldsF, go_sem, c0, c1, c2]
    exact hw'.self
  apply step_det (.agg #[.int .u8 1, .int .i64 n, .int .i64 0]) rfl rfl rfl
  · intro w' hw' hH
    clear hH
    have hb := HP16d.out.ext (below_ext HN3.out hw'.1)
    have c0 := hb.cell 0
    have c1 := hb.cell 1
    have c2 := hb.cell 2
    simp [YieldsF, go_sem, c0, c1, c2]
    exact hw'.self
  apply step_det (.agg #[.int .u8 4, .int .i64 0, .int .i64 0]) rfl rfl rfl
  · intro w' hw' hH
    clear hH
    have hb := HP15d.out.ext (below_ext HN3.out hw'.1)
    have c0 := hb.cell 0
    have c1 := hb.cell 1
    have c2 := hb.cell 2
    simp [YieldsF, go_sem, c0, c1, c2]
    exact hw'.self
  apply step_fact (LitF 57 4 cs) (keeps_fact HF3.out.2.2.2.1) rfl rfl rfl
  · intro w' hw' hH
    clear hH
    rw [HCS.out]
    simp [YieldsF, go_sem]
    exact ⟨⟨_, rfl, Blk.new w' _ _⟩, hw'.more HE3.out (Ext.alloc _ _)⟩
  intro vl3
  apply step_fact (RowF N3 57 (0 + a.length + 4) ([] ++ tcells a ++ cs.toList)) (keeps_fact HF3.out.2.2.1) rfl rfl rfl
  · intro w' hw' hH
    obtain ⟨gl, rfl, hbl⟩ := hH _ (List.mem_cons_self ..) ⟨94, rfl, by decide⟩
    have h0 := hH _ (List.mem_cons_of_mem _ (List.mem_cons_self ..)) ⟨89, rfl, by decide⟩
    clear hH
    exact yields_append N3 Fs3 (.tmp 89) (.tmp 94) 47 rfl 57 i0 _ 24 Try.underlying47 hi hz0 hz1 hz2 rfl vb3 (0 + a.length) ([] ++ tcells a) (by kernel_rfl) h0 (some ⟨gl, 0, none⟩) 4 4 cs.toList (by kernel_rfl) (fun h => by cases h) (by rw [HCS.out]; rfl) (blk_cells hbl) (by rw [HCS.out]; intro u hu; simp at hu; rcases hu with rfl | rfl | rfl | rfl | rfl | rfl | rfl | rfl | rfl | rfl | rfl | rfl <;> rfl) (by unfold maxLen; omega) (by omega) hw'.big HE3.out (HR3.out w')
  intro vx3
  apply step_det (.slice V ps.length d) rfl rfl rfl
  · intro w' hw' hH
    clear hH
    simp [YieldsF, go_sem]
    exact hw'.self
  apply step_det (.agg #[.int .u8 2, .int .i64 nk, .int .i64 pk]) rfl rfl rfl
  · intro w' hw' hH
    obtain ⟨ho, Ax, cx, rfl, _, _⟩ := hH _ (List.mem_cons_self ..) ⟨95, rfl, by decide⟩
    clear hH
    simp [YieldsF, go_sem]
    have hC : Cells w' Ax (tcells (a ++ [(1, n, 0), (3, 0, 0), (1, n, 0), (4, 0, 0)])) := by
      have := Cells.own ho
      rw [HCS.out] at this
      rw [tcells_append]
      exact this
    refine (of_v Ax V (a ++ [(1, n, 0), (3, 0, 0), (1, n, 0), (4, 0, 0)]) ps _ _ _ _ (2, nk, pk) w' (by simp) rfl (by simp; omega) (by omega) hC (HV9.out.ext (below_ext HN3.out hw'.1)) (ok_back HOA.out HNR.out) HZ).mono ?_
    rintro e w2 ⟨rfl, hx⟩
    exact ⟨_, rfl, rfl, hw'.more HE3.out hx⟩
  apply step_fact (PtrF 23 #[.int .u8 0, .int .i64 0, .int .i64 0] N3) (keeps_fact HF3.out.2.2.2.2) rfl rfl rfl
  · intro w' hw' hH
    clear hH
    simp [YieldsF, go_sem]
    exact ⟨⟨_, rfl, Blk.new w' _ _, hw'.big⟩, hw'.more HE3.out (Ext.alloc _ _)⟩
  intro vp3
  apply WalkF_nil
  intro wa3 hw3 hH
  obtain ⟨g20, rfl, hb20, hg20⟩ := hH _ (List.mem_cons_self ..)
  clear hH
  have hX3 : Ext w9 wa3 := below_ext HN3.out hw3.1
  clear hw3
  simp only [Act.put]
  simp
  refine wpList_put rfl 23 (.tmp 20) (.tmp 97) rfl g20 #[.int .u8 2, .int .i64 nk, .int .i64 pk] rfl rfl 23 _ hb20 (by kernel_rfl) rfl rfl ?_
  intro wc ht hC20
  have hE20 : Ext w9 wc := ht.ext hX3 (by have := HN3.out; omega)
  have HP19c := Lib.hid (HP19.out.ext hE20)
  have HP20 := Lib.hid hC20
  have HXC : Hid (Ext w wc) := Ext.trans HX9.out hE20
  clear ht hC20 hE20 hX3 hb20 hg20 HE3 HR3 HF3 HN3 HCS HP19 HX9 HP14d HP15d HP16d HA9 HV9
  have d0 := HP19c.out.cell 0
  have d1 := HP19c.out.cell 1
  have d2 := HP19c.out.cell 2
  have f0 := HP20.out.cell 0
  have f1 := HP20.out.cell 1
  have f2 := HP20.out.cell 2
  simp only [Act.put]
  go_wp2_with fail
  refine (works20 _).mono ?_
  rintro e wz ⟨rfl, hxz⟩
  have HXZ : Hid (Ext w wz) := Ext.trans HXC.out hxz
  clear hxz
  go_wp2_with fail
  go_ret
  exact ⟨rfl, HXZ.out⟩
end Go.Proofs.Ythofccoefiogiaa
