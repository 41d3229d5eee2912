/- TreeSame, walked: always true. -/
import Derived.Test.YthofccoefiogiaaTStrip
import Derived.Test.YthofccoefiogiaaTSame
import Derived.Test.YthofccoefiogiaaTRefT
import Derived.Test.YthofccoefiogiaaTFind2
namespace Go.Proofs.Ythofccoefiogiaa
open Go Go.RowKit
set_option linter.unusedVariables false
set_option linter.unusedSimpArgs false
section
variable {P : Program} {ops : Array Oper} {R : World → World → Prop} {w0 : World} {Q : Act → World → Prop}
theorem step_fact_on2 {o : Oper} {l : List Oper} {ks : List Take} {a : Act} {H : List (Option Tmp × (World → Prop))} {d : Option Tmp} {L : List Tmp} (F : Value → World → Prop) (hs : ∀ v w w', F v w → R w w' → F v w') (hw : Region.wanted o (yielded ops a.tmps) = true) (hd : o.dst = d) (hL : looksOf o = L)
    (h : ∀ w, R w0 w → (∀ p ∈ H, (∃ t, p.1 = some t ∧ t ∈ L) → p.2 w) → YieldsF P a.eval o w (fun v w' => F v w' ∧ R w w')) (hk : ∀ v, WalkF P ops R w0 Q l ks (a.put d v) ((d, F v) :: H)) : WalkF P ops R w0 Q (o :: l) (.fact F :: ks) a H := by
  subst hd hL
  refine WalkF_fact F hs (fun w hw' hH => ?_) hk
  rw [if_pos hw]
  exact h w hw' fun p hp ⟨t, ht, hm⟩ => hH p hp ⟨t, ht, List.mem_append_left _ hm⟩
end
set_option maxRecDepth 100000 in
set_option maxHeartbeats 16000000 in
theorem treeSame_any (l m : List NodeM) (A B : Option Addr) (c c2 : Nat) (q : Int) (w : World) (ht : TreeM w A l) (htm : TreeM w B m) :
    Calls Try.prog 11 #[.agg #[.slice A l.length c], .agg #[.slice B m.length c2], .int .i64 q] w fun e w' => e = .returned (.bool true) ∧ Ext w w' := by
  obtain ⟨i0, hi, hz0, hz1, hz2⟩ := info_parts infoNode
  have HT := Lib.hid ht
  have HM := Lib.hid htm
  clear ht htm
  obtain ⟨f, HF⟩ : ∃ f, Hid (fewM l 200 = f) := ⟨_, Lib.hid rfl⟩
  obtain ⟨f2, HF2⟩ : ∃ f, Hid (fewM m 200 = f) := ⟨_, Lib.hid rfl⟩
  have HB0 : Hid (Blk ((w.alloc (.cells #[.slice A l.length c] 62)).alloc (.cells #[.slice B m.length c2] 62)) w.heap.size 62 #[.slice A l.length c]) := Lib.hid ((Blk.new _ _ _).alloc _)
  have HC0 : Hid (Blk ((w.alloc (.cells #[.slice A l.length c] 62)).alloc (.cells #[.slice B m.length c2] 62)) (w.heap.size + 1) 62 #[.slice B m.length c2]) := Lib.hid (Blk.newAt (by simp))
  have HX0 : Hid (Ext w ((w.alloc (.cells #[.slice A l.length c] 62)).alloc (.cells #[.slice B m.length c2] 62))) := Lib.hid ((Ext.alloc _ _).trans (Ext.alloc _ _))
  have y0 := HB0.out.cell 0
  have y1 := HC0.out.cell 0
  go_enter Try.func11, Try.ntmps11
  go_wp2_with fail
  refine (few_any l A l.length c 200 _ rfl (HT.out.ext HX0.out) (by decide) f HF).mono ?_
  rintro e w1 ⟨rfl, hx1⟩
  have HB1 := Lib.hid (HB0.out.ext hx1)
  have HC1 := Lib.hid (HC0.out.ext hx1)
  have HX1 := Lib.hid (HX0.out.trans hx1)
  clear hx1 y0 y1 HB0 HX0 HC0
  generalize w.heap.size + 1 = g2 at *
  generalize w.heap.size = g1 at *
  cases f with
  | false =>
    go_wp2_with fail
    refine (works4_any w1).mono ?_
    rintro e w2 ⟨rfl, hx2⟩
    have HX2 := Lib.hid (HX1.out.trans hx2)
    clear hx2
    go_wp2_with fail
    go_ret
    exact ⟨rfl, HX2.out⟩
  | true =>
    have y1 := HC1.out.cell 0
    go_wp2_with fail
    refine (few_any m B m.length c2 200 w1 rfl (HM.out.ext HX1.out) (by decide) f2 HF2).mono ?_
    rintro e w2 ⟨rfl, hx2⟩
    have HB2 := Lib.hid (HB1.out.ext hx2)
    have HC2 := Lib.hid (HC1.out.ext hx2)
    have HX2 := Lib.hid (HX1.out.trans hx2)
    clear hx2 y1 HX1 HB1 HC1
    cases f2 with
    | false =>
      go_wp2_with fail
      refine (works4_any w2).mono ?_
      rintro e w3 ⟨rfl, hx3⟩
      have HX3 := Lib.hid (HX2.out.trans hx3)
      clear hx3
      go_wp2_with fail
      go_ret
      exact ⟨rfl, HX3.out⟩
    | true =>
      have hsm := few_sm HF.out (by decide)
      have hlen := hsm.1
      have HSM := Lib.hid hsm.2
      have hsm2 := few_sm HF2.out (by decide)
      have hlen2 := hsm2.1
      have HSM2 := Lib.hid hsm2.2
      clear hsm hsm2
      go_upto_region 4 with fail
      have HU0 : Hid (USt w2 (w2.alloc (.cells #[.slice none 0 0] 62)) g1 g2 w2.heap.size (.slice A l.length c) (.slice B m.length c2) l [] 0 none 0) :=
        Lib.hid ⟨HB2.out.ext (Ext.alloc _ _), HC2.out.ext (Ext.alloc _ _), Blk.new _ _ _, World.ownsRow_nil _ _ _ _, Ext.alloc _ _, Nat.le_refl _, fun _ => rfl, rfl, rfl, by have := HB2.out.lt; omega, by have := HC2.out.lt; omega⟩
      have HT2 := Lib.hid (HT.out.ext HX2.out)
      have HM2 := Lib.hid (HM.out.ext HX2.out)
      clear HB2 HC2 HT HM
      generalize w2.alloc (.cells #[.slice none 0 0] 62) = w3 at *
      obtain ⟨gu, hgu⟩ : ∃ gu, gu = w2.heap.size := ⟨_, rfl⟩
      rw [← hgu] at HU0 ⊢
      clear hgu
      go_wp2_with fail
      go_loopw [8] (fun i wr => ∃ (k : Nat) (lu : List NodeM) (U : Option Addr) (uc : Nat), k ≤ l.length ∧ i = .int .i64 k ∧ Hid (USt w2 wr g1 g2 gu (.slice A l.length c) (.slice B m.length c2) l lu k U uc)) (fun i _ => l.length - (intOf i).toNat)
      case atStart => exact ⟨0, [], none, 0, Nat.zero_le _, rfl, HU0⟩
      case round =>
        clear HU0
        obtain ⟨k, lu, U, uc, hk, rfl, HU⟩ := hrel
        obtain ⟨wa, rfl⟩ : ∃ wa : World, wa = wr := ⟨_, rfl⟩
        have y0 := HU.out.t1.cell 0
        by_cases hlt : k < l.length
        · have d0 : decide ((k : Int) < (l.length : Int)) = true := decide_eq_true (by omega)
          have q1 : (k : Int) < (l.length : Int) := by omega
          obtain ⟨bb, off, rfl, hbb, hcell⟩ := (HT2.out.ext HU.out.ext).at_ k hlt
          have HSTP : Hid (∀ pp : Int, ∀ W W' U' uc' uc2, ∀ x : NodeM, x = { l[k] with pos := pp } → USt w2 W g1 g2 gu (.slice (some ⟨bb, off, none⟩) l.length c) (.slice B m.length c2) l lu k U uc2 → W'.ownsRow w2.heap.size 73 5 (.slice U' (k + 1) uc') (k + 1) (trcells lu ++ x.cells) → W.grownBy W' (Value.slice U k uc2).ownBlock → (U' = none → uc' = 0) →
              USt w2 (W'.setCell ⟨gu, 0, none⟩ (.slice U' (k + 1) uc')) g1 g2 gu (.slice (some ⟨bb, off, none⟩) l.length c) (.slice B m.length c2) l (lu ++ [x]) (k + 1) U' uc') := Lib.hid (fun pp W W' U' uc' uc2 x hx h ho hg hn => h.step hlt (by rw [hx]; rfl) ho hg hn)
          generalize l[k] = x at *
          obtain ⟨kind, pos, text, num, kA, kc, kids⟩ := x
          have x0 : wa.cell? ⟨bb, off + k * 5, none⟩ = some (.int .u8 kind) := hcell 0 (by omega)
          have x1 : wa.cell? ⟨bb, off + k * 5 + 1, none⟩ = some (.int .i64 pos) := hcell 1 (by omega)
          have x2 : wa.cell? ⟨bb, off + k * 5 + 2, none⟩ = some (.string text) := hcell 2 (by omega)
          have x3 : wa.cell? ⟨bb, off + k * 5 + 3, none⟩ = some (.int .i64 num) := hcell 3 (by omega)
          have x4 : wa.cell? ⟨bb, off + k * 5 + 4, none⟩ = some (.slice kA kids.length kc) := hcell 4 (by omega)
          clear hcell
          go_upto_region 8 with fail
          have HXA : Hid (Ext wa (wa.alloc (.cells #[.int .u8 kind, .int .i64 pos, .string text, .int .i64 num, .slice kA kids.length kc] 73))) := Lib.hid (Ext.alloc _ _)
          have HBX : Hid (Blk (wa.alloc (.cells #[.int .u8 kind, .int .i64 pos, .string text, .int .i64 num, .slice kA kids.length kc] 73)) wa.heap.size 73 #[.int .u8 kind, .int .i64 pos, .string text, .int .i64 num, .slice kA kids.length kc]) := Lib.hid (Blk.new _ _ _)
          have HU1 := Lib.hid (HU.out.mono HXA.out)
          have HGX : Hid (g1 ≠ wa.heap.size ∧ g2 ≠ wa.heap.size ∧ gu ≠ wa.heap.size ∧ (Value.slice U k uc).ownBlock ≠ some wa.heap.size ∧ w2.heap.size ≤ wa.heap.size) := Lib.hid (by
            have h1 := HU.out.t1.lt
            have h2 := HU.out.u.lt
            have h3 := HU.out.t2.lt
            refine ⟨by omega, by omega, by omega, ?_, HU.out.ext.size⟩
            intro h
            have := (HU.out.own.lt _ h).2
            omega)
          clear x0 x1 x2 x3 x4 y0 HU HXA
          generalize wa.alloc (.cells #[.int .u8 kind, .int .i64 pos, .string text, .int .i64 num, .slice kA kids.length kc] 73) = wb at *
          generalize wa.heap.size = gx at *
          obtain ⟨pp, hpp⟩ : ∃ pp, IntKind.i64.wrap (pos + 7) = pp := ⟨_, rfl⟩
          have f0 : wb.frozen? ⟨gx, 1, none⟩ = false := HBX.out.frozen 1
          have x1 : wb.cell? ⟨gx, 1, none⟩ = some (.int .i64 pos) := HBX.out.cell 1
          have HBP : Hid (Blk (wb.setCell ⟨gx, 1, none⟩ (.int .i64 pp)) gx 73 #[.int .u8 kind, .int .i64 pp, .string text, .int .i64 num, .slice kA kids.length kc]) := Lib.hid (HBX.out.put 1 _)
          have HUP := Lib.hid (HU1.out.far (p := ⟨gx, 1, none⟩) HGX.out.1 HGX.out.2.1 HGX.out.2.2.1 HGX.out.2.2.2.1 HGX.out.2.2.2.2 (.int .i64 pp))
          go_upto_region 9 with fail
          clear f0 x1 hpp
          generalize wb.setCell ⟨gx, 1, none⟩ (.int .i64 pp) = we at *
          have u0 := HUP.out.u.cell 0
          have x0 := HBP.out.cell 0
          have x1 := HBP.out.cell 1
          have x2 := HBP.out.cell 2
          have x3 := HBP.out.cell 3
          have x4 := HBP.out.cell 4
          have HUN := Lib.hid (HUP.out.mono (Ext.alloc we (.cells #[.int .u8 kind, .int .i64 pp, .string text, .int .i64 num, .slice kA kids.length kc] 73)))
          have HCA : Hid (Cells (we.alloc (.cells #[.int .u8 kind, .int .i64 pp, .string text, .int .i64 num, .slice kA kids.length kc] 73)) (some ⟨we.heap.size, 0, none⟩) [.int .u8 kind, .int .i64 pp, .string text, .int .i64 num, .slice kA kids.length kc]) := Lib.hid (Cells.new _ 73 #[.int .u8 kind, .int .i64 pp, .string text, .int .i64 num, .slice kA kids.length kc])
          go_wp2_with (at_builtin; refine wpList_grow rfl _ _ 60 rfl w2.heap.size 73 i0 _ 5 64 Try.underlying60 hi hz0 hz1 hz2 rfl (by decide) _ _ _ rfl HUN.out.own _ 1 1 [.int .u8 kind, .int .i64 pp, .string text, .int .i64 num, .slice kA kids.length kc] rfl (fun h => by cases h) rfl HCA.out ?c2 ?c3 ?c4 HUN.out.ext.size ?_)
          case c2 => first | (intro u hu; simp at hu; rcases hu with rfl | rfl | rfl | rfl | rfl <;> rfl) | exact ⟨rfl, rfl, rfl, rfl, rfl⟩
          case c3 => unfold maxLen; omega
          case c4 => omega
          intro A3 c3 w4 hn3 ho3 hg3
          have HU4 := Lib.hid (HSTP.out pp _ w4 A3 c3 uc ⟨kind, pp, text, num, kA, kc, kids⟩ rfl HUN.out ho3 hg3 hn3)
          have u1 : Blk w4 gu 62 #[.slice U k uc] := HUN.out.u.grown hg3 (Ne.symm (own_differ HUN.out.own HUN.out.u (by decide)))
          have z0 := u1.cell 0
          have z1 := u1.frozen 0
          clear u1 ho3 hg3 hn3 x0 x1 x2 x3 x4 u0
          go_wp2_with fail
          go_roundw
          case rel => exact ⟨k + 1, lu ++ [⟨kind, pp, text, num, kA, kc, kids⟩], A3, c3, by omega, by go_num, HU4⟩
          case measure => simp [intOf]; omega
        · obtain rfl : k = l.length := by omega
          have d0 : decide ((l.length : Int) < (l.length : Int)) = false := by simp
          obtain ⟨hst, htu⟩ := HU.out.done HT2.out
          have HST := Lib.hid hst
          have HTU := Lib.hid htu
          have HTA := Lib.hid (HT2.out.ext HU.out.ext)
          have HMA := Lib.hid (HM2.out.ext HU.out.ext)
          have HLU : Hid (lu.length = l.length) := Lib.hid (strip_len hst)
          have HSMU := Lib.hid (strip_sm hst HSM.out)
          clear hst htu
          have HLT : Hid (g1 < wa.heap.size ∧ g2 < wa.heap.size ∧ gu < wa.heap.size) := Lib.hid ⟨HU.out.t1.lt, HU.out.t2.lt, HU.out.u.lt⟩
          have y1 := HU.out.t2.cell 0
          have y2 := HU.out.u.cell 0
          obtain ⟨r1, HR1⟩ : ∃ r, Hid (sameM l m = r) := ⟨_, Lib.hid rfl⟩
          obtain ⟨r2, HR2⟩ : ∃ r, Hid (findM l q = r) := ⟨_, Lib.hid rfl⟩
          have HR3 : Hid (sameM l lu = true) := Lib.hid (strip_same HST.out)
          go_upto_region 10 with fail
          apply wp_region_ext (by kernel_rfl) (by kernel_rfl) (by kernel_rfl)
          apply step_det (.agg #[.slice A l.length c]) rfl rfl rfl
          · intro w' hw' hH
            clear hH
            have z0 := (hw'.cell (p := ⟨g1, 0, none⟩) HLT.out.1).trans y0
            simp [YieldsF, go_sem, z0]
            exact Ext.refl _
          apply step_det (.agg #[.slice B m.length c2]) rfl rfl rfl
          · intro w' hw' hH
            clear hH
            have z0 := (hw'.cell (p := ⟨g2, 0, none⟩) HLT.out.2.1).trans y1
            simp [YieldsF, go_sem, z0]
            exact Ext.refl _
          apply step_det (.bool r1) rfl rfl rfl
          · intro w' hw' hH
            clear hH
            simp [YieldsF, go_sem]
            refine (same_any l m A B l.length c m.length c2 w' rfl rfl (HTA.out.ext hw') (HMA.out.ext hw') hlen hlen2 (fun x hx => (HSM.out x hx).kids) (fun x hx => (HSM2.out x hx).kids) r1 HR1).mono ?_
            rintro e w2 ⟨rfl, hx⟩
            exact ⟨_, rfl, rfl, hx⟩
          apply step_det (.agg #[.slice A l.length c]) rfl rfl rfl
          · intro w' hw' hH
            clear hH
            have z0 := (hw'.cell (p := ⟨g1, 0, none⟩) HLT.out.1).trans y0
            simp [YieldsF, go_sem, z0]
            exact Ext.refl _
          apply step_fact (fun v w' => ∃ A' c', v = .slice A' l.length c' ∧ TreeM w' A' l) (by rintro v w w' ⟨A', c', h1, h2⟩ hx; exact ⟨A', c', h1, h2.ext hx⟩) rfl rfl rfl
          · intro w' hw' hH
            clear hH
            simp [YieldsF, go_sem]
            refine (plain_any l A l.length c w' rfl (HTA.out.ext hw') hlen).mono ?_
            rintro e w2 ⟨A', c', rfl, h1, h2⟩
            exact ⟨_, rfl, ⟨A', ⟨c', rfl⟩, h1⟩, h2⟩
          intro va
          apply step_det (.agg #[.slice B m.length c2]) rfl rfl rfl
          · intro w' hw' hH
            clear hH
            have z0 := (hw'.cell (p := ⟨g2, 0, none⟩) HLT.out.2.1).trans y1
            simp [YieldsF, go_sem, z0]
            exact Ext.refl _
          apply step_fact (fun v w' => ∃ A' c', v = .slice A' m.length c' ∧ TreeM w' A' m) (by rintro v w w' ⟨A', c', h1, h2⟩ hx; exact ⟨A', c', h1, h2.ext hx⟩) rfl rfl rfl
          · intro w' hw' hH
            clear hH
            simp [YieldsF, go_sem]
            refine (plain_any m B m.length c2 w' rfl (HMA.out.ext hw') hlen2).mono ?_
            rintro e w2 ⟨A', c', rfl, h1, h2⟩
            exact ⟨_, rfl, ⟨A', ⟨c', rfl⟩, h1⟩, h2⟩
          intro vb
          apply step_det (.bool r1) rfl rfl rfl
          · intro w' hw' hH
            obtain ⟨A1, c1', h1, h2⟩ := hH _ (List.mem_cons_of_mem _ (List.mem_cons_self ..)) ⟨46, rfl, by decide⟩
            obtain ⟨A2, c2', h3, h4⟩ := hH _ (List.mem_cons_self ..) ⟨48, rfl, by decide⟩
            subst h1 h3
            clear hH
            simp [YieldsF, go_sem]
            refine (rSame_any l m A1 A2 l.length c1' m.length c2' w' rfl rfl h2 h4 hlen hlen2 (fun x hx => (HSM.out x hx).kids) (fun x hx => (HSM2.out x hx).kids) r1 HR1).mono ?_
            rintro e w2 ⟨rfl, hx⟩
            exact ⟨_, rfl, rfl, hx⟩
          apply step_det (.bool true) rfl rfl rfl
          · intro w' hw' hH
            clear hH
            simp [YieldsF, go_sem]
            exact Ext.refl _
          apply step_det (.bool true) rfl rfl rfl
          · intro w' hw' hH
            clear hH
            simp [YieldsF, go_sem]
            exact Ext.refl _
          apply step_on (.agg #[.slice A l.length c]) (by kernel_rfl) rfl rfl
          · intro w' hw' hH
            clear hH
            have z0 := (hw'.cell (p := ⟨g1, 0, none⟩) HLT.out.1).trans y0
            simp [YieldsF, go_sem, z0]
            exact Ext.refl _
          apply step_on (.agg #[.slice U l.length uc]) (by kernel_rfl) rfl rfl
          · intro w' hw' hH
            clear hH
            have z0 := (hw'.cell (p := ⟨gu, 0, none⟩) HLT.out.2.2).trans y2
            simp [YieldsF, go_sem, z0]
            exact Ext.refl _
          apply step_on (.bool true) (by kernel_rfl) rfl rfl
          · intro w' hw' hH
            clear hH
            simp [YieldsF, go_sem]
            refine (same_any l lu A U l.length c l.length uc w' rfl HLU.out.symm (HTA.out.ext hw') (HTU.out.ext hw') hlen (by rw [HLU.out]; exact hlen) (fun x hx => (HSM.out x hx).kids) (fun x hx => (HSMU.out x hx).kids) true HR3).mono ?_
            rintro e w2 ⟨rfl, hx⟩
            exact ⟨_, rfl, rfl, hx⟩
          apply step_det (.bool true) rfl rfl rfl
          · intro w' hw' hH
            clear hH
            simp [YieldsF, go_sem]
            exact Ext.refl _
          apply step_det (.bool true) rfl rfl rfl
          · intro w' hw' hH
            clear hH
            simp [YieldsF, go_sem]
            exact Ext.refl _
          apply step_on (.agg #[.slice A l.length c]) (by kernel_rfl) rfl rfl
          · intro w' hw' hH
            clear hH
            have z0 := (hw'.cell (p := ⟨g1, 0, none⟩) HLT.out.1).trans y0
            simp [YieldsF, go_sem, z0]
            exact Ext.refl _
          apply step_on (.int .i64 q) (by kernel_rfl) rfl rfl
          · intro w' hw' hH
            clear hH
            simp [YieldsF, go_sem]
            exact Ext.refl _
          apply step_on (.int .i64 r2) (by kernel_rfl) rfl rfl
          · intro w' hw' hH
            clear hH
            simp [YieldsF, go_sem]
            refine (tfind_any l A l.length c q w' rfl (HTA.out.ext hw') hlen r2 HR2).mono ?_
            rintro e w2 ⟨rfl, hx⟩
            exact ⟨_, rfl, rfl, hx⟩
          apply step_on (.agg #[.slice A l.length c]) (by kernel_rfl) rfl rfl
          · intro w' hw' hH
            clear hH
            have z0 := (hw'.cell (p := ⟨g1, 0, none⟩) HLT.out.1).trans y0
            simp [YieldsF, go_sem, z0]
            exact Ext.refl _
          apply step_fact_on2 (fun v w' => ∃ A' c', v = .slice A' l.length c' ∧ TreeM w' A' l) (by rintro v w w' ⟨A', c', h1, h2⟩ hx; exact ⟨A', c', h1, h2.ext hx⟩) (by kernel_rfl) rfl rfl
          · intro w' hw' hH
            clear hH
            simp [YieldsF, go_sem]
            refine (plain_any l A l.length c w' rfl (HTA.out.ext hw') hlen).mono ?_
            rintro e w2 ⟨A', c', rfl, h1, h2⟩
            exact ⟨_, rfl, ⟨A', ⟨c', rfl⟩, h1⟩, h2⟩
          intro vc
          apply step_on (.int .i64 q) (by kernel_rfl) rfl rfl
          · intro w' hw' hH
            clear hH
            simp [YieldsF, go_sem]
            exact Ext.refl _
          apply step_on (.int .i64 r2) (by kernel_rfl) rfl rfl
          · intro w' hw' hH
            obtain ⟨A1, c1', h1, h2⟩ := hH _ (List.mem_cons_self ..) ⟨61, rfl, by decide⟩
            subst h1
            clear hH
            simp [YieldsF, go_sem]
            refine (rfind_any l A1 l.length c1' q w' rfl h2 hlen r2 HR2).mono ?_
            rintro e w2 ⟨rfl, rfl⟩
            exact ⟨_, rfl, rfl, Ext.refl _⟩
          apply step_on (.bool true) (by kernel_rfl) rfl rfl
          · intro w' hw' hH
            clear hH
            simp [YieldsF, go_sem]
            exact Ext.refl _
          apply step_det (.bool true) rfl rfl rfl
          · intro w' hw' hH
            clear hH
            simp [YieldsF, go_sem]
            exact Ext.refl _
          apply step_det (.bool true) rfl rfl rfl
          · intro w' hw' hH
            clear hH
            simp [YieldsF, go_sem]
            exact Ext.refl _
          apply step_on (.bool true) (by kernel_rfl) rfl rfl
          · intro w' hw' hH
            clear hH
            simp [YieldsF, go_sem]
            refine (works4_any w').mono ?_
            rintro e w2 ⟨rfl, hx⟩
            exact ⟨_, rfl, rfl, hx⟩
          apply step_det (.bool true) rfl rfl rfl
          · intro w' hw' hH
            clear hH
            simp [YieldsF, go_sem]
            exact Ext.refl _
          apply step_det (.bool true) rfl rfl rfl
          · intro w' hw' hH
            clear hH
            simp [YieldsF, go_sem]
            exact Ext.refl _
          apply WalkF_nil
          intro w5 hw5 hH
          clear hH
          have HX5 : Hid (Ext w w5) := Lib.hid (HX2.out.trans (HU.out.ext.trans hw5))
          clear hw5 y0 y1 y2
          try simp only [Act.put, List.setIfInBounds_toArray, List.set_cons_zero, List.set_cons_succ]
          go_wp2_with fail
          go_ret
          exact ⟨rfl, HX5.out⟩
end Go.Proofs.Ythofccoefiogiaa
