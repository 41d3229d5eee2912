/- tree.Same, walked. -/
import Derived.Test.YthofccoefiogiaaTRight
import Derived.Test.YthofccoefiogiaaTRefA
namespace Go.Proofs.Ythofccoefiogiaa
open Go Go.RowKit
set_option linter.unusedVariables false
set_option linter.unusedSimpArgs false
theorem list_eq_getD {l m : List Int} (h : l.length = m.length) (hh : ∀ j (h1 : j < l.length) (h2 : j < m.length), l[j] = m[j]) : l = m := List.ext_getElem h hh
set_option maxRecDepth 100000 in
set_option maxHeartbeats 8000000 in
theorem equal_any (L M : Option Addr) (ls ms : List Int) (n c m d : Nat) (w : World) (hn : n = ls.length) (hm : m = ms.length) (hl : Cells w L (kcells ls)) (hw : Cells w M (kcells ms)) (hlen : ls.length ≤ 1000) (hwl : ms.length ≤ 1000) (b : Bool) (hb : Hid ((ls == ms) = b)) :
    Calls Try.prog 76 #[.slice L n c, .slice M m d] w fun e w' => e = .returned (.bool b) ∧ Ext w w' := by
  subst hn hm
  have HL := Lib.hid hl
  have HW := Lib.hid hw
  clear hl hw
  by_cases hlw : ls.length = ms.length
  · have e0 : ((ls.length : Int) == (ms.length : Int)) = true := by rw [hlw]; simp
    have e1 : ((ls.length : Int) != (ms.length : Int)) = false := by rw [hlw]; simp
    have HLW := Lib.hid hlw
    clear hlw
    go_enter Try.func76, Try.ntmps76
    go_wp2_with fail
    go_loopw [13] (fun i wr => ∃ k : Nat, k ≤ ls.length ∧ i = .int .i64 k ∧ Hid (Ext w wr) ∧ Hid (∀ j (h1 : j < ls.length) (h2 : j < ms.length), j < k → ls[j] = ms[j])) (fun i _ => ls.length - (intOf i).toNat)
    case atStart => exact ⟨0, Nat.zero_le _, rfl, Lib.hid (Ext.refl _), Lib.hid fun j h1 h2 hj => by omega⟩
    case round =>
      obtain ⟨k, hk, rfl, HX, HR⟩ := hrel
      obtain ⟨wa, rfl⟩ : ∃ wa : World, wa = wr := ⟨_, rfl⟩
      by_cases hlt : k < ls.length
      · have d0 : decide ((k : Int) < (ls.length : Int)) = true := decide_eq_true (by omega)
        have hlt2 : k < ms.length := by have := HLW.out; omega
        obtain ⟨b1, off1, rfl, hb1, hc1⟩ := kids_at (HL.out.ext HX.out) k hlt
        obtain ⟨b2, off2, rfl, hb2, hc2⟩ := kids_at (HW.out.ext HX.out) k hlt2
        have q1 : (k : Int) < (ls.length : Int) := by omega
        have q2 : (k : Int) < (ms.length : Int) := by omega
        have HYES : Hid (ls[k] = ms[k] → ∀ j (h1 : j < ls.length) (h2 : j < ms.length), j < k + 1 → ls[j] = ms[j]) := Lib.hid (by
          intro h j h1 h2 h3
          by_cases hj : j = k
          · subst hj; exact h
          · exact HR.out j h1 h2 (by omega))
        have HNO : Hid (ls[k] ≠ ms[k] → b = false) := Lib.hid (by
          intro h
          rw [← hb.out, beq_eq_false_iff_ne]
          rintro rfl
          exact h rfl)
        generalize ls[k] = x at *
        generalize ms[k] = y at *
        by_cases hxy : x = y
        · have HY := Lib.hid (HYES.out hxy)
          have e5 : (x == y) = true := by rw [hxy]; simp
          have e6 : (x != y) = false := by rw [hxy]; simp
          clear hxy
          go_wp2_with fail
          go_quiet (fail)
          rename_i nq
          have HX1 := Lib.hid (HX.out.drewN nq)
          go_wp2_with fail
          go_roundw
          case rel => exact ⟨k + 1, by omega, by go_num, HX1, HY⟩
          case measure => simp [intOf]; omega
        · have HN := Lib.hid (HNO.out hxy)
          have e5 : (x == y) = false := beq_eq_false_iff_ne.2 hxy
          have e6 : (x != y) = true := by rw [bne, e5]; rfl
          clear hxy
          go_wp2_with fail
          go_quiet (fail)
          rename_i nq
          have HX1 := Lib.hid (HX.out.drewN nq)
          go_wp2_with fail
          go_ret
          exact ⟨ret_b HN.out.symm, HX1.out⟩
      · obtain rfl : k = ls.length := by omega
        have d0 : decide ((ls.length : Int) < (ls.length : Int)) = false := by simp
        have HB : Hid (b = true) := Lib.hid (by
          rw [← hb.out, beq_iff_eq]
          exact list_eq_getD HLW.out (fun j h1 h2 => HR.out j h1 h2 h1))
        go_wp2_with fail
        go_ret
        exact ⟨ret_b HB.out.symm, HX.out⟩
  · have e0 : ((ls.length : Int) == (ms.length : Int)) = false := by rw [beq_eq_false_iff_ne]; omega
    have e1 : ((ls.length : Int) != (ms.length : Int)) = true := by rw [bne, e0]; rfl
    have HB : Hid (b = false) := Lib.hid (by rw [← hb.out, beq_eq_false_iff_ne]; rintro rfl; exact hlw rfl)
    go_enter Try.func76, Try.ntmps76
    go_wp2_with fail
    go_ret
    exact ⟨ret_b HB.out.symm, Ext.refl _⟩
set_option maxRecDepth 100000 in
set_option maxHeartbeats 8000000 in
theorem same1_any (x y : NodeM) (w : World) (hx : Cells w x.kA (kcells x.kids)) (hy : Cells w y.kA (kcells y.kids)) (hxl : x.kids.length ≤ 1000) (hyl : y.kids.length ≤ 1000) (b : Bool) (hb : Hid (sameNode x y = b)) :
    Calls Try.prog 75 #[.agg (Array.mk x.cells), .agg (Array.mk y.cells)] w fun e w' => e = .returned (.bool b) ∧ Ext w w' := by
  have HX0 := Lib.hid hx
  have HY0 := Lib.hid hy
  clear hx hy
  obtain ⟨kind, pos, text, num, kA, kc, kids⟩ := x
  obtain ⟨kind2, pos2, text2, num2, kA2, kc2, kids2⟩ := y
  simp only at hxl hyl HX0 HY0
  show Calls Try.prog 75 #[.agg #[.int .u8 kind, .int .i64 pos, .string text, .int .i64 num, .slice kA kids.length kc], .agg #[.int .u8 kind2, .int .i64 pos2, .string text2, .int .i64 num2, .slice kA2 kids2.length kc2]] w fun e w' => e = .returned (.bool b) ∧ Ext w w'
  have HS : Hid ((kind == kind2 && (text.toList == text2.toList && (num == num2 && kids == kids2))) = b) := hb
  clear hb
  have HXB : Hid (Ext w ((w.alloc (.cells #[.int .u8 kind, .int .i64 pos, .string text, .int .i64 num, .slice kA kids.length kc] 73)).alloc (.cells #[.int .u8 kind2, .int .i64 pos2, .string text2, .int .i64 num2, .slice kA2 kids2.length kc2] 73))) := Lib.hid ((Ext.alloc _ _).trans (Ext.alloc _ _))
  have HB1 : Hid (Blk ((w.alloc (.cells #[.int .u8 kind, .int .i64 pos, .string text, .int .i64 num, .slice kA kids.length kc] 73)).alloc (.cells #[.int .u8 kind2, .int .i64 pos2, .string text2, .int .i64 num2, .slice kA2 kids2.length kc2] 73)) w.heap.size 73 #[.int .u8 kind, .int .i64 pos, .string text, .int .i64 num, .slice kA kids.length kc]) := Lib.hid ((Blk.new _ _ _).alloc _)
  have HB2 : Hid (Blk ((w.alloc (.cells #[.int .u8 kind, .int .i64 pos, .string text, .int .i64 num, .slice kA kids.length kc] 73)).alloc (.cells #[.int .u8 kind2, .int .i64 pos2, .string text2, .int .i64 num2, .slice kA2 kids2.length kc2] 73)) (w.heap.size + 1) 73 #[.int .u8 kind2, .int .i64 pos2, .string text2, .int .i64 num2, .slice kA2 kids2.length kc2]) := Lib.hid (Blk.newAt (by simp))
  have x0 := HB1.out.cell 0
  have x2 := HB1.out.cell 2
  have x3 := HB1.out.cell 3
  have x4 := HB1.out.cell 4
  have y0 := HB2.out.cell 0
  have y2 := HB2.out.cell 2
  have y3 := HB2.out.cell 3
  have y4 := HB2.out.cell 4
  obtain ⟨t1, h1⟩ : ∃ t, (kind == kind2) = t := ⟨_, rfl⟩
  obtain ⟨t2, h2⟩ : ∃ t, (text.toList == text2.toList) = t := ⟨_, rfl⟩
  obtain ⟨t3, h3⟩ : ∃ t, (num == num2) = t := ⟨_, rfl⟩
  obtain ⟨t4, HT4⟩ : ∃ t, Hid ((kids == kids2) = t) := ⟨_, Lib.hid rfl⟩
  rw [h1, h2, h3, HT4.out] at HS
  cases t1 with
  | false =>
    go_enter Try.func75, Try.ntmps75
    go_wp2_with fail
    go_ret
    exact ⟨ret_b (by rw [← HS.out]; rfl), HXB.out⟩
  | true =>
    cases t2 with
    | false =>
      go_enter Try.func75, Try.ntmps75
      go_wp2_with fail
      go_ret
      exact ⟨ret_b (by rw [← HS.out]; rfl), HXB.out⟩
    | true =>
      cases t3 with
      | false =>
        go_enter Try.func75, Try.ntmps75
        go_wp2_with fail
        go_ret
        exact ⟨ret_b (by rw [← HS.out]; rfl), HXB.out⟩
      | true =>
        have HB : Hid (t4 = b) := Lib.hid (by rw [← HS.out]; rfl)
        go_enter Try.func75, Try.ntmps75
        go_wp2_with fail
        refine (equal_any kA kA2 kids kids2 _ kc _ kc2 _ rfl rfl (HX0.out.ext HXB.out) (HY0.out.ext HXB.out) hxl hyl t4 HT4).mono ?_
        rintro e w2 ⟨rfl, hx2⟩
        have HX2 : Hid (Ext w w2) := Lib.hid (HXB.out.trans hx2)
        clear hx2 x0 x2 x3 x4 y0 y2 y3 y4
        go_wp2_with fail
        go_ret
        exact ⟨ret_b HB.out, HX2.out⟩
set_option maxRecDepth 100000 in
set_option maxHeartbeats 8000000 in
theorem equalFunc_any (l m : List NodeM) (A B : Option Addr) (n c n2 c2 : Nat) (w : World) (hn : n = l.length) (hn2 : n2 = m.length) (hl : TreeM w A l) (hm : TreeM w B m) (hlen : l.length ≤ 1000) (hlen2 : m.length ≤ 1000) (hk : ∀ x ∈ l, x.kids.length ≤ 1000) (hk2 : ∀ x ∈ m, x.kids.length ≤ 1000) (b : Bool) (hb : Hid (sameM l m = b)) :
    Calls Try.prog 74 #[.slice A n c, .slice B n2 c2, .func (.func 75) #[] #[]] w fun e w' => e = .returned (.bool b) ∧ Ext w w' := by
  subst hn hn2
  have HL := Lib.hid hl
  have HM := Lib.hid hm
  have HK := Lib.hid hk
  have HK2 := Lib.hid hk2
  clear hl hm hk hk2
  by_cases hlw : l.length = m.length
  · have e0 : ((l.length : Int) == (m.length : Int)) = true := by rw [hlw]; simp
    have e1 : ((l.length : Int) != (m.length : Int)) = false := by rw [hlw]; simp
    have HLW := Lib.hid hlw
    clear hlw
    go_enter Try.func74, Try.ntmps74
    go_wp2_with fail
    go_loopw [17] (fun i wr => ∃ k : Nat, k ≤ l.length ∧ i = .int .i64 k ∧ Hid (Ext w wr) ∧ Hid (∀ j (h1 : j < l.length) (h2 : j < m.length), j < k → sameNode l[j] m[j] = true)) (fun i _ => l.length - (intOf i).toNat)
    case atStart => exact ⟨0, Nat.zero_le _, rfl, Lib.hid (Ext.refl _), Lib.hid fun j h1 h2 hj => by omega⟩
    case round =>
      obtain ⟨k, hkk, rfl, HX, HR⟩ := hrel
      obtain ⟨wa, rfl⟩ : ∃ wa : World, wa = wr := ⟨_, rfl⟩
      by_cases hlt : k < l.length
      · have d0 : decide ((k : Int) < (l.length : Int)) = true := decide_eq_true (by omega)
        have hlt2 : k < m.length := by have := HLW.out; omega
        have q1 : (k : Int) < (l.length : Int) := by omega
        have q2 : (k : Int) < (m.length : Int) := by omega
        have HL1 := Lib.hid (HL.out.ext HX.out)
        have HM1 := Lib.hid (HM.out.ext HX.out)
        obtain ⟨b1, off1, rfl, hb1, hc1⟩ := HL1.out.at_ k hlt
        obtain ⟨b2, off2, rfl, hb2, hc2⟩ := HM1.out.at_ k hlt2
        have HN1 : Hid (NodeOk wa l[k]) := Lib.hid (HL1.out.ok _ (List.getElem_mem hlt))
        have HN2 : Hid (NodeOk wa m[k]) := Lib.hid (HM1.out.ok _ (List.getElem_mem hlt2))
        have hkl : l[k].kids.length ≤ 1000 := HK.out _ (List.getElem_mem hlt)
        have hkm : m[k].kids.length ≤ 1000 := HK2.out _ (List.getElem_mem hlt2)
        have HKL := Lib.hid hkl
        have HKM := Lib.hid hkm
        clear hkl hkm
        obtain ⟨t, ht⟩ : ∃ t, sameNode l[k] m[k] = t := ⟨_, rfl⟩
        have HYES : Hid (t = true → ∀ j (h1 : j < l.length) (h2 : j < m.length), j < k + 1 → sameNode l[j] m[j] = true) := Lib.hid (by
          intro h j h1 h2 h3
          by_cases hj : j = k
          · subst hj; rw [ht]; exact h
          · exact HR.out j h1 h2 (by omega))
        have HNO : Hid (t = false → b = false) := Lib.hid (by
          intro h
          rw [← hb.out]
          exact sameM_no k hlt hlt2 (by rw [ht]; exact h))
        have HTT := Lib.hid ht
        clear ht
        generalize l[k] = x at *
        generalize m[k] = y at *
        obtain ⟨kind, pos, text, num, kA, kc, kids⟩ := x
        obtain ⟨kind2, pos2, text2, num2, kA2, kc2, kids2⟩ := y
        have x0 : wa.cell? ⟨b1, off1 + k * 5, none⟩ = some (.int .u8 kind) := hc1 0 (by omega)
        have x1 : wa.cell? ⟨b1, off1 + k * 5 + 1, none⟩ = some (.int .i64 pos) := hc1 1 (by omega)
        have x2 : wa.cell? ⟨b1, off1 + k * 5 + 2, none⟩ = some (.string text) := hc1 2 (by omega)
        have x3 : wa.cell? ⟨b1, off1 + k * 5 + 3, none⟩ = some (.int .i64 num) := hc1 3 (by omega)
        have x4 : wa.cell? ⟨b1, off1 + k * 5 + 4, none⟩ = some (.slice kA kids.length kc) := hc1 4 (by omega)
        have HC2 : Hid (∀ j, j < 5 → wa.cell? ⟨b2, off2 + k * 5 + j, none⟩ = ([Value.int .u8 kind2, .int .i64 pos2, .string text2, .int .i64 num2, .slice kA2 kids2.length kc2])[j]?) := Lib.hid hc2
        have HLT2 := Lib.hid hb2
        clear hc1 hc2
        go_upto_region 6 with fail
        have HXA : Hid (Ext wa (wa.alloc (.cells #[.int .u8 kind, .int .i64 pos, .string text, .int .i64 num, .slice kA kids.length kc] 73))) := Lib.hid (Ext.alloc _ _)
        have HBX : Hid (Blk (wa.alloc (.cells #[.int .u8 kind, .int .i64 pos, .string text, .int .i64 num, .slice kA kids.length kc] 73)) wa.heap.size 73 #[.int .u8 kind, .int .i64 pos, .string text, .int .i64 num, .slice kA kids.length kc]) := Lib.hid (Blk.new _ _ _)
        clear x0 x1 x2 x3 x4
        generalize wa.alloc (.cells #[.int .u8 kind, .int .i64 pos, .string text, .int .i64 num, .slice kA kids.length kc] 73) = wb at *
        obtain ⟨gx, hgx⟩ : ∃ gx, gx = wa.heap.size := ⟨_, rfl⟩
        rw [← hgx] at HBX ⊢
        clear hgx
        have y0 : wb.cell? ⟨b2, off2 + k * 5, none⟩ = some (.int .u8 kind2) := (HXA.out.cell (p := ⟨b2, off2 + k * 5, none⟩) HLT2.out).trans (HC2.out 0 (by omega))
        have y1 : wb.cell? ⟨b2, off2 + k * 5 + 1, none⟩ = some (.int .i64 pos2) := (HXA.out.cell (p := ⟨b2, off2 + k * 5 + 1, none⟩) HLT2.out).trans (HC2.out 1 (by omega))
        have y2 : wb.cell? ⟨b2, off2 + k * 5 + 2, none⟩ = some (.string text2) := (HXA.out.cell (p := ⟨b2, off2 + k * 5 + 2, none⟩) HLT2.out).trans (HC2.out 2 (by omega))
        have y3 : wb.cell? ⟨b2, off2 + k * 5 + 3, none⟩ = some (.int .i64 num2) := (HXA.out.cell (p := ⟨b2, off2 + k * 5 + 3, none⟩) HLT2.out).trans (HC2.out 3 (by omega))
        have y4 : wb.cell? ⟨b2, off2 + k * 5 + 4, none⟩ = some (.slice kA2 kids2.length kc2) := (HXA.out.cell (p := ⟨b2, off2 + k * 5 + 4, none⟩) HLT2.out).trans (HC2.out 4 (by omega))
        go_upto_region 7 with fail
        have HXB : Hid (Ext wb (wb.alloc (.cells #[.int .u8 kind2, .int .i64 pos2, .string text2, .int .i64 num2, .slice kA2 kids2.length kc2] 73))) := Lib.hid (Ext.alloc _ _)
        have HBY : Hid (Blk (wb.alloc (.cells #[.int .u8 kind2, .int .i64 pos2, .string text2, .int .i64 num2, .slice kA2 kids2.length kc2] 73)) wb.heap.size 73 #[.int .u8 kind2, .int .i64 pos2, .string text2, .int .i64 num2, .slice kA2 kids2.length kc2]) := Lib.hid (Blk.new _ _ _)
        clear y0 y1 y2 y3 y4
        have HBX2 := Lib.hid (HBX.out.ext HXB.out)
        have HXW : Hid (Ext w (wb.alloc (.cells #[.int .u8 kind2, .int .i64 pos2, .string text2, .int .i64 num2, .slice kA2 kids2.length kc2] 73))) := Lib.hid ((HX.out.trans HXA.out).trans HXB.out)
        have HXA2 := Lib.hid (HXA.out.trans HXB.out)
        generalize wb.alloc (.cells #[.int .u8 kind2, .int .i64 pos2, .string text2, .int .i64 num2, .slice kA2 kids2.length kc2] 73) = wc at *
        generalize wb.heap.size = gy at *
        have x0 := HBX2.out.cell 0
        have x1 := HBX2.out.cell 1
        have x2 := HBX2.out.cell 2
        have x3 := HBX2.out.cell 3
        have x4 := HBX2.out.cell 4
        have y0 := HBY.out.cell 0
        have y1 := HBY.out.cell 1
        have y2 := HBY.out.cell 2
        have y3 := HBY.out.cell 3
        have y4 := HBY.out.cell 4
        go_wp2_with fail
        refine (same1_any ⟨kind, pos, text, num, kA, kc, kids⟩ ⟨kind2, pos2, text2, num2, kA2, kc2, kids2⟩ wc (HN1.out.kids.ext HXA2.out) (HN2.out.kids.ext HXA2.out) HKL.out HKM.out t HTT).mono ?_
        rintro e w2 ⟨rfl, hx2⟩
        have HX2 : Hid (Ext w w2) := Lib.hid (HXW.out.trans hx2)
        clear hx2 x0 x1 x2 x3 x4 y0 y1 y2 y3 y4
        cases t with
        | true =>
          go_wp2_with fail
          go_roundw
          case rel => exact ⟨k + 1, by omega, by go_num, HX2, Lib.hid (HYES.out (by simp))⟩
          case measure => simp [intOf]; omega
        | false =>
          go_wp2_with fail
          go_ret
          exact ⟨ret_b (HNO.out (by simp)).symm, HX2.out⟩
      · obtain rfl : k = l.length := by omega
        have d0 : decide ((l.length : Int) < (l.length : Int)) = false := by simp
        have HB : Hid (b = true) := Lib.hid (by
          rw [← hb.out]
          exact sameM_yes HLW.out (fun j h1 h2 => HR.out j h1 h2 h1))
        go_wp2_with fail
        go_ret
        exact ⟨ret_b HB.out.symm, HX.out⟩
  · have e0 : ((l.length : Int) == (m.length : Int)) = false := by rw [beq_eq_false_iff_ne]; omega
    have e1 : ((l.length : Int) != (m.length : Int)) = true := by rw [bne, e0]; rfl
    have HB : Hid (b = false) := Lib.hid (by rw [← hb.out]; exact sameM_len hlw)
    go_enter Try.func74, Try.ntmps74
    go_wp2_with fail
    go_ret
    exact ⟨ret_b HB.out.symm, Ext.refl _⟩
set_option maxRecDepth 100000 in
set_option maxHeartbeats 8000000 in
theorem same_any (l m : List NodeM) (A B : Option Addr) (n c n2 c2 : Nat) (w : World) (hn : n = l.length) (hn2 : n2 = m.length) (hl : TreeM w A l) (hm : TreeM w B m) (hlen : l.length ≤ 1000) (hlen2 : m.length ≤ 1000) (hk : ∀ x ∈ l, x.kids.length ≤ 1000) (hk2 : ∀ x ∈ m, x.kids.length ≤ 1000) (b : Bool) (hb : Hid (sameM l m = b)) :
    Calls Try.prog 38 #[.agg #[.slice A n c], .agg #[.slice B n2 c2]] w fun e w' => e = .returned (.bool b) ∧ Ext w w' := by
  subst hn hn2
  have HL := Lib.hid hl
  have HM := Lib.hid hm
  have HK := Lib.hid hk
  have HK2 := Lib.hid hk2
  clear hl hm hk hk2
  have HXB : Hid (Ext w ((w.alloc (.cells #[.slice A l.length c] 62)).alloc (.cells #[.slice B m.length c2] 62))) := Lib.hid ((Ext.alloc _ _).trans (Ext.alloc _ _))
  have x0 : ((w.alloc (.cells #[.slice A l.length c] 62)).alloc (.cells #[.slice B m.length c2] 62)).cell? ⟨w.heap.size, 0, none⟩ = some (.slice A l.length c) := ((Blk.new _ _ _).alloc _).cell 0
  have y0 : ((w.alloc (.cells #[.slice A l.length c] 62)).alloc (.cells #[.slice B m.length c2] 62)).cell? ⟨w.heap.size + 1, 0, none⟩ = some (.slice B m.length c2) := (Blk.newAt (n := w.heap.size + 1) (by simp)).cell 0
  go_enter Try.func38, Try.ntmps38
  go_wp2_with fail
  refine (equalFunc_any l m A B l.length c m.length c2 _ rfl rfl (HL.out.ext HXB.out) (HM.out.ext HXB.out) hlen hlen2 HK.out HK2.out b hb).mono ?_
  rintro e w2 ⟨rfl, hx2⟩
  have HX2 : Hid (Ext w w2) := Lib.hid (HXB.out.trans hx2)
  clear hx2 x0 y0
  go_wp2_with fail
  go_ret
  exact ⟨rfl, HX2.out⟩
end Go.Proofs.Ythofccoefiogiaa
