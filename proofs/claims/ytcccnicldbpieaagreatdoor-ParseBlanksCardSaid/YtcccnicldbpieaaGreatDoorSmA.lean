/- tree.Same, walked, for trees as they are read. No condition. -/
import Derived.Test.YtcccnicldbpieaaGreatDoorPwA
import Derived.Deep.QuietTactic
import Derived.Deep.Cut
namespace Go.Proofs.YtcccnicldbpieaaGreatDoor
open Go Go.RowKit
set_option linter.unusedVariables false
set_option linter.unusedSimpArgs false
theorem ret_b {a b : Bool} (h : a = b) : Ending.returned (.bool a) = .returned (.bool b) := by rw [h]
theorem flatM_len {α β : Type} (f : α → List β) (n : Nat) (h : ∀ x, (f x).length = n) : ∀ l : List α, (l.flatMap f).length = l.length * n
  | [] => by simp
  | x :: l => by rw [List.flatMap_cons, List.length_append, h, flatM_len f n h l, List.length_cons]; rw [Nat.add_mul]; omega
theorem flatM_at {α β : Type} (f : α → List β) (n : Nat) (h : ∀ x, (f x).length = n) : ∀ (l : List α) (k j : Nat) (hk : k < l.length), j < n → (l.flatMap f)[k * n + j]? = (f l[k])[j]?
  | [], k, j, hk, _ => by simp at hk
  | x :: l, 0, j, hk, hj => by rw [List.flatMap_cons, List.getElem?_append_left (by rw [h]; omega)]; simp
  | x :: l, k + 1, j, hk, hj => by
    rw [List.flatMap_cons, List.getElem?_append_right (by rw [h, Nat.add_mul]; omega), h, show (k + 1) * n + j - n = k * n + j by rw [Nat.add_mul]; omega]
    exact flatM_at f n h l k j (by simpa using hk) hj
structure NodeM where
  kind : Int
  pos : Int
  text : ByteArray
  num : Int
  kA : Option Addr
  kc : Nat
  kids : List Int
def NodeM.cells (x : NodeM) : List Value := [.int .u8 x.kind, .int .i64 x.pos, .string x.text, .int .i64 x.num, .slice x.kA x.kids.length x.kc]
def ikcells (l : List Int) : List Value := l.map (Value.int .i64)
structure NodeOk (w : World) (x : NodeM) : Prop where
  kids : Cells w x.kA (ikcells x.kids)
theorem NodeOk.ext {w w' : World} {x : NodeM} (h : NodeOk w x) (hx : Ext w w') : NodeOk w' x := ⟨h.kids.ext hx⟩
def trcells (l : List NodeM) : List Value := l.flatMap NodeM.cells
theorem trcells_len (l : List NodeM) : (trcells l).length = l.length * 5 := flatM_len NodeM.cells 5 (fun _ => rfl) l
theorem trcells_at (l : List NodeM) (k j : Nat) (h : k < l.length) (hj : j < 5) : (trcells l)[k * 5 + j]? = (l[k].cells)[j]? := flatM_at NodeM.cells 5 (fun _ => rfl) l k j h hj
theorem trcells_snoc (l : List NodeM) (x : NodeM) : trcells (l ++ [x]) = trcells l ++ x.cells := by unfold trcells; rw [List.flatMap_append]; simp
theorem ikcells_len (l : List Int) : (ikcells l).length = l.length := by simp [ikcells]
theorem ikcells_at (l : List Int) (k : Nat) (h : k < l.length) : (ikcells l)[k]? = some (.int .i64 l[k]) := by simp [ikcells, h]
/-- At A lies a row of these nodes, with their kids. -/
structure TreeM (w : World) (A : Option Addr) (l : List NodeM) : Prop where
  cells : Cells w A (trcells l)
  ok : ∀ x ∈ l, NodeOk w x
theorem TreeM.ext {w w' : World} {A : Option Addr} {l : List NodeM} (h : TreeM w A l) (hx : Ext w w') : TreeM w' A l := ⟨h.cells.ext hx, fun x hm => (h.ok x hm).ext hx⟩
/-- One node of a row: where it lies. -/
theorem TreeM.at_ {w : World} {A : Option Addr} {l : List NodeM} (h : TreeM w A l) (k : Nat) (hk : k < l.length) :
    ∃ b off, A = some ⟨b, off, none⟩ ∧ b < w.heap.size ∧ ∀ j, j < 5 → w.cell? ⟨b, off + k * 5 + j, none⟩ = (l[k].cells)[j]? := by
  obtain ⟨b, off, hA, hb, hcc⟩ := h.cells.at_ (by rw [trcells_len]; omega)
  refine ⟨b, off, hA, hb, fun j hj => ?_⟩
  rw [Nat.add_assoc, hcc _ (by rw [trcells_len]; omega)]
  exact trcells_at l k j hk hj
theorem kids_at {w : World} {A : Option Addr} {l : List Int} (h : Cells w A (ikcells l)) (k : Nat) (hk : k < l.length) : ∃ b off, A = some ⟨b, off, none⟩ ∧ b < w.heap.size ∧ w.cell? ⟨b, off + k, none⟩ = some (.int .i64 l[k]) := by
  obtain ⟨b, off, hA, hb, hcc⟩ := h.at_ (by rw [ikcells_len]; omega)
  exact ⟨b, off, hA, hb, (hcc k (by rw [ikcells_len]; exact hk)).trans (ikcells_at l k hk)⟩
def sameNode (x y : NodeM) : Bool := x.kind == y.kind && (x.text.toList == y.text.toList && (x.num == y.num && x.kids == y.kids))
def sameM : List NodeM → List NodeM → Bool
  | [], [] => true
  | x :: l, y :: m => sameNode x y && sameM l m
  | _, _ => false
theorem sameM_len : ∀ {l m : List NodeM}, l.length ≠ m.length → sameM l m = false
  | [], [], h => absurd rfl h
  | [], _ :: _, _ => rfl
  | _ :: _, [], _ => rfl
  | x :: l, y :: m, h => by
    show (sameNode x y && sameM l m) = false
    rw [sameM_len (l := l) (m := m) (fun e => h (by simp [e])), Bool.and_false]
theorem sameM_yes : ∀ {l m : List NodeM}, l.length = m.length → (∀ i (h1 : i < l.length) (h2 : i < m.length), sameNode l[i] m[i] = true) → sameM l m = true
  | [], [], _, _ => rfl
  | x :: l, y :: m, h, ha => by
    show (sameNode x y && sameM l m) = true
    rw [show sameNode x y = true from ha 0 (by simp) (by simp), sameM_yes (l := l) (m := m) (by simpa using h) (fun i h1 h2 => ha (i + 1) (by simpa using h1) (by simpa using h2)), Bool.and_true]
theorem sameM_no : ∀ {l m : List NodeM} (i : Nat) (h1 : i < l.length) (h2 : i < m.length), sameNode l[i] m[i] = false → sameM l m = false
  | x :: l, y :: m, 0, _, _, h => by
    show (sameNode x y && sameM l m) = false
    rw [show sameNode x y = false from h, Bool.false_and]
  | x :: l, y :: m, i + 1, h1, h2, h => by
    show (sameNode x y && sameM l m) = false
    rw [sameM_no (l := l) (m := m) i (by simpa using h1) (by simpa using h2) h, Bool.and_false]
theorem list_eq_getD {l m : List Int} (h : l.length = m.length) (hh : ∀ j (h1 : j < l.length) (h2 : j < m.length), l[j] = m[j]) : l = m := List.ext_getElem h hh
set_option maxRecDepth 400000 in
set_option maxHeartbeats 8000000 in
theorem equalI_any (L M : Option Addr) (ls ms : List Int) (n c m d : Nat) (w : World) (hn : n = ls.length) (hm : m = ms.length) (hl : Cells w L (ikcells ls)) (hw : Cells w M (ikcells ms)) (hlen : ls.length ≤ 4000) (hwl : ms.length ≤ 4000) (b : Bool) (hb : Hid ((ls == ms) = b)) :
    Calls Tryz.prog 36 #[.slice L n c, .slice M m d] w fun e w' => e = .returned (.bool b) ∧ Ext w w' := by
  subst hn hm
  have HL := Lib.hid hl
  have HW := Lib.hid hw
  clear hl hw
  by_cases hlw : ls.length = ms.length
  · have e0 : ((ls.length : Int) == (ms.length : Int)) = true := by rw [hlw]; simp
    have e1 : ((ls.length : Int) != (ms.length : Int)) = false := by rw [hlw]; simp
    have HLW := Lib.hid hlw
    clear hlw
    go_enter Tryz.func36, Tryz.ntmps36
    go_wp2_with fail
    go_loopw [13] (fun i wr => ∃ k : Nat, k ≤ ls.length ∧ i = .int .i64 k ∧ Hid (Ext w wr) ∧ Hid (∀ j (h1 : j < ls.length) (h2 : j < ms.length), j < k → ls[j] = ms[j])) (fun i _ => ls.length - (intOf i).toNat)
    case atStart => exact ⟨0, Nat.zero_le _, rfl, Lib.hid (Ext.refl _), Lib.hid fun j h1 h2 hj => by omega⟩
    case round =>
      obtain ⟨k, hk, rfl, HX, HR⟩ := hrel
      obtain ⟨wa, rfl⟩ : ∃ wa : World, wa = wr := ⟨_, rfl⟩
      by_cases hlt : k < ls.length
      · have d0 : decide ((k : Int) < (ls.length : Int)) = true := decide_eq_true (by omega)
        have hlt2 : k < ms.length := by have := HLW.out; omega
        obtain ⟨b1, off1, rfl, hb1, hc1⟩ := kids_at (HL.out.ext HX.out) k hlt
        obtain ⟨b2, off2, rfl, hb2, hc2⟩ := kids_at (HW.out.ext HX.out) k hlt2
        have q1 : (k : Int) < (ls.length : Int) := by omega
        have q2 : (k : Int) < (ms.length : Int) := by omega
        have HYES : Hid (ls[k] = ms[k] → ∀ j (h1 : j < ls.length) (h2 : j < ms.length), j < k + 1 → ls[j] = ms[j]) := Lib.hid (by
          intro h j h1 h2 h3
          by_cases hj : j = k
          · subst hj; exact h
          · exact HR.out j h1 h2 (by omega))
        have HNO : Hid (ls[k] ≠ ms[k] → b = false) := Lib.hid (by
          intro h
          rw [← hb.out, beq_eq_false_iff_ne]
          rintro rfl
          exact h rfl)
        generalize ls[k] = x at *
        generalize ms[k] = y at *
        by_cases hxy : x = y
        · have HY := Lib.hid (HYES.out hxy)
          have e5 : (x == y) = true := by rw [hxy]; simp
          have e6 : (x != y) = false := by rw [hxy]; simp
          clear hxy
          go_wp2_with fail
          go_quiet (fail)
          rename_i nq
          have HX1 := Lib.hid ((Below.trans HX.out ⟨rfl, rfl, rfl, Nat.le_refl _, fun _ _ => rfl⟩ : Ext w (wa.drewN nq)))
          go_wp2_with fail
          go_roundw
          case rel => exact ⟨k + 1, by omega, by go_num, HX1, HY⟩
          case measure => simp [intOf]; omega
        · have HN := Lib.hid (HNO.out hxy)
          have e5 : (x == y) = false := beq_eq_false_iff_ne.2 hxy
          have e6 : (x != y) = true := by rw [bne, e5]; rfl
          clear hxy
          go_wp2_with fail
          go_quiet (fail)
          rename_i nq
          have HX1 := Lib.hid ((Below.trans HX.out ⟨rfl, rfl, rfl, Nat.le_refl _, fun _ _ => rfl⟩ : Ext w (wa.drewN nq)))
          go_wp2_with fail
          go_ret
          exact ⟨ret_b HN.out.symm, HX1.out⟩
      · obtain rfl : k = ls.length := by omega
        have d0 : decide ((ls.length : Int) < (ls.length : Int)) = false := by simp
        have HB : Hid (b = true) := Lib.hid (by
          rw [← hb.out, beq_iff_eq]
          exact list_eq_getD HLW.out (fun j h1 h2 => HR.out j h1 h2 h1))
        go_wp2_with fail
        go_ret
        exact ⟨ret_b HB.out.symm, HX.out⟩
  · have e0 : ((ls.length : Int) == (ms.length : Int)) = false := by rw [beq_eq_false_iff_ne]; omega
    have e1 : ((ls.length : Int) != (ms.length : Int)) = true := by rw [bne, e0]; rfl
    have HB : Hid (b = false) := Lib.hid (by rw [← hb.out, beq_eq_false_iff_ne]; rintro rfl; exact hlw rfl)
    go_enter Tryz.func36, Tryz.ntmps36
    go_wp2_with fail
    go_ret
    exact ⟨ret_b HB.out.symm, Ext.refl _⟩
set_option maxRecDepth 400000 in
set_option maxHeartbeats 8000000 in
theorem same1_any (x y : NodeM) (w : World) (hx : Cells w x.kA (ikcells x.kids)) (hy : Cells w y.kA (ikcells y.kids)) (hxl : x.kids.length ≤ 4000) (hyl : y.kids.length ≤ 4000) (b : Bool) (hb : Hid (sameNode x y = b)) :
    Calls Tryz.prog 35 #[.agg (Array.mk x.cells), .agg (Array.mk y.cells)] w fun e w' => e = .returned (.bool b) ∧ Ext w w' := by
  have HX0 := Lib.hid hx
  have HY0 := Lib.hid hy
  clear hx hy
  obtain ⟨kind, pos, text, num, kA, kc, kids⟩ := x
  obtain ⟨kind2, pos2, text2, num2, kA2, kc2, kids2⟩ := y
  simp only at hxl hyl HX0 HY0
  show Calls Tryz.prog 35 #[.agg #[.int .u8 kind, .int .i64 pos, .string text, .int .i64 num, .slice kA kids.length kc], .agg #[.int .u8 kind2, .int .i64 pos2, .string text2, .int .i64 num2, .slice kA2 kids2.length kc2]] w fun e w' => e = .returned (.bool b) ∧ Ext w w'
  have HS : Hid ((kind == kind2 && (text.toList == text2.toList && (num == num2 && kids == kids2))) = b) := hb
  clear hb
  have HXB : Hid (Ext w ((w.alloc (.cells #[.int .u8 kind, .int .i64 pos, .string text, .int .i64 num, .slice kA kids.length kc] 50)).alloc (.cells #[.int .u8 kind2, .int .i64 pos2, .string text2, .int .i64 num2, .slice kA2 kids2.length kc2] 50))) := Lib.hid ((Ext.alloc _ _).trans (Ext.alloc _ _))
  have HB1 : Hid (Blk ((w.alloc (.cells #[.int .u8 kind, .int .i64 pos, .string text, .int .i64 num, .slice kA kids.length kc] 50)).alloc (.cells #[.int .u8 kind2, .int .i64 pos2, .string text2, .int .i64 num2, .slice kA2 kids2.length kc2] 50)) w.heap.size 50 #[.int .u8 kind, .int .i64 pos, .string text, .int .i64 num, .slice kA kids.length kc]) := Lib.hid ((Blk.new _ _ _).alloc _)
  have HB2 : Hid (Blk ((w.alloc (.cells #[.int .u8 kind, .int .i64 pos, .string text, .int .i64 num, .slice kA kids.length kc] 50)).alloc (.cells #[.int .u8 kind2, .int .i64 pos2, .string text2, .int .i64 num2, .slice kA2 kids2.length kc2] 50)) (w.heap.size + 1) 50 #[.int .u8 kind2, .int .i64 pos2, .string text2, .int .i64 num2, .slice kA2 kids2.length kc2]) := Lib.hid (Blk.newAt (by simp))
  have x0 := HB1.out.cell 0
  have x2 := HB1.out.cell 2
  have x3 := HB1.out.cell 3
  have x4 := HB1.out.cell 4
  have y0 := HB2.out.cell 0
  have y2 := HB2.out.cell 2
  have y3 := HB2.out.cell 3
  have y4 := HB2.out.cell 4
  obtain ⟨t1, h1⟩ : ∃ t, (kind == kind2) = t := ⟨_, rfl⟩
  obtain ⟨t2, h2⟩ : ∃ t, (text.toList == text2.toList) = t := ⟨_, rfl⟩
  obtain ⟨t3, h3⟩ : ∃ t, (num == num2) = t := ⟨_, rfl⟩
  obtain ⟨t4, HT4⟩ : ∃ t, Hid ((kids == kids2) = t) := ⟨_, Lib.hid rfl⟩
  rw [h1, h2, h3, HT4.out] at HS
  cases t1 with
  | false =>
    go_enter Tryz.func35, Tryz.ntmps35
    go_wp2_with fail
    go_ret
    exact ⟨ret_b (by rw [← HS.out]; rfl), HXB.out⟩
  | true =>
    cases t2 with
    | false =>
      go_enter Tryz.func35, Tryz.ntmps35
      go_wp2_with fail
      go_ret
      exact ⟨ret_b (by rw [← HS.out]; rfl), HXB.out⟩
    | true =>
      cases t3 with
      | false =>
        go_enter Tryz.func35, Tryz.ntmps35
        go_wp2_with fail
        go_ret
        exact ⟨ret_b (by rw [← HS.out]; rfl), HXB.out⟩
      | true =>
        have HB : Hid (t4 = b) := Lib.hid (by rw [← HS.out]; rfl)
        go_enter Tryz.func35, Tryz.ntmps35
        go_wp2_with fail
        refine (equalI_any kA kA2 kids kids2 _ kc _ kc2 _ rfl rfl (HX0.out.ext HXB.out) (HY0.out.ext HXB.out) hxl hyl t4 HT4).mono ?_
        rintro e w2 ⟨rfl, hx2⟩
        have HX2 : Hid (Ext w w2) := Lib.hid (HXB.out.trans hx2)
        clear hx2 x0 x2 x3 x4 y0 y2 y3 y4
        go_wp2_with fail
        go_ret
        exact ⟨ret_b HB.out, HX2.out⟩
set_option maxRecDepth 400000 in
set_option maxHeartbeats 8000000 in
theorem equalFunc_any (l m : List NodeM) (A B : Option Addr) (n c n2 c2 : Nat) (w : World) (hn : n = l.length) (hn2 : n2 = m.length) (hl : TreeM w A l) (hm : TreeM w B m) (hlen : l.length ≤ 4000) (hlen2 : m.length ≤ 4000) (hk : ∀ x ∈ l, x.kids.length ≤ 4000) (hk2 : ∀ x ∈ m, x.kids.length ≤ 4000) (b : Bool) (hb : Hid (sameM l m = b)) :
    Calls Tryz.prog 34 #[.slice A n c, .slice B n2 c2, .func (.func 35) #[] #[]] w fun e w' => e = .returned (.bool b) ∧ Ext w w' := by
  subst hn hn2
  have HL := Lib.hid hl
  have HM := Lib.hid hm
  have HK := Lib.hid hk
  have HK2 := Lib.hid hk2
  clear hl hm hk hk2
  by_cases hlw : l.length = m.length
  · have e0 : ((l.length : Int) == (m.length : Int)) = true := by rw [hlw]; simp
    have e1 : ((l.length : Int) != (m.length : Int)) = false := by rw [hlw]; simp
    have HLW := Lib.hid hlw
    clear hlw
    go_enter Tryz.func34, Tryz.ntmps34
    go_wp2_with fail
    go_loopw [17] (fun i wr => ∃ k : Nat, k ≤ l.length ∧ i = .int .i64 k ∧ Hid (Ext w wr) ∧ Hid (∀ j (h1 : j < l.length) (h2 : j < m.length), j < k → sameNode l[j] m[j] = true)) (fun i _ => l.length - (intOf i).toNat)
    case atStart => exact ⟨0, Nat.zero_le _, rfl, Lib.hid (Ext.refl _), Lib.hid fun j h1 h2 hj => by omega⟩
    case round =>
      obtain ⟨k, hkk, rfl, HX, HR⟩ := hrel
      obtain ⟨wa, rfl⟩ : ∃ wa : World, wa = wr := ⟨_, rfl⟩
      by_cases hlt : k < l.length
      · have d0 : decide ((k : Int) < (l.length : Int)) = true := decide_eq_true (by omega)
        have hlt2 : k < m.length := by have := HLW.out; omega
        have q1 : (k : Int) < (l.length : Int) := by omega
        have q2 : (k : Int) < (m.length : Int) := by omega
        have HL1 := Lib.hid (HL.out.ext HX.out)
        have HM1 := Lib.hid (HM.out.ext HX.out)
        obtain ⟨b1, off1, rfl, hb1, hc1⟩ := HL1.out.at_ k hlt
        obtain ⟨b2, off2, rfl, hb2, hc2⟩ := HM1.out.at_ k hlt2
        have HN1 : Hid (NodeOk wa l[k]) := Lib.hid (HL1.out.ok _ (List.getElem_mem hlt))
        have HN2 : Hid (NodeOk wa m[k]) := Lib.hid (HM1.out.ok _ (List.getElem_mem hlt2))
        have hkl : l[k].kids.length ≤ 4000 := HK.out _ (List.getElem_mem hlt)
        have hkm : m[k].kids.length ≤ 4000 := HK2.out _ (List.getElem_mem hlt2)
        have HKL := Lib.hid hkl
        have HKM := Lib.hid hkm
        clear hkl hkm
        obtain ⟨t, ht⟩ : ∃ t, sameNode l[k] m[k] = t := ⟨_, rfl⟩
        have HYES : Hid (t = true → ∀ j (h1 : j < l.length) (h2 : j < m.length), j < k + 1 → sameNode l[j] m[j] = true) := Lib.hid (by
          intro h j h1 h2 h3
          by_cases hj : j = k
          · subst hj; rw [ht]; exact h
          · exact HR.out j h1 h2 (by omega))
        have HNO : Hid (t = false → b = false) := Lib.hid (by
          intro h
          rw [← hb.out]
          exact sameM_no k hlt hlt2 (by rw [ht]; exact h))
        have HTT := Lib.hid ht
        clear ht
        generalize l[k] = x at *
        generalize m[k] = y at *
        obtain ⟨kind, pos, text, num, kA, kc, kids⟩ := x
        obtain ⟨kind2, pos2, text2, num2, kA2, kc2, kids2⟩ := y
        have x0 : wa.cell? ⟨b1, off1 + k * 5, none⟩ = some (.int .u8 kind) := hc1 0 (by omega)
        have x1 : wa.cell? ⟨b1, off1 + k * 5 + 1, none⟩ = some (.int .i64 pos) := hc1 1 (by omega)
        have x2 : wa.cell? ⟨b1, off1 + k * 5 + 2, none⟩ = some (.string text) := hc1 2 (by omega)
        have x3 : wa.cell? ⟨b1, off1 + k * 5 + 3, none⟩ = some (.int .i64 num) := hc1 3 (by omega)
        have x4 : wa.cell? ⟨b1, off1 + k * 5 + 4, none⟩ = some (.slice kA kids.length kc) := hc1 4 (by omega)
        have HC2 : Hid (∀ j, j < 5 → wa.cell? ⟨b2, off2 + k * 5 + j, none⟩ = ([Value.int .u8 kind2, .int .i64 pos2, .string text2, .int .i64 num2, .slice kA2 kids2.length kc2])[j]?) := Lib.hid hc2
        have HLT2 := Lib.hid hb2
        clear hc1 hc2
        go_upto_region 6 with fail
        have HXA : Hid (Ext wa (wa.alloc (.cells #[.int .u8 kind, .int .i64 pos, .string text, .int .i64 num, .slice kA kids.length kc] 50))) := Lib.hid (Ext.alloc _ _)
        have HBX : Hid (Blk (wa.alloc (.cells #[.int .u8 kind, .int .i64 pos, .string text, .int .i64 num, .slice kA kids.length kc] 50)) wa.heap.size 50 #[.int .u8 kind, .int .i64 pos, .string text, .int .i64 num, .slice kA kids.length kc]) := Lib.hid (Blk.new _ _ _)
        clear x0 x1 x2 x3 x4
        generalize wa.alloc (.cells #[.int .u8 kind, .int .i64 pos, .string text, .int .i64 num, .slice kA kids.length kc] 50) = wb at *
        obtain ⟨gx, hgx⟩ : ∃ gx, gx = wa.heap.size := ⟨_, rfl⟩
        rw [← hgx] at HBX ⊢
        clear hgx
        have y0 : wb.cell? ⟨b2, off2 + k * 5, none⟩ = some (.int .u8 kind2) := (HXA.out.cell (p := ⟨b2, off2 + k * 5, none⟩) HLT2.out).trans (HC2.out 0 (by omega))
        have y1 : wb.cell? ⟨b2, off2 + k * 5 + 1, none⟩ = some (.int .i64 pos2) := (HXA.out.cell (p := ⟨b2, off2 + k * 5 + 1, none⟩) HLT2.out).trans (HC2.out 1 (by omega))
        have y2 : wb.cell? ⟨b2, off2 + k * 5 + 2, none⟩ = some (.string text2) := (HXA.out.cell (p := ⟨b2, off2 + k * 5 + 2, none⟩) HLT2.out).trans (HC2.out 2 (by omega))
        have y3 : wb.cell? ⟨b2, off2 + k * 5 + 3, none⟩ = some (.int .i64 num2) := (HXA.out.cell (p := ⟨b2, off2 + k * 5 + 3, none⟩) HLT2.out).trans (HC2.out 3 (by omega))
        have y4 : wb.cell? ⟨b2, off2 + k * 5 + 4, none⟩ = some (.slice kA2 kids2.length kc2) := (HXA.out.cell (p := ⟨b2, off2 + k * 5 + 4, none⟩) HLT2.out).trans (HC2.out 4 (by omega))
        go_upto_region 7 with fail
        have HXB : Hid (Ext wb (wb.alloc (.cells #[.int .u8 kind2, .int .i64 pos2, .string text2, .int .i64 num2, .slice kA2 kids2.length kc2] 50))) := Lib.hid (Ext.alloc _ _)
        have HBY : Hid (Blk (wb.alloc (.cells #[.int .u8 kind2, .int .i64 pos2, .string text2, .int .i64 num2, .slice kA2 kids2.length kc2] 50)) wb.heap.size 50 #[.int .u8 kind2, .int .i64 pos2, .string text2, .int .i64 num2, .slice kA2 kids2.length kc2]) := Lib.hid (Blk.new _ _ _)
        clear y0 y1 y2 y3 y4
        have HBX2 := Lib.hid (HBX.out.ext HXB.out)
        have HXW : Hid (Ext w (wb.alloc (.cells #[.int .u8 kind2, .int .i64 pos2, .string text2, .int .i64 num2, .slice kA2 kids2.length kc2] 50))) := Lib.hid ((HX.out.trans HXA.out).trans HXB.out)
        have HXA2 := Lib.hid (HXA.out.trans HXB.out)
        generalize wb.alloc (.cells #[.int .u8 kind2, .int .i64 pos2, .string text2, .int .i64 num2, .slice kA2 kids2.length kc2] 50) = wc at *
        generalize wb.heap.size = gy at *
        have x0 := HBX2.out.cell 0
        have x1 := HBX2.out.cell 1
        have x2 := HBX2.out.cell 2
        have x3 := HBX2.out.cell 3
        have x4 := HBX2.out.cell 4
        have y0 := HBY.out.cell 0
        have y1 := HBY.out.cell 1
        have y2 := HBY.out.cell 2
        have y3 := HBY.out.cell 3
        have y4 := HBY.out.cell 4
        go_wp2_with fail
        refine (same1_any ⟨kind, pos, text, num, kA, kc, kids⟩ ⟨kind2, pos2, text2, num2, kA2, kc2, kids2⟩ wc (HN1.out.kids.ext HXA2.out) (HN2.out.kids.ext HXA2.out) HKL.out HKM.out t HTT).mono ?_
        rintro e w2 ⟨rfl, hx2⟩
        have HX2 : Hid (Ext w w2) := Lib.hid (HXW.out.trans hx2)
        clear hx2 x0 x1 x2 x3 x4 y0 y1 y2 y3 y4
        cases t with
        | true =>
          go_wp2_with fail
          go_roundw
          case rel => exact ⟨k + 1, by omega, by go_num, HX2, Lib.hid (HYES.out (by simp))⟩
          case measure => simp [intOf]; omega
        | false =>
          go_wp2_with fail
          go_ret
          exact ⟨ret_b (HNO.out (by simp)).symm, HX2.out⟩
      · obtain rfl : k = l.length := by omega
        have d0 : decide ((l.length : Int) < (l.length : Int)) = false := by simp
        have HB : Hid (b = true) := Lib.hid (by
          rw [← hb.out]
          exact sameM_yes HLW.out (fun j h1 h2 => HR.out j h1 h2 h1))
        go_wp2_with fail
        go_ret
        exact ⟨ret_b HB.out.symm, HX.out⟩
  · have e0 : ((l.length : Int) == (m.length : Int)) = false := by rw [beq_eq_false_iff_ne]; omega
    have e1 : ((l.length : Int) != (m.length : Int)) = true := by rw [bne, e0]; rfl
    have HB : Hid (b = false) := Lib.hid (by rw [← hb.out]; exact sameM_len hlw)
    go_enter Tryz.func34, Tryz.ntmps34
    go_wp2_with fail
    go_ret
    exact ⟨ret_b HB.out.symm, Ext.refl _⟩
set_option maxRecDepth 400000 in
set_option maxHeartbeats 8000000 in
theorem same_any (l m : List NodeM) (A B : Option Addr) (n c n2 c2 : Nat) (w : World) (hn : n = l.length) (hn2 : n2 = m.length) (hl : TreeM w A l) (hm : TreeM w B m) (hlen : l.length ≤ 4000) (hlen2 : m.length ≤ 4000) (hk : ∀ x ∈ l, x.kids.length ≤ 4000) (hk2 : ∀ x ∈ m, x.kids.length ≤ 4000) (b : Bool) (hb : Hid (sameM l m = b)) :
    Calls Tryz.prog 17 #[.agg #[.slice A n c], .agg #[.slice B n2 c2]] w fun e w' => e = .returned (.bool b) ∧ Ext w w' := by
  subst hn hn2
  have HL := Lib.hid hl
  have HM := Lib.hid hm
  have HK := Lib.hid hk
  have HK2 := Lib.hid hk2
  clear hl hm hk hk2
  have HXB : Hid (Ext w ((w.alloc (.cells #[.slice A l.length c] 26)).alloc (.cells #[.slice B m.length c2] 26))) := Lib.hid ((Ext.alloc _ _).trans (Ext.alloc _ _))
  have x0 : ((w.alloc (.cells #[.slice A l.length c] 26)).alloc (.cells #[.slice B m.length c2] 26)).cell? ⟨w.heap.size, 0, none⟩ = some (.slice A l.length c) := ((Blk.new _ _ _).alloc _).cell 0
  have y0 : ((w.alloc (.cells #[.slice A l.length c] 26)).alloc (.cells #[.slice B m.length c2] 26)).cell? ⟨w.heap.size + 1, 0, none⟩ = some (.slice B m.length c2) := (Blk.newAt2 (g := w.heap.size + 1) (by simp)).cell 0
  go_enter Tryz.func17, Tryz.ntmps17
  go_wp2_with fail
  refine (equalFunc_any l m A B l.length c m.length c2 _ rfl rfl (HL.out.ext HXB.out) (HM.out.ext HXB.out) hlen hlen2 HK.out HK2.out b hb).mono ?_
  rintro e w2 ⟨rfl, hx2⟩
  have HX2 : Hid (Ext w w2) := Lib.hid (HXB.out.trans hx2)
  clear hx2 x0 y0
  go_wp2_with fail
  go_ret
  exact ⟨rfl, HX2.out⟩
/-! ### .. as Parse lays them -/
def toM (x : Nd × Hd2) : NodeM := ⟨x.1.kind, x.1.pos, bstr x.1.text, x.1.num, x.2.1, x.2.2, x.1.kids.map fun (k : Nat) => (k : Int)⟩
theorem toM_cells (x : Nd × Hd2) : (toM x).cells = ncell x := by simp [toM, NodeM.cells, ncell]
theorem ints_kc (l : List Nat) : ints l = ikcells (l.map fun (k : Nat) => (k : Int)) := by simp [ints, ikcells]
theorem TR.toM {w : World} {A : Option Addr} {nh : List (Nd × Hd2)} (h : TR w A nh) : TreeM w A (nh.map Proofs.YtcccnicldbpieaaGreatDoor.toM) := by
  refine ⟨?_, fun x hx => ?_⟩
  · have e : trcells (nh.map Proofs.YtcccnicldbpieaaGreatDoor.toM) = ncs nh := by
      unfold trcells ncs
      rw [List.flatMap_map]
      congr 1
      funext x
      exact toM_cells x
    rw [e]
    exact h.row
  · obtain ⟨y, hy, rfl⟩ := List.mem_map.1 hx
    refine ⟨?_⟩
    have := h.kids y hy
    rw [ints_kc] at this
    exact this
theorem same_bare {l m : List (Nd × Hd2)} (h : (l.map Prod.fst).map (fun n : Nd => ({ n with pos := 0 } : Nd)) = (m.map Prod.fst).map (fun n : Nd => ({ n with pos := 0 } : Nd))) : sameM (l.map toM) (m.map toM) = true := by
  induction l generalizing m with
  | nil => cases m with
    | nil => rfl
    | cons y m => simp at h
  | cons x l ih => cases m with
    | nil => simp at h
    | cons y m =>
      simp only [List.map_cons, List.cons.injEq] at h
      obtain ⟨h1, h2⟩ := h
      show (sameNode (toM x) (toM y) && sameM (l.map toM) (m.map toM)) = true
      rw [ih h2, Bool.and_true]
      obtain ⟨⟨k1, p1, t1, n1, s1⟩, hd1⟩ := x
      obtain ⟨⟨k2, p2, t2, n2, s2⟩, hd2⟩ := y
      injection h1 with a1 a2 a3 a4 a5
      subst a1 a3 a4 a5
      simp [sameNode, toM]
/-- tree.Same of two answers of Parse that differ in places alone. -/
theorem same_tr (l m : List (Nd × Hd2)) (A B : Option Addr) (n c n2 c2 : Nat) (w : World) (hn : n = l.length) (hn2 : n2 = m.length) (hl : TR w A l) (hm : TR w B m) (hlen : l.length ≤ 4000) (hlen2 : m.length ≤ 4000) (hk : ∀ x ∈ l, x.1.kids.length ≤ 4000) (hk2 : ∀ x ∈ m, x.1.kids.length ≤ 4000)
    (h : (l.map Prod.fst).map (fun n : Nd => ({ n with pos := 0 } : Nd)) = (m.map Prod.fst).map (fun n : Nd => ({ n with pos := 0 } : Nd))) :
    Calls Tryz.prog 17 #[.agg #[.slice A n c], .agg #[.slice B n2 c2]] w fun e w' => e = .returned (.bool true) ∧ Ext w w' := by
  refine same_any (l.map toM) (m.map toM) A B n c n2 c2 w (by simpa using hn) (by simpa using hn2) hl.toM hm.toM (by simpa using hlen) (by simpa using hlen2) (fun x hx => ?_) (fun x hx => ?_) true (Lib.hid (same_bare h))
  · obtain ⟨y, hy, rfl⟩ := List.mem_map.1 hx
    simpa [toM] using hk y hy
  · obtain ⟨y, hy, rfl⟩ := List.mem_map.1 hx
    simpa [toM] using hk2 y hy
end Go.Proofs.YtcccnicldbpieaaGreatDoor
