/- LexJoined, walked: always true. Condition: errors.errorType reads as the program's text lays it. -/
import Derived.Test.YtjjeebocebhhaaaDoorLxBlanks
namespace Go.Proofs.YtjjeebocebhhaaaDoor
open Go Go.RowKit
set_option linter.unusedVariables false
set_option linter.unusedSimpArgs false
theorem lexL_high : ∀ (l : List Tok) (p : Nat) (s : Bs), lexL p s = .ok l → ∀ t ∈ l, t.at_ ≤ p + s.length ∧ t.en ≤ p + s.length
  | [], _, _, _, x, hx => by cases hx
  | t :: l, p, s, h, x, hx => by
    obtain ⟨m, a1, a2, a3, a4, a5, a6, a7⟩ := lexL_next 0 h
    rcases List.mem_cons.1 hx with rfl | hx
    · exact ⟨by omega, by omega⟩
    · rcases a7 with ⟨b1, b2, _⟩ | ⟨b1, b2, b3, b4⟩
      · subst b2; cases hx
      · have := lexL_high l t.en _ b3 x hx
        rw [List.length_drop] at this
        omega
theorem own_empty (w : World) : (w.alloc (.cells #[] 5)).ownsRow w.heap.size 5 1 (.slice (some ⟨w.heap.size, 0, none⟩) 0 0) 0 [] :=
  ⟨rfl, .inr ⟨w.heap.size, 0, #[], rfl, Nat.le_refl _, heap_alloc_new _ _, Nat.le_refl _, by decide, rfl, rfl⟩⟩
theorem own_fix {w : World} {base n c : Nat} {A : Option Addr} {xs : List Value} {e : TypeId} (h : w.ownsRow base e 1 (.slice A (0 + n) c) (0 + n) ([] ++ xs)) : w.ownsRow base e 1 (.slice A n c) n xs := by rw [Nat.zero_add] at h; exact h
theorem bcells_one (l : Bs) : ∀ u ∈ bcells l, u.oneCell' = true := by
  intro u hu
  simp only [bcells, List.mem_map] at hu
  obtain ⟨b, _, rfl⟩ := hu
  rfl
theorem lexS_small {l : Bs} (h : l.length ≤ 65536) : lexS l = lexL 0 l := by unfold lexS; rw [if_neg (by omega)]
theorem joined {l l2 : Bs} (h : (l ++ 10 :: l2).length ≤ 65536) : lexS (l ++ 10 :: l2) = (lexL 0 l).join ((lexL 0 l2).shift (l.length + 1)) := by
  rw [lexS_small h, lexL_join _ 0 l l2 (Nat.le_refl _), ← lexL_shift]
  rw [show 0 + l.length + 1 = 0 + (l.length + 1) from by omega]
theorem join_left {la lb lz : List Tok} {q : Nat} (h : la.dropLast ++ lb.map (Tok.shift q) = lz) {k : Nat} (hk : k < la.length - 1) (h1 : k < la.length) (h2 : k < lz.length) : lz[k] = la[k] := by
  subst h
  rw [List.getElem_append_left (by rw [List.length_dropLast]; exact hk), List.getElem_dropLast]
theorem join_right {la lb lz : List Tok} {q : Nat} (h : la.dropLast ++ lb.map (Tok.shift q) = lz) {k : Nat} (hk : la.length - 1 ≤ k) (h1 : k - (la.length - 1) < lb.length) (h2 : k < lz.length) : lz[k] = (lb[k - (la.length - 1)]).shift q := by
  subst h
  rw [List.getElem_append_right (by rw [List.length_dropLast]; exact hk)]
  simp
set_option maxHeartbeats 8000000 in
set_option maxRecDepth 10000 in
theorem lexJoined_any (A B : Option Addr) (l l2 : Bs) (n m c d : Nat) (w : World) (hG : GT w) (hn : n = l.length) (hm : m = l2.length) (hcap : l.length ≤ c) (hcap2 : l2.length ≤ d) (hnil : A = none → c = 0) (hnil2 : B = none → d = 0) (h : Cells w A (bcells l)) (hB : Cells w B (bcells l2)) :
    Calls Tryd.prog 7 #[.slice A n c, .slice B m d] w fun e w' => e = .returned (.bool true) ∧ Ext w w' := by
  subst hn hm
  obtain ⟨i0, hi, hz0, hz1, hz2⟩ := info_parts infoU8
  have HG := Lib.hid hG
  have HC := Lib.hid h
  have HD := Lib.hid hB
  clear hG h hB
  by_cases h400 : 400 < l.length
  · have d0 : decide ((400 : Int) < (l.length : Int)) = true := decide_eq_true (by omega)
    go_enter Tryd.func7, Tryd.ntmps7
    go_wp2_with fail
    refine (works3_any w HG.out).mono ?_
    rintro e w' ⟨rfl, hx⟩
    go_wp2_with fail
    go_ret
    exact ⟨rfl, hx⟩
  · have d0 : decide ((400 : Int) < (l.length : Int)) = false := decide_eq_false (by omega)
    by_cases h402 : 400 < l2.length
    · have d1 : decide ((400 : Int) < (l2.length : Int)) = true := decide_eq_true (by omega)
      go_enter Tryd.func7, Tryd.ntmps7
      go_wp2_with fail
      refine (works3_any w HG.out).mono ?_
      rintro e w' ⟨rfl, hx⟩
      go_wp2_with fail
      go_ret
      exact ⟨rfl, hx⟩
    · have d1 : decide ((400 : Int) < (l2.length : Int)) = false := decide_eq_false (by omega)
      have HJ := Lib.hid (joined (l := l) (l2 := l2) (by simp; omega))
      have HL := Lib.hid (lexS_small (l := l) (by omega))
      have HL2 := Lib.hid (lexS_small (l := l2) (by omega))
      go_enter Tryd.func7, Tryd.ntmps7
      go_wp2_with fail
      refine (lex_any A l l.length c w rfl (by omega) hcap hnil HC.out).mono ?_
      cases hr : lexS l with
      | err a er =>
        rw [← HL.out, hr] at HJ
        replace HJ : Hid (lexS (l ++ 10 :: l2) = .err a er) := HJ
        rintro e w2 ⟨hx2, g2, rfl, _, hb2⟩
        have HX2 := Lib.hid hx2
        clear hx2 hb2 hr
        go_wp2_with fail
        refine (lex_any B l2 l2.length d w2 rfl (by omega) hcap2 hnil2 (HD.out.ext HX2.out)).mono ?_
        cases hr2 : lexS l2 with
        | err a2 er2 =>
          clear hr2
          rintro e w3 ⟨hx3, g3, rfl, _, hb3⟩
          have HX3 := Lib.hid (HX2.out.trans hx3)
          clear hx3 hb3

          have hsz3 := HX3.out.size
          go_upto_region 6 with (at_builtin; first | (refine wpList_grow rfl (.tmp 34) (.tmp 35) 22 rfl w3.heap.size 5 i0 (.int .u8 0) 1 1 Tryd.underlying22 hi hz0 hz1 hz2 rfl (by decide) _ _ _ rfl (own_empty w3) A l.length c (bcells l) rfl hnil (by rw [bcells_len]; omega) ((HC.out.ext HX3.out).ext (Ext.alloc _ _)) (bcells_one l) (by unfold maxLen; omega) (by omega) (by simp) ?_; intro A4 c4 w4 z4 hown4 hg4) | (refine wpList_grow rfl (.tmp 36) (.tmp 37) 22 rfl w3.heap.size 5 i0 (.int .u8 0) 1 1 Tryd.underlying22 hi hz0 hz1 hz2 rfl (by decide) (.slice A4 l.length c4) l.length (bcells l) rfl ((own_fix hown4).alloc _) (some ⟨w4.heap.size, 0, none⟩) 1 1 (bcells [10]) rfl (fun h => by cases h) rfl (Cells.newAt rfl) (bcells_one [10]) (by unfold maxLen; omega) (by omega) (by have := hg4.size; simp at this ⊢; omega) ?_; intro A5 c5 w5 z5 hown5 hg5))
          have hx4 : Ext w3 w4 := Below.grown (Ext.alloc w3 _) hg4 (by simp) (fun q hq => ((own_empty w3).lt q hq).1)
          have hx5 : Ext w3 w5 := Below.grown (hx4.trans (Ext.alloc _ _)) hg5 (by have := hx4.size; simp; omega) (fun q hq => ((own_fix hown4).lt q hq).1)
          have HO5 : Hid (w5.ownsRow w3.heap.size 5 1 (.slice A5 (l.length + 1) c5) (l.length + 1) (bcells (l ++ [10]))) := Lib.hid (by rw [bcells_app]; simpa using hown5)
          have HX5 := Lib.hid (HX3.out.trans hx5)
          have HX35 := Lib.hid hx5
          have hsz5 := hx5.size
          clear hown4 hg4 hown5 hg5 hx4 hx5
          go_wp2_with (at_builtin; refine wpList_grow rfl (.tmp 40) (.tmp 41) 22 rfl w3.heap.size 5 i0 (.int .u8 0) 1 1 Tryd.underlying22 hi hz0 hz1 hz2 rfl (by decide) _ _ _ rfl HO5.out B l2.length d (bcells l2) rfl hnil2 (by rw [bcells_len]; omega) (HD.out.ext HX5.out) (bcells_one l2) (by unfold maxLen; omega) (by omega) hsz5 ?_; intro A6 c6 w6 z6 hown6 hg6)
          have HO6 : Hid (w6.ownsRow w3.heap.size 5 1 (.slice A6 (l.length + 1 + l2.length) c6) (l.length + 1 + l2.length) (bcells (l ++ 10 :: l2))) := Lib.hid (by rw [show l ++ 10 :: l2 = (l ++ [10]) ++ l2 from by simp, bcells_app]; exact hown6)
          have HX36 : Hid (Ext w3 w6) := Lib.hid (Below.grown HX35.out hg6 hsz5 (fun q hq => (HO5.out.lt q hq).1))
          have HX6 : Hid (Ext w w6) := Lib.hid (HX3.out.trans HX36.out)
          have hc6 : l.length + 1 + l2.length ≤ c6 := by
            obtain ⟨A7, c7, e, _, h⟩ := own_form HO6.out
            injection e with e1 e2 e3
            subst e3
            exact h
          clear hown6 hg6
          refine (lex_any A6 (l ++ 10 :: l2) (l.length + 1 + l2.length) c6 w6 (by simp; omega) (by simp; omega) (by simp; omega) z6 (Cells.own HO6.out)).mono ?_

          rw [HJ.out]
          rintro e w7 ⟨hx7, g7, rfl, _, hb7⟩
          have HX7 := Lib.hid (HX6.out.trans hx7)
          clear hx7 hb7
          go_wp2_with fail
          refine (works3_any w7 (HG.out.ext HX7.out)).mono ?_
          rintro e w8 ⟨rfl, hx8⟩
          go_wp2_with fail
          go_ret
          exact ⟨rfl, HX7.out.trans hx8⟩
        | ok lb =>
          clear hr2
          rintro e w3 ⟨hx3, A3, c3, rfl, _, ho3⟩
          have HX3 := Lib.hid (HX2.out.trans hx3)
          have HC3 := Lib.hid (Cells.own ho3)
          clear hx3 ho3

          have hsz3 := HX3.out.size
          go_upto_region 6 with (at_builtin; first | (refine wpList_grow rfl (.tmp 34) (.tmp 35) 22 rfl w3.heap.size 5 i0 (.int .u8 0) 1 1 Tryd.underlying22 hi hz0 hz1 hz2 rfl (by decide) _ _ _ rfl (own_empty w3) A l.length c (bcells l) rfl hnil (by rw [bcells_len]; omega) ((HC.out.ext HX3.out).ext (Ext.alloc _ _)) (bcells_one l) (by unfold maxLen; omega) (by omega) (by simp) ?_; intro A4 c4 w4 z4 hown4 hg4) | (refine wpList_grow rfl (.tmp 36) (.tmp 37) 22 rfl w3.heap.size 5 i0 (.int .u8 0) 1 1 Tryd.underlying22 hi hz0 hz1 hz2 rfl (by decide) (.slice A4 l.length c4) l.length (bcells l) rfl ((own_fix hown4).alloc _) (some ⟨w4.heap.size, 0, none⟩) 1 1 (bcells [10]) rfl (fun h => by cases h) rfl (Cells.newAt rfl) (bcells_one [10]) (by unfold maxLen; omega) (by omega) (by have := hg4.size; simp at this ⊢; omega) ?_; intro A5 c5 w5 z5 hown5 hg5))
          have hx4 : Ext w3 w4 := Below.grown (Ext.alloc w3 _) hg4 (by simp) (fun q hq => ((own_empty w3).lt q hq).1)
          have hx5 : Ext w3 w5 := Below.grown (hx4.trans (Ext.alloc _ _)) hg5 (by have := hx4.size; simp; omega) (fun q hq => ((own_fix hown4).lt q hq).1)
          have HO5 : Hid (w5.ownsRow w3.heap.size 5 1 (.slice A5 (l.length + 1) c5) (l.length + 1) (bcells (l ++ [10]))) := Lib.hid (by rw [bcells_app]; simpa using hown5)
          have HX5 := Lib.hid (HX3.out.trans hx5)
          have HX35 := Lib.hid hx5
          have hsz5 := hx5.size
          clear hown4 hg4 hown5 hg5 hx4 hx5
          go_wp2_with (at_builtin; refine wpList_grow rfl (.tmp 40) (.tmp 41) 22 rfl w3.heap.size 5 i0 (.int .u8 0) 1 1 Tryd.underlying22 hi hz0 hz1 hz2 rfl (by decide) _ _ _ rfl HO5.out B l2.length d (bcells l2) rfl hnil2 (by rw [bcells_len]; omega) (HD.out.ext HX5.out) (bcells_one l2) (by unfold maxLen; omega) (by omega) hsz5 ?_; intro A6 c6 w6 z6 hown6 hg6)
          have HO6 : Hid (w6.ownsRow w3.heap.size 5 1 (.slice A6 (l.length + 1 + l2.length) c6) (l.length + 1 + l2.length) (bcells (l ++ 10 :: l2))) := Lib.hid (by rw [show l ++ 10 :: l2 = (l ++ [10]) ++ l2 from by simp, bcells_app]; exact hown6)
          have HX36 : Hid (Ext w3 w6) := Lib.hid (Below.grown HX35.out hg6 hsz5 (fun q hq => (HO5.out.lt q hq).1))
          have HX6 : Hid (Ext w w6) := Lib.hid (HX3.out.trans HX36.out)
          have hc6 : l.length + 1 + l2.length ≤ c6 := by
            obtain ⟨A7, c7, e, _, h⟩ := own_form HO6.out
            injection e with e1 e2 e3
            subst e3
            exact h
          clear hown6 hg6
          refine (lex_any A6 (l ++ 10 :: l2) (l.length + 1 + l2.length) c6 w6 (by simp; omega) (by simp; omega) (by simp; omega) z6 (Cells.own HO6.out)).mono ?_

          rw [HJ.out]
          rintro e w7 ⟨hx7, g7, rfl, _, hb7⟩
          have HX7 := Lib.hid (HX6.out.trans hx7)
          clear hx7 hb7
          go_wp2_with fail
          refine (works3_any w7 (HG.out.ext HX7.out)).mono ?_
          rintro e w8 ⟨rfl, hx8⟩
          go_wp2_with fail
          go_ret
          exact ⟨rfl, HX7.out.trans hx8⟩
      | ok la =>
        rw [← HL.out, hr] at HJ
        have htl := lexS_len hr
        have htp : 0 < la.length := by have := lexL_ne (HL.out.symm.trans hr); cases la with | nil => exact absurd rfl this | cons t ts => exact Nat.succ_pos _
        rintro e w2 ⟨hx2, A2, c2, rfl, _, ho2⟩
        have HX2 := Lib.hid hx2
        have HC2 := Lib.hid (Cells.own ho2)
        clear hx2 ho2 hr
        go_wp2_with fail
        refine (lex_any B l2 l2.length d w2 rfl (by omega) hcap2 hnil2 (HD.out.ext HX2.out)).mono ?_
        cases hr2 : lexS l2 with
        | err a2 er2 =>
          rw [← HL2.out, hr2] at HJ
          replace HJ : Hid (lexS (l ++ 10 :: l2) = .err (a2 + (l.length + 1)) er2) := HJ
          clear hr2
          rintro e w3 ⟨hx3, g3, rfl, _, hb3⟩
          have HX3 := Lib.hid (HX2.out.trans hx3)
          clear hx3 hb3

          have hsz3 := HX3.out.size
          go_upto_region 6 with (at_builtin; first | (refine wpList_grow rfl (.tmp 34) (.tmp 35) 22 rfl w3.heap.size 5 i0 (.int .u8 0) 1 1 Tryd.underlying22 hi hz0 hz1 hz2 rfl (by decide) _ _ _ rfl (own_empty w3) A l.length c (bcells l) rfl hnil (by rw [bcells_len]; omega) ((HC.out.ext HX3.out).ext (Ext.alloc _ _)) (bcells_one l) (by unfold maxLen; omega) (by omega) (by simp) ?_; intro A4 c4 w4 z4 hown4 hg4) | (refine wpList_grow rfl (.tmp 36) (.tmp 37) 22 rfl w3.heap.size 5 i0 (.int .u8 0) 1 1 Tryd.underlying22 hi hz0 hz1 hz2 rfl (by decide) (.slice A4 l.length c4) l.length (bcells l) rfl ((own_fix hown4).alloc _) (some ⟨w4.heap.size, 0, none⟩) 1 1 (bcells [10]) rfl (fun h => by cases h) rfl (Cells.newAt rfl) (bcells_one [10]) (by unfold maxLen; omega) (by omega) (by have := hg4.size; simp at this ⊢; omega) ?_; intro A5 c5 w5 z5 hown5 hg5))
          have hx4 : Ext w3 w4 := Below.grown (Ext.alloc w3 _) hg4 (by simp) (fun q hq => ((own_empty w3).lt q hq).1)
          have hx5 : Ext w3 w5 := Below.grown (hx4.trans (Ext.alloc _ _)) hg5 (by have := hx4.size; simp; omega) (fun q hq => ((own_fix hown4).lt q hq).1)
          have HO5 : Hid (w5.ownsRow w3.heap.size 5 1 (.slice A5 (l.length + 1) c5) (l.length + 1) (bcells (l ++ [10]))) := Lib.hid (by rw [bcells_app]; simpa using hown5)
          have HX5 := Lib.hid (HX3.out.trans hx5)
          have HX35 := Lib.hid hx5
          have hsz5 := hx5.size
          clear hown4 hg4 hown5 hg5 hx4 hx5
          go_wp2_with (at_builtin; refine wpList_grow rfl (.tmp 40) (.tmp 41) 22 rfl w3.heap.size 5 i0 (.int .u8 0) 1 1 Tryd.underlying22 hi hz0 hz1 hz2 rfl (by decide) _ _ _ rfl HO5.out B l2.length d (bcells l2) rfl hnil2 (by rw [bcells_len]; omega) (HD.out.ext HX5.out) (bcells_one l2) (by unfold maxLen; omega) (by omega) hsz5 ?_; intro A6 c6 w6 z6 hown6 hg6)
          have HO6 : Hid (w6.ownsRow w3.heap.size 5 1 (.slice A6 (l.length + 1 + l2.length) c6) (l.length + 1 + l2.length) (bcells (l ++ 10 :: l2))) := Lib.hid (by rw [show l ++ 10 :: l2 = (l ++ [10]) ++ l2 from by simp, bcells_app]; exact hown6)
          have HX36 : Hid (Ext w3 w6) := Lib.hid (Below.grown HX35.out hg6 hsz5 (fun q hq => (HO5.out.lt q hq).1))
          have HX6 : Hid (Ext w w6) := Lib.hid (HX3.out.trans HX36.out)
          have hc6 : l.length + 1 + l2.length ≤ c6 := by
            obtain ⟨A7, c7, e, _, h⟩ := own_form HO6.out
            injection e with e1 e2 e3
            subst e3
            exact h
          clear hown6 hg6
          refine (lex_any A6 (l ++ 10 :: l2) (l.length + 1 + l2.length) c6 w6 (by simp; omega) (by simp; omega) (by simp; omega) z6 (Cells.own HO6.out)).mono ?_

          rw [HJ.out]
          rintro e w7 ⟨hx7, g7, rfl, _, hb7⟩
          have HX7 := Lib.hid (HX6.out.trans hx7)
          clear hx7 hb7
          go_wp2_with fail
          refine (works3_any w7 (HG.out.ext HX7.out)).mono ?_
          rintro e w8 ⟨rfl, hx8⟩
          go_wp2_with fail
          go_ret
          exact ⟨rfl, HX7.out.trans hx8⟩
        | ok lb =>
          rw [← HL2.out, hr2] at HJ
          have htl2 := lexS_len hr2
          have HHI := Lib.hid (lexL_high lb 0 l2 (HL2.out.symm.trans hr2))
          replace HJ : Hid (lexS (l ++ 10 :: l2) = .ok (la.dropLast ++ lb.map (Tok.shift (l.length + 1)))) := HJ
          clear hr2
          rintro e w3 ⟨hx3, A3, c3, rfl, _, ho3⟩
          have HX3 := Lib.hid (HX2.out.trans hx3)
          have HC3 := Lib.hid (Cells.own ho3)
          have HC2b := Lib.hid (HC2.out.ext hx3)
          clear hx3 ho3

          have hsz3 := HX3.out.size
          go_upto_region 6 with (at_builtin; first | (refine wpList_grow rfl (.tmp 34) (.tmp 35) 22 rfl w3.heap.size 5 i0 (.int .u8 0) 1 1 Tryd.underlying22 hi hz0 hz1 hz2 rfl (by decide) _ _ _ rfl (own_empty w3) A l.length c (bcells l) rfl hnil (by rw [bcells_len]; omega) ((HC.out.ext HX3.out).ext (Ext.alloc _ _)) (bcells_one l) (by unfold maxLen; omega) (by omega) (by simp) ?_; intro A4 c4 w4 z4 hown4 hg4) | (refine wpList_grow rfl (.tmp 36) (.tmp 37) 22 rfl w3.heap.size 5 i0 (.int .u8 0) 1 1 Tryd.underlying22 hi hz0 hz1 hz2 rfl (by decide) (.slice A4 l.length c4) l.length (bcells l) rfl ((own_fix hown4).alloc _) (some ⟨w4.heap.size, 0, none⟩) 1 1 (bcells [10]) rfl (fun h => by cases h) rfl (Cells.newAt rfl) (bcells_one [10]) (by unfold maxLen; omega) (by omega) (by have := hg4.size; simp at this ⊢; omega) ?_; intro A5 c5 w5 z5 hown5 hg5))
          have hx4 : Ext w3 w4 := Below.grown (Ext.alloc w3 _) hg4 (by simp) (fun q hq => ((own_empty w3).lt q hq).1)
          have hx5 : Ext w3 w5 := Below.grown (hx4.trans (Ext.alloc _ _)) hg5 (by have := hx4.size; simp; omega) (fun q hq => ((own_fix hown4).lt q hq).1)
          have HO5 : Hid (w5.ownsRow w3.heap.size 5 1 (.slice A5 (l.length + 1) c5) (l.length + 1) (bcells (l ++ [10]))) := Lib.hid (by rw [bcells_app]; simpa using hown5)
          have HX5 := Lib.hid (HX3.out.trans hx5)
          have HX35 := Lib.hid hx5
          have hsz5 := hx5.size
          clear hown4 hg4 hown5 hg5 hx4 hx5
          go_wp2_with (at_builtin; refine wpList_grow rfl (.tmp 40) (.tmp 41) 22 rfl w3.heap.size 5 i0 (.int .u8 0) 1 1 Tryd.underlying22 hi hz0 hz1 hz2 rfl (by decide) _ _ _ rfl HO5.out B l2.length d (bcells l2) rfl hnil2 (by rw [bcells_len]; omega) (HD.out.ext HX5.out) (bcells_one l2) (by unfold maxLen; omega) (by omega) hsz5 ?_; intro A6 c6 w6 z6 hown6 hg6)
          have HO6 : Hid (w6.ownsRow w3.heap.size 5 1 (.slice A6 (l.length + 1 + l2.length) c6) (l.length + 1 + l2.length) (bcells (l ++ 10 :: l2))) := Lib.hid (by rw [show l ++ 10 :: l2 = (l ++ [10]) ++ l2 from by simp, bcells_app]; exact hown6)
          have HX36 : Hid (Ext w3 w6) := Lib.hid (Below.grown HX35.out hg6 hsz5 (fun q hq => (HO5.out.lt q hq).1))
          have HX6 : Hid (Ext w w6) := Lib.hid (HX3.out.trans HX36.out)
          have hc6 : l.length + 1 + l2.length ≤ c6 := by
            obtain ⟨A7, c7, e, _, h⟩ := own_form HO6.out
            injection e with e1 e2 e3
            subst e3
            exact h
          clear hown6 hg6
          refine (lex_any A6 (l ++ 10 :: l2) (l.length + 1 + l2.length) c6 w6 (by simp; omega) (by simp; omega) (by simp; omega) z6 (Cells.own HO6.out)).mono ?_
          rw [HJ.out]
          rintro e w7 ⟨hx7, A7, c7, rfl, _, ho7⟩
          have HX7 := Lib.hid (HX6.out.trans hx7)
          have HC7 := Lib.hid (Cells.own ho7)
          have HC2c := Lib.hid (HC2b.out.ext (HX36.out.trans hx7))
          have HC3c := Lib.hid (HC3.out.ext (HX36.out.trans hx7))
          clear hx7 ho7
          obtain ⟨lz, HLZ⟩ : ∃ lz, Hid (la.dropLast ++ lb.map (Tok.shift (l.length + 1)) = lz) := ⟨_, Lib.hid rfl⟩
          have HZL : Hid (∀ k, k < la.length - 1 → ∀ (h1 : k < la.length) (h2 : k < lz.length), lz[k] = la[k]) := Lib.hid (fun k hk h1 h2 => join_left HLZ.out hk h1 h2)
          have HZR : Hid (∀ k, la.length - 1 ≤ k → ∀ (h1 : k - (la.length - 1) < lb.length) (h2 : k < lz.length), lz[k] = (lb[k - (la.length - 1)]).shift (l.length + 1)) := Lib.hid (fun k hk h1 h2 => join_right HLZ.out hk h1 h2)
          obtain ⟨p, HNA⟩ : ∃ p, Hid (la.length = p + 1) := ⟨la.length - 1, Lib.hid (by omega)⟩
          obtain ⟨nb, HNB⟩ : ∃ nb, Hid (lb.length = nb) := ⟨_, Lib.hid rfl⟩
          have HNZ : Hid (lz.length = p + nb) := Lib.hid (by rw [← HLZ.out, List.length_append, List.length_dropLast, List.length_map, HNA.out, HNB.out]; omega)
          rw [HLZ.out] at HC7 ⊢
          rw [HNA.out, HNB.out, HNZ.out]
          rw [HNA.out] at htl
          rw [HNB.out] at htl2
          clear htp HLZ HJ
          go_wp2_with fail
          go_loopw [12] (fun i wr => ∃ k : Nat, k ≤ p + nb ∧ i = .int .i64 k ∧ Hid (Ext w7 wr)) (fun i _ => p + nb - (intOf i).toNat)
          case atStart => exact ⟨0, Nat.zero_le _, rfl, Lib.hid (Ext.refl _)⟩
          case round =>
            obtain ⟨k, hk, rfl, HX⟩ := hrel
            obtain ⟨wa, rfl⟩ : ∃ wa : World, wa = wr := ⟨_, rfl⟩
            by_cases hlt : k < p + nb
            · have hltz : k < lz.length := by rw [HNZ.out]; exact hlt
              obtain ⟨b, off, hA, hbs, hc⟩ := (HC7.out.ext HX.out).at_ (by rw [kcells_len]; omega)
              subst hA
              have hcl : ∀ j, j < 5 → wa.cell? ⟨b, off + k * 5 + j, none⟩ = (kcell lz[k])[j]? := fun j hj => by
                rw [Nat.add_assoc, hc _ (by rw [kcells_len]; omega)]
                exact kcells_at lz k hltz j hj
              obtain ⟨t, HT⟩ : ∃ t, Hid (lz[k] = t) := ⟨_, Lib.hid rfl⟩
              rw [HT.out] at hcl
              obtain ⟨kd, ta, te, tx, tn⟩ := t
              have c0 : wa.cell? ⟨b, off + k * 5, none⟩ = some (.int .u8 (kd : Int)) := hcl 0 (by omega)
              have c1 : wa.cell? ⟨b, off + k * 5 + 1, none⟩ = some (.int .i64 (ta : Int)) := hcl 1 (by omega)
              have c2' : wa.cell? ⟨b, off + k * 5 + 2, none⟩ = some (.int .i64 (te : Int)) := hcl 2 (by omega)
              have c3' : wa.cell? ⟨b, off + k * 5 + 3, none⟩ = some (.string (bstr tx)) := hcl 3 (by omega)
              have c4' : wa.cell? ⟨b, off + k * 5 + 4, none⟩ = some (.int .i64 tn) := hcl 4 (by omega)
              have q0 : (k : Int) < (p : Int) + (nb : Int) := by omega
              have HB4 : Hid (Blk (wa.alloc (.cells #[.int .u8 (kd : Int), .int .i64 (ta : Int), .int .i64 (te : Int), .string (bstr tx), .int .i64 tn] 43)) wa.heap.size 43 #[.int .u8 (kd : Int), .int .i64 (ta : Int), .int .i64 (te : Int), .string (bstr tx), .int .i64 tn]) := Lib.hid (Blk.new _ _ _)
              have HX4 : Hid (Ext w7 (wa.alloc (.cells #[.int .u8 (kd : Int), .int .i64 (ta : Int), .int .i64 (te : Int), .string (bstr tx), .int .i64 tn] 43))) := Lib.hid (HX.out.trans (Ext.alloc _ _))
              clear hcl hc
              go_upto_region 17 with fail
              generalize wa.alloc (.cells #[.int .u8 (kd : Int), .int .i64 (ta : Int), .int .i64 (te : Int), .string (bstr tx), .int .i64 tn] 43) = w4 at *
              generalize wa.heap.size = g at *
              clear c0 c1 c2' c3' c4' HX
              have e0 : w4.cell? ⟨g, 0, none⟩ = some (.int .u8 (kd : Int)) := HB4.out.cell 0
              have e1 : w4.cell? ⟨g, 1, none⟩ = some (.int .i64 (ta : Int)) := HB4.out.cell 1
              have e2 : w4.cell? ⟨g, 2, none⟩ = some (.int .i64 (te : Int)) := HB4.out.cell 2
              have e3 : w4.cell? ⟨g, 3, none⟩ = some (.string (bstr tx)) := HB4.out.cell 3
              have e4 : w4.cell? ⟨g, 4, none⟩ = some (.int .i64 tn) := HB4.out.cell 4
              by_cases hkp : k < p
              · have hka : k < la.length := by rw [HNA.out]; omega
                have hzl := HZL.out k (by rw [HNA.out]; omega) hka hltz
                rw [HT.out] at hzl
                obtain ⟨b2, off2, hA2, hbs2, hc2⟩ := (HC2c.out.ext HX4.out).at_ (by rw [kcells_len]; omega)
                subst hA2
                have hcl : ∀ j, j < 5 → w4.cell? ⟨b2, off2 + k * 5 + j, none⟩ = (kcell ⟨kd, ta, te, tx, tn⟩)[j]? := fun j hj => by
                  rw [Nat.add_assoc, hc2 _ (by rw [kcells_len]; omega), hzl]
                  exact kcells_at la k hka j hj
                have c0 : w4.cell? ⟨b2, off2 + k * 5, none⟩ = some (.int .u8 (kd : Int)) := hcl 0 (by omega)
                have c1 : w4.cell? ⟨b2, off2 + k * 5 + 1, none⟩ = some (.int .i64 (ta : Int)) := hcl 1 (by omega)
                have c2' : w4.cell? ⟨b2, off2 + k * 5 + 2, none⟩ = some (.int .i64 (te : Int)) := hcl 2 (by omega)
                have c3' : w4.cell? ⟨b2, off2 + k * 5 + 3, none⟩ = some (.string (bstr tx)) := hcl 3 (by omega)
                have c4' : w4.cell? ⟨b2, off2 + k * 5 + 4, none⟩ = some (.int .i64 tn) := hcl 4 (by omega)
                have q1 : (k : Int) < (p : Int) := by omega
                have q2 : (k : Int) < (p : Int) + 1 := by omega
                clear hcl hc2 hzl HT
                go_wp2_with fail
                go_quiet (fail)
                go_wp2_with fail
                go_roundw
                case rel => exact ⟨k + 1, by omega, by go_num, Lib.hid (Below.trans HX4.out ⟨rfl, rfl, rfl, Nat.le_refl _, fun _ _ => rfl⟩)⟩
                case measure => simp [intOf]; omega
              · obtain ⟨j, rfl⟩ : ∃ j, k = p + j := ⟨k - p, by omega⟩
                have hj : j < nb := by omega
                have hjb : j < lb.length := by rw [HNB.out]; exact hj
                have hjj : p + j - (la.length - 1) = j := by rw [HNA.out]; omega
                have hzr := HZR.out (p + j) (by rw [HNA.out]; omega) (by rw [hjj]; exact hjb) hltz
                rw [HT.out] at hzr
                simp only [hjj] at hzr
                obtain ⟨b3, off3, hA3, hbs3, hc3⟩ := (HC3c.out.ext HX4.out).at_ (by rw [kcells_len]; omega)
                subst hA3
                have hcl : ∀ i, i < 5 → w4.cell? ⟨b3, off3 + j * 5 + i, none⟩ = (kcell lb[j])[i]? := fun i hi => by
                  rw [Nat.add_assoc, hc3 _ (by rw [kcells_len]; omega)]
                  exact kcells_at lb j hjb i hi
                have hhi := HHI.out _ (List.getElem_mem hjb)
                rw [Nat.zero_add] at hhi
                generalize lb[j] = u at *
                obtain ⟨ud, ua, ue, ux, un⟩ := u
                obtain ⟨hh1, hh2⟩ := hhi
                dsimp only at hh1 hh2
                injection hzr with z1 z2 z3 z4 z5
                dsimp only at z1 z2 z3 z4 z5
                subst z1 z4 z5
                have c0 : w4.cell? ⟨b3, off3 + j * 5, none⟩ = some (.int .u8 (kd : Int)) := hcl 0 (by omega)
                have c1 : w4.cell? ⟨b3, off3 + j * 5 + 1, none⟩ = some (.int .i64 (ua : Int)) := hcl 1 (by omega)
                have c2' : w4.cell? ⟨b3, off3 + j * 5 + 2, none⟩ = some (.int .i64 (ue : Int)) := hcl 2 (by omega)
                have c3' : w4.cell? ⟨b3, off3 + j * 5 + 3, none⟩ = some (.string (bstr tx)) := hcl 3 (by omega)
                have c4' : w4.cell? ⟨b3, off3 + j * 5 + 4, none⟩ = some (.int .i64 tn) := hcl 4 (by omega)
                have hidx : ((p : Int) + (j : Int) - ((p : Int) + 1) + 1).toNat = j := by omega
                have q1 : (j : Int) < (nb : Int) := by omega
                have HB5 : Hid (Blk (w4.alloc (.cells #[.int .u8 (kd : Int), .int .i64 (ua : Int), .int .i64 (ue : Int), .string (bstr tx), .int .i64 tn] 43)) w4.heap.size 43 #[.int .u8 (kd : Int), .int .i64 (ua : Int), .int .i64 (ue : Int), .string (bstr tx), .int .i64 tn]) := Lib.hid (Blk.new _ _ _)
                have HX5b : Hid (Ext w4 (w4.alloc (.cells #[.int .u8 (kd : Int), .int .i64 (ua : Int), .int .i64 (ue : Int), .string (bstr tx), .int .i64 tn] 43))) := Lib.hid (Ext.alloc _ _)
                have HTA : Hid (ta = ua + (l.length + 1) ∧ te = ue + (l.length + 1)) := Lib.hid ⟨z2, z3⟩
                clear hcl hc3 HT hjj z2 z3
                go_upto_region 21 with fail
                generalize w4.alloc (.cells #[.int .u8 (kd : Int), .int .i64 (ua : Int), .int .i64 (ue : Int), .string (bstr tx), .int .i64 tn] 43) = w5' at *
                generalize w4.heap.size = g5 at *
                clear c0 c1 c2' c3' c4' e0 e1 e2 e3 e4
                have HB4b := Lib.hid (HB4.out.ext HX5b.out)
                have e0 : w5'.cell? ⟨g, 0, none⟩ = some (.int .u8 (kd : Int)) := HB4b.out.cell 0
                have e1 : w5'.cell? ⟨g, 1, none⟩ = some (.int .i64 (ta : Int)) := HB4b.out.cell 1
                have e2 : w5'.cell? ⟨g, 2, none⟩ = some (.int .i64 (te : Int)) := HB4b.out.cell 2
                have e3 : w5'.cell? ⟨g, 3, none⟩ = some (.string (bstr tx)) := HB4b.out.cell 3
                have e4 : w5'.cell? ⟨g, 4, none⟩ = some (.int .i64 tn) := HB4b.out.cell 4
                have f0 : w5'.cell? ⟨g5, 0, none⟩ = some (.int .u8 (kd : Int)) := HB5.out.cell 0
                have f1 : w5'.cell? ⟨g5, 1, none⟩ = some (.int .i64 (ua : Int)) := HB5.out.cell 1
                have f2 : w5'.cell? ⟨g5, 2, none⟩ = some (.int .i64 (ue : Int)) := HB5.out.cell 2
                have f3 : w5'.cell? ⟨g5, 3, none⟩ = some (.string (bstr tx)) := HB5.out.cell 3
                have f4 : w5'.cell? ⟨g5, 4, none⟩ = some (.int .i64 tn) := HB5.out.cell 4
                have n1 : ((ta : Int) != (ua : Int) + (l.length : Int) + 1) = false := by
                  have := HTA.out.1
                  have : (ta : Int) = (ua : Int) + (l.length : Int) + 1 := by omega
                  rw [this]; simp
                have n2 : ((te : Int) != (ue : Int) + (l.length : Int) + 1) = false := by
                  have := HTA.out.2
                  have : (te : Int) = (ue : Int) + (l.length : Int) + 1 := by omega
                  rw [this]; simp
                go_wp2_with fail
                go_roundw
                case rel => exact ⟨p + j + 1, by omega, by go_num, Lib.hid (HX4.out.trans HX5b.out)⟩
                case measure => simp [intOf]; omega
            · obtain rfl : k = p + nb := by omega
              go_wp2_with fail
              refine (works3_any wa (HG.out.ext (HX7.out.trans HX.out))).mono ?_
              rintro e w8 ⟨rfl, hx8⟩
              go_wp2_with fail
              go_ret
              exact ⟨rfl, (HX7.out.trans HX.out).trans hx8⟩
end Go.Proofs.YtjjeebocebhhaaaDoor
