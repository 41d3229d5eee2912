/- interlocklaw05.ParseJoined, walked: always true. Condition: errors.errorType reads as the program's text lays it. -/
import Derived.Test.YtcccnicldbpieaaGreatDoorPwB
import Derived.Test.YtcccnicldbpieaaGreatDoorPgF
import Derived.Deep.QuietTactic
namespace Go.Proofs.YtcccnicldbpieaaGreatDoor
open Go Go.RowKit
set_option linter.unusedVariables false
set_option linter.unusedSimpArgs false
theorem infoU8 : (Tryz.prog.info? 5).map (fun i => (i.zero, i.size, i.bytes)) = some (some (.int .u8 0), 1, 1) := by kernel_rfl
theorem own_form {w : World} {base : Nat} {e : TypeId} {v : Value} {n : Nat} {xs : List Value} (h : w.ownsRow base e 1 v n xs) : ∃ A c, v = .slice A n c ∧ (A = none → c = 0) ∧ n ≤ c := by
  rcases h.2 with ⟨hv, hn⟩ | ⟨g, cap, cur, hv, _, _, hnc, _⟩
  · exact ⟨none, 0, by rw [hv, hn], fun _ => rfl, by omega⟩
  · exact ⟨some ⟨g, 0, none⟩, cap, hv, (fun h => by cases h), hnc⟩
theorem bcells_app (a b : Bs) : bcells (a ++ b) = bcells a ++ bcells b := by simp [bcells]
theorem own_empty (w : World) : (w.alloc (.cells #[] 5)).ownsRow w.heap.size 5 1 (.slice (some ⟨w.heap.size, 0, none⟩) 0 0) 0 [] :=
  ⟨rfl, .inr ⟨w.heap.size, 0, #[], rfl, Nat.le_refl _, heap_alloc_new _ _, Nat.le_refl _, by decide, rfl, rfl⟩⟩
theorem own_fix {w : World} {base n c : Nat} {A : Option Addr} {xs : List Value} {e : TypeId} (h : w.ownsRow base e 1 (.slice A (0 + n) c) (0 + n) ([] ++ xs)) : w.ownsRow base e 1 (.slice A n c) n xs := by rw [Nat.zero_add] at h; exact h
theorem bcells_one (l : Bs) : ∀ u ∈ bcells l, u.oneCell' = true := by
  intro u hu
  simp only [bcells, List.mem_map] at hu
  obtain ⟨b, _, rfl⟩ := hu
  rfl
theorem nh_at {nd : List Nd} {nh : List (Nd × Hd2)} (h : nd = nh.map Prod.fst) (k : Nat) (hk : k < nh.length) {x : Nd} (hx : nd[k]? = some x) : nh[k].1 = x := by
  subst h
  rw [List.getElem?_map, List.getElem?_eq_getElem hk] at hx
  injection hx
/-- Parse, whatever it answers. -/
theorem parse_some (A : Option Addr) (l : Bs) (n c : Nat) (w : World) (hn : n = l.length) (hbig : l.length ≤ 140737488355328) (hcap : l.length ≤ c) (hnil : A = none → c = 0) (h : Cells w A (bcells l)) :
    Calls Tryz.prog 9 #[.slice A n c] w fun e w' => ∃ A' n' c' ev, e = .returned (.tuple #[.agg #[.slice A' n' c'], ev]) ∧ Ext w w' ∧ (ev = .nilIface ∨ ∃ g, ev = .iface 70 (.pointer (some ⟨g, 0, none⟩))) := by
  refine (parse_any A l n c w hn hbig hcap hnil h).mono ?_
  rintro e w' ⟨hx, h⟩
  cases hr : parseS l with
  | ok nd =>
    rw [hr] at h
    obtain ⟨A', c', nh, h1, _⟩ := h
    exact ⟨A', _, c', _, h1, hx, .inl rfl⟩
  | err a er =>
    rw [hr] at h
    obtain ⟨g, h1, _⟩ := h
    exact ⟨_, _, _, _, h1, hx, .inr ⟨g, rfl⟩⟩
set_option maxHeartbeats 8000000 in
set_option maxRecDepth 100000 in
theorem parseJoined_any (A B : Option Addr) (l l2 : Bs) (n m c d : Nat) (w : World) (hG : GT w) (hn : n = l.length) (hm : m = l2.length) (hcap : l.length ≤ c) (hcap2 : l2.length ≤ d) (hnil : A = none → c = 0) (hnil2 : B = none → d = 0) (h : Cells w A (bcells l)) (hB : Cells w B (bcells l2)) :
    Calls Tryz.prog 5 #[.slice A n c, .slice B m d] w fun e w' => e = .returned (.bool true) ∧ Ext w w' := by
  subst hn hm
  obtain ⟨i0, hi, hz0, hz1, hz2⟩ := info_parts infoU8
  have HG := Lib.hid hG
  have HC := Lib.hid h
  have HD := Lib.hid hB
  clear hG h hB
  by_cases h500 : 500 < l.length
  · have d0 : decide ((500 : Int) < (l.length : Int)) = true := decide_eq_true (by omega)
    go_enter Tryz.func5, Tryz.ntmps5
    go_wp2_with fail
    refine (works5_any w HG.out).mono ?_
    rintro e w' ⟨rfl, hx⟩
    go_wp2_with fail
    go_ret
    exact ⟨rfl, hx⟩
  · have d0 : decide ((500 : Int) < (l.length : Int)) = false := decide_eq_false (by omega)
    by_cases h501 : 500 < l2.length
    · have d1 : decide ((500 : Int) < (l2.length : Int)) = true := decide_eq_true (by omega)
      go_enter Tryz.func5, Tryz.ntmps5
      go_wp2_with fail
      refine (works5_any w HG.out).mono ?_
      rintro e w' ⟨rfl, hx⟩
      go_wp2_with fail
      go_ret
      exact ⟨rfl, hx⟩
    · have d1 : decide ((500 : Int) < (l2.length : Int)) = false := decide_eq_false (by omega)
      have HJ := Lib.hid (joined_plain l l2 (by omega) (by omega))
      have hj := HJ.out
      cases hr : parseS l with
      | err a er =>
        have HRA := Lib.hid hr
        clear hr hj
        go_enter Tryz.func5, Tryz.ntmps5
        go_wp2_with fail
        refine (parse_err A l l.length c w rfl (by omega) hcap hnil HC.out a er HRA.out).mono ?_
        rintro e w2a ⟨g2, rfl, _, _, hx2⟩
        have HX2a := Lib.hid hx2
        clear hx2
        go_upto_region 4 with fail
        have hxt : Ext w2a (w2a.alloc (.cells #[.slice none 0 0] 26)) := Ext.alloc _ _
        have HBTw2 := Lib.hid (Blk.new w2a 26 #[.slice none 0 0])
        have HX2 := Lib.hid (HX2a.out.trans hxt)
        clear hxt
        generalize w2a.alloc (.cells #[.slice none 0 0] 26) = w2 at *
        go_wp2_with fail
        refine (parse_some B l2 l2.length d w2 rfl (by omega) hcap2 hnil2 (HD.out.ext HX2.out)).mono ?_
        rintro e w3a ⟨A3, n3, c3, ev3, rfl, hx3, hev3⟩
        have HX3a := Lib.hid (HX2.out.trans hx3)
        clear hx3
        go_upto_region 5 with fail
        have hxt : Ext w3a (w3a.alloc (.cells #[.slice A3 n3 c3] 26)) := Ext.alloc _ _
        have HBTw3 := Lib.hid (Blk.new w3a 26 #[.slice A3 n3 c3])
        have HX3 := Lib.hid (HX3a.out.trans hxt)
        clear hxt
        generalize w3a.alloc (.cells #[.slice A3 n3 c3] 26) = w3 at *
        have hsz3 := HX3.out.size
        go_upto_region 6 with (at_builtin; first | (refine wpList_grow rfl (.tmp 34) (.tmp 35) 22 rfl w3.heap.size 5 i0 (.int .u8 0) 1 1 Tryz.underlying22 hi hz0 hz1 hz2 rfl (by decide) _ _ _ rfl (own_empty w3) A l.length c (bcells l) rfl hnil (by rw [bcells_len]; omega) ((HC.out.ext HX3.out).ext (Ext.alloc _ _)) (bcells_one l) (by unfold maxLen; omega) (by omega) (by simp) ?_; intro A4 c4 w4 z4 hown4 hg4) | (refine wpList_grow rfl (.tmp 36) (.tmp 37) 22 rfl w3.heap.size 5 i0 (.int .u8 0) 1 1 Tryz.underlying22 hi hz0 hz1 hz2 rfl (by decide) (.slice A4 l.length c4) l.length (bcells l) rfl ((own_fix hown4).alloc _) (some ⟨w4.heap.size, 0, none⟩) 1 1 (bcells [10]) rfl (fun h => by cases h) rfl (Cells.newAt rfl) (bcells_one [10]) (by unfold maxLen; omega) (by omega) (by have := hg4.size; simp at this ⊢; omega) ?_; intro A5 c5 w5 z5 hown5 hg5))
        have hx4 : Ext w3 w4 := Below.grown (Ext.alloc w3 _) hg4 (by simp) (fun q hq => ((own_empty w3).lt q hq).1)
        have hx5 : Ext w3 w5 := Below.grown (hx4.trans (Ext.alloc _ _)) hg5 (by have := hx4.size; simp; omega) (fun q hq => ((own_fix hown4).lt q hq).1)
        have HO5 : Hid (w5.ownsRow w3.heap.size 5 1 (.slice A5 (l.length + 1) c5) (l.length + 1) (bcells (l ++ [10]))) := Lib.hid (by rw [bcells_app]; simpa using hown5)
        have HX5 := Lib.hid (HX3.out.trans hx5)
        have HX35 := Lib.hid hx5
        have hsz5 := hx5.size
        clear hown4 hg4 hown5 hg5 hx4 hx5
        go_wp2_with (at_builtin; refine wpList_grow rfl (.tmp 40) (.tmp 41) 22 rfl w3.heap.size 5 i0 (.int .u8 0) 1 1 Tryz.underlying22 hi hz0 hz1 hz2 rfl (by decide) _ _ _ rfl HO5.out B l2.length d (bcells l2) rfl hnil2 (by rw [bcells_len]; omega) (HD.out.ext HX5.out) (bcells_one l2) (by unfold maxLen; omega) (by omega) hsz5 ?_; intro A6 c6 w6 z6 hown6 hg6)
        have HO6 : Hid (w6.ownsRow w3.heap.size 5 1 (.slice A6 (l.length + 1 + l2.length) c6) (l.length + 1 + l2.length) (bcells (l ++ 10 :: l2))) := Lib.hid (by rw [show l ++ 10 :: l2 = (l ++ [10]) ++ l2 from by simp, bcells_app]; exact hown6)
        have HX36 : Hid (Ext w3 w6) := Lib.hid (Below.grown HX35.out hg6 hsz5 (fun q hq => (HO5.out.lt q hq).1))
        have HX6 : Hid (Ext w w6) := Lib.hid (HX3.out.trans HX36.out)
        have hc6 : l.length + 1 + l2.length ≤ c6 := by
          obtain ⟨A7, c7, e, _, h⟩ := own_form HO6.out
          injection e with e1 e2 e3
          subst e3
          exact h
        clear hown6 hg6
        refine (parse_some A6 (l ++ 10 :: l2) (l.length + 1 + l2.length) c6 w6 (by simp; omega) (by simp; omega) (by simp; omega) z6 (Cells.own HO6.out)).mono ?_
        rintro e w7a ⟨A7, n7, c7, ev7, rfl, hx7, hev7⟩
        have HX7a := Lib.hid (HX6.out.trans hx7)
        clear hx7
        go_upto_region 7 with fail
        have hxt : Ext w7a (w7a.alloc (.cells #[.slice A7 n7 c7] 26)) := Ext.alloc _ _
        have HBTw7 := Lib.hid (Blk.new w7a 26 #[.slice A7 n7 c7])
        have HX7 := Lib.hid (HX7a.out.trans hxt)
        clear hxt
        generalize w7a.alloc (.cells #[.slice A7 n7 c7] 26) = w7 at *
        go_wp2_with fail
        refine (works5_any w7 (HG.out.ext HX7.out)).mono ?_
        rintro e w8 ⟨rfl, hx8⟩
        go_wp2_with fail
        go_ret
        exact ⟨rfl, HX7.out.trans hx8⟩
      | ok x =>
        rw [hr] at hj
        have HRA := Lib.hid hr
        cases hr2 : parseS l2 with
        | err a2 er2 =>
          rw [hr2] at hj
          obtain ⟨pz, ez, hz⟩ := hj
          have HRB := Lib.hid hr2
          have HRZ := Lib.hid hz
          clear hr hr2 hz
          go_enter Tryz.func5, Tryz.ntmps5
          go_wp2_with fail
          refine (parse_ok A l l.length c w rfl (by omega) hcap hnil HC.out x HRA.out).mono ?_
          rintro e w2a ⟨A2, c2, nh2, rfl, _, _, hx2⟩
          have HX2a := Lib.hid hx2
          clear hx2
          go_upto_region 4 with fail
          have hxt : Ext w2a (w2a.alloc (.cells #[.slice A2 nh2.length c2] 26)) := Ext.alloc _ _
          have HBTw2 := Lib.hid (Blk.new w2a 26 #[.slice A2 nh2.length c2])
          have HX2 := Lib.hid (HX2a.out.trans hxt)
          clear hxt
          generalize w2a.alloc (.cells #[.slice A2 nh2.length c2] 26) = w2 at *
          go_wp2_with fail
          refine (parse_err B l2 l2.length d w2 rfl (by omega) hcap2 hnil2 (HD.out.ext HX2.out) a2 er2 HRB.out).mono ?_
          rintro e w3a ⟨g3, rfl, _, _, hx3⟩
          have HX3a := Lib.hid (HX2.out.trans hx3)
          clear hx3
          go_upto_region 5 with fail
          have hxt : Ext w3a (w3a.alloc (.cells #[.slice none 0 0] 26)) := Ext.alloc _ _
          have HBTw3 := Lib.hid (Blk.new w3a 26 #[.slice none 0 0])
          have HX3 := Lib.hid (HX3a.out.trans hxt)
          clear hxt
          generalize w3a.alloc (.cells #[.slice none 0 0] 26) = w3 at *
          have hsz3 := HX3.out.size
          go_upto_region 6 with (at_builtin; first | (refine wpList_grow rfl (.tmp 34) (.tmp 35) 22 rfl w3.heap.size 5 i0 (.int .u8 0) 1 1 Tryz.underlying22 hi hz0 hz1 hz2 rfl (by decide) _ _ _ rfl (own_empty w3) A l.length c (bcells l) rfl hnil (by rw [bcells_len]; omega) ((HC.out.ext HX3.out).ext (Ext.alloc _ _)) (bcells_one l) (by unfold maxLen; omega) (by omega) (by simp) ?_; intro A4 c4 w4 z4 hown4 hg4) | (refine wpList_grow rfl (.tmp 36) (.tmp 37) 22 rfl w3.heap.size 5 i0 (.int .u8 0) 1 1 Tryz.underlying22 hi hz0 hz1 hz2 rfl (by decide) (.slice A4 l.length c4) l.length (bcells l) rfl ((own_fix hown4).alloc _) (some ⟨w4.heap.size, 0, none⟩) 1 1 (bcells [10]) rfl (fun h => by cases h) rfl (Cells.newAt rfl) (bcells_one [10]) (by unfold maxLen; omega) (by omega) (by have := hg4.size; simp at this ⊢; omega) ?_; intro A5 c5 w5 z5 hown5 hg5))
          have hx4 : Ext w3 w4 := Below.grown (Ext.alloc w3 _) hg4 (by simp) (fun q hq => ((own_empty w3).lt q hq).1)
          have hx5 : Ext w3 w5 := Below.grown (hx4.trans (Ext.alloc _ _)) hg5 (by have := hx4.size; simp; omega) (fun q hq => ((own_fix hown4).lt q hq).1)
          have HO5 : Hid (w5.ownsRow w3.heap.size 5 1 (.slice A5 (l.length + 1) c5) (l.length + 1) (bcells (l ++ [10]))) := Lib.hid (by rw [bcells_app]; simpa using hown5)
          have HX5 := Lib.hid (HX3.out.trans hx5)
          have HX35 := Lib.hid hx5
          have hsz5 := hx5.size
          clear hown4 hg4 hown5 hg5 hx4 hx5
          go_wp2_with (at_builtin; refine wpList_grow rfl (.tmp 40) (.tmp 41) 22 rfl w3.heap.size 5 i0 (.int .u8 0) 1 1 Tryz.underlying22 hi hz0 hz1 hz2 rfl (by decide) _ _ _ rfl HO5.out B l2.length d (bcells l2) rfl hnil2 (by rw [bcells_len]; omega) (HD.out.ext HX5.out) (bcells_one l2) (by unfold maxLen; omega) (by omega) hsz5 ?_; intro A6 c6 w6 z6 hown6 hg6)
          have HO6 : Hid (w6.ownsRow w3.heap.size 5 1 (.slice A6 (l.length + 1 + l2.length) c6) (l.length + 1 + l2.length) (bcells (l ++ 10 :: l2))) := Lib.hid (by rw [show l ++ 10 :: l2 = (l ++ [10]) ++ l2 from by simp, bcells_app]; exact hown6)
          have HX36 : Hid (Ext w3 w6) := Lib.hid (Below.grown HX35.out hg6 hsz5 (fun q hq => (HO5.out.lt q hq).1))
          have HX6 : Hid (Ext w w6) := Lib.hid (HX3.out.trans HX36.out)
          have hc6 : l.length + 1 + l2.length ≤ c6 := by
            obtain ⟨A7, c7, e, _, h⟩ := own_form HO6.out
            injection e with e1 e2 e3
            subst e3
            exact h
          clear hown6 hg6
          refine (parse_err A6 (l ++ 10 :: l2) (l.length + 1 + l2.length) c6 w6 (by simp; omega) (by simp; omega) (by simp; omega) z6 (Cells.own HO6.out) pz ez HRZ.out).mono ?_
          rintro e w7a ⟨g7, rfl, _, _, hx7⟩
          have HX7a := Lib.hid (HX6.out.trans hx7)
          clear hx7
          go_upto_region 7 with fail
          have hxt : Ext w7a (w7a.alloc (.cells #[.slice none 0 0] 26)) := Ext.alloc _ _
          have HBTw7 := Lib.hid (Blk.new w7a 26 #[.slice none 0 0])
          have HX7 := Lib.hid (HX7a.out.trans hxt)
          clear hxt
          generalize w7a.alloc (.cells #[.slice none 0 0] 26) = w7 at *
          go_wp2_with fail
          refine (works5_any w7 (HG.out.ext HX7.out)).mono ?_
          rintro e w8 ⟨rfl, hx8⟩
          go_wp2_with fail
          go_ret
          exact ⟨rfl, HX7.out.trans hx8⟩
        | ok y =>
          rw [hr2] at hj
          obtain ⟨x0, X, y0, Y, z0, cx, hx, hy, hz, hk0, hφ⟩ := hj
          have HRB := Lib.hid hr2
          have HRZ := Lib.hid hz
          have HFX := Lib.hid (nodes_few hr)
          have HFY := Lib.hid (nodes_few hr2)
          obtain ⟨_, _, _, _, _, _, hlow⟩ := nodes_low hr2
          have HLOW := Lib.hid hlow
          clear hr hr2 hz hlow
          go_enter Tryz.func5, Tryz.ntmps5
          go_wp2_with fail
          refine (parse_ok A l l.length c w rfl (by omega) hcap hnil HC.out x HRA.out).mono ?_
          rintro e w2a ⟨A2, c2, nh2, rfl, hn2, hs2, hx2⟩
          have HX2a := Lib.hid hx2
          have HTX := Lib.hid hs2.tr
          have HNX := Lib.hid hn2
          have hl2 : nh2.length = X.length + 1 := by
            have := congrArg List.length hn2
            rw [hx] at this
            simpa using this.symm
          rw [hl2]
          have HLX := Lib.hid hl2
          clear hx2 hn2 hs2 hl2
          go_upto_region 4 with fail
          have hxt : Ext w2a (w2a.alloc (.cells #[.slice A2 (X.length + 1) c2] 26)) := Ext.alloc _ _
          have HBTw2 := Lib.hid (Blk.new w2a 26 #[.slice A2 (X.length + 1) c2])
          have HX2 := Lib.hid (HX2a.out.trans hxt)
          have HTX := Lib.hid (HTX.out.ext hxt)
          clear hxt
          generalize w2a.alloc (.cells #[.slice A2 (X.length + 1) c2] 26) = w2 at *
          go_wp2_with fail
          refine (parse_ok B l2 l2.length d w2 rfl (by omega) hcap2 hnil2 (HD.out.ext HX2.out) y HRB.out).mono ?_
          rintro e w3a ⟨A3, c3, nh3, rfl, hn3, hs3, hx3⟩
          have HX3a := Lib.hid (HX2.out.trans hx3)
          have HTY := Lib.hid hs3.tr
          have HTX := Lib.hid (HTX.out.ext hx3)
          have HBTw2 := Lib.hid (HBTw2.out.ext hx3)
          have HNY := Lib.hid hn3
          have hl3 : nh3.length = Y.length + 1 := by
            have := congrArg List.length hn3
            rw [hy] at this
            simpa using this.symm
          rw [hl3]
          have HLY := Lib.hid hl3
          clear hx3 hn3 hs3 hl3
          go_upto_region 5 with fail
          have hxt : Ext w3a (w3a.alloc (.cells #[.slice A3 (Y.length + 1) c3] 26)) := Ext.alloc _ _
          have HBTw3 := Lib.hid (Blk.new w3a 26 #[.slice A3 (Y.length + 1) c3])
          have HX3 := Lib.hid (HX3a.out.trans hxt)
          have HTX := Lib.hid (HTX.out.ext hxt)
          have HTY := Lib.hid (HTY.out.ext hxt)
          have HBTw2 := Lib.hid (HBTw2.out.ext hxt)
          clear hxt
          generalize w3a.alloc (.cells #[.slice A3 (Y.length + 1) c3] 26) = w3 at *
          have hsz3 := HX3.out.size
          go_upto_region 6 with (at_builtin; first | (refine wpList_grow rfl (.tmp 34) (.tmp 35) 22 rfl w3.heap.size 5 i0 (.int .u8 0) 1 1 Tryz.underlying22 hi hz0 hz1 hz2 rfl (by decide) _ _ _ rfl (own_empty w3) A l.length c (bcells l) rfl hnil (by rw [bcells_len]; omega) ((HC.out.ext HX3.out).ext (Ext.alloc _ _)) (bcells_one l) (by unfold maxLen; omega) (by omega) (by simp) ?_; intro A4 c4 w4 z4 hown4 hg4) | (refine wpList_grow rfl (.tmp 36) (.tmp 37) 22 rfl w3.heap.size 5 i0 (.int .u8 0) 1 1 Tryz.underlying22 hi hz0 hz1 hz2 rfl (by decide) (.slice A4 l.length c4) l.length (bcells l) rfl ((own_fix hown4).alloc _) (some ⟨w4.heap.size, 0, none⟩) 1 1 (bcells [10]) rfl (fun h => by cases h) rfl (Cells.newAt rfl) (bcells_one [10]) (by unfold maxLen; omega) (by omega) (by have := hg4.size; simp at this ⊢; omega) ?_; intro A5 c5 w5 z5 hown5 hg5))
          have hx4 : Ext w3 w4 := Below.grown (Ext.alloc w3 _) hg4 (by simp) (fun q hq => ((own_empty w3).lt q hq).1)
          have hx5 : Ext w3 w5 := Below.grown (hx4.trans (Ext.alloc _ _)) hg5 (by have := hx4.size; simp; omega) (fun q hq => ((own_fix hown4).lt q hq).1)
          have HO5 : Hid (w5.ownsRow w3.heap.size 5 1 (.slice A5 (l.length + 1) c5) (l.length + 1) (bcells (l ++ [10]))) := Lib.hid (by rw [bcells_app]; simpa using hown5)
          have HX5 := Lib.hid (HX3.out.trans hx5)
          have HX35 := Lib.hid hx5
          have hsz5 := hx5.size
          clear hown4 hg4 hown5 hg5 hx4 hx5
          go_wp2_with (at_builtin; refine wpList_grow rfl (.tmp 40) (.tmp 41) 22 rfl w3.heap.size 5 i0 (.int .u8 0) 1 1 Tryz.underlying22 hi hz0 hz1 hz2 rfl (by decide) _ _ _ rfl HO5.out B l2.length d (bcells l2) rfl hnil2 (by rw [bcells_len]; omega) (HD.out.ext HX5.out) (bcells_one l2) (by unfold maxLen; omega) (by omega) hsz5 ?_; intro A6 c6 w6 z6 hown6 hg6)
          have HO6 : Hid (w6.ownsRow w3.heap.size 5 1 (.slice A6 (l.length + 1 + l2.length) c6) (l.length + 1 + l2.length) (bcells (l ++ 10 :: l2))) := Lib.hid (by rw [show l ++ 10 :: l2 = (l ++ [10]) ++ l2 from by simp, bcells_app]; exact hown6)
          have HX36 : Hid (Ext w3 w6) := Lib.hid (Below.grown HX35.out hg6 hsz5 (fun q hq => (HO5.out.lt q hq).1))
          have HX6 : Hid (Ext w w6) := Lib.hid (HX3.out.trans HX36.out)
          have hc6 : l.length + 1 + l2.length ≤ c6 := by
            obtain ⟨A7, c7, e, _, h⟩ := own_form HO6.out
            injection e with e1 e2 e3
            subst e3
            exact h
          clear hown6 hg6
          refine (parse_ok A6 (l ++ 10 :: l2) (l.length + 1 + l2.length) c6 w6 (by simp; omega) (by simp; omega) (by simp; omega) z6 (Cells.own HO6.out) _ HRZ.out).mono ?_
          rintro e w7a ⟨A7, c7, nh7, rfl, hn7, hs7, hx7⟩
          have HX7a := Lib.hid (HX6.out.trans hx7)
          have hx37 := HX36.out.trans hx7
          have HTZ := Lib.hid hs7.tr
          have HTX := Lib.hid (HTX.out.ext hx37)
          have HTY := Lib.hid (HTY.out.ext hx37)
          have HBTw2 := Lib.hid (HBTw2.out.ext hx37)
          have HBTw3 := Lib.hid (HBTw3.out.ext hx37)
          have HNZ := Lib.hid hn7
          have hl7 : nh7.length = X.length + Y.length + 1 := by
            have := congrArg List.length hn7
            simpa using this.symm
          rw [hl7]
          have HLZ := Lib.hid hl7
          clear hx7 hx37 hn7 hs7 hl7
          go_upto_region 7 with fail
          have hxt : Ext w7a (w7a.alloc (.cells #[.slice A7 (X.length + Y.length + 1) c7] 26)) := Ext.alloc _ _
          have HBTw7 := Lib.hid (Blk.new w7a 26 #[.slice A7 (X.length + Y.length + 1) c7])
          have HX7 := Lib.hid (HX7a.out.trans hxt)
          have HTX := Lib.hid (HTX.out.ext hxt)
          have HTY := Lib.hid (HTY.out.ext hxt)
          have HTZ := Lib.hid (HTZ.out.ext hxt)
          have HBTw2 := Lib.hid (HBTw2.out.ext hxt)
          have HBTw3 := Lib.hid (HBTw3.out.ext hxt)
          clear hxt
          generalize w7a.alloc (.cells #[.slice A7 (X.length + Y.length + 1) c7] 26) = w7 at *
          go_upto_region 9 with fail
          obtain ⟨bz, oz, hAz, hbz, hcz⟩ := HTZ.out.at (by rw [HLZ.out]; omega)
          obtain ⟨bx, ox, hAx, hbx, hcx⟩ := HTX.out.at (by rw [HLX.out]; omega)
          obtain ⟨by_, oy, hAy, hby, hcy⟩ := HTY.out.at (by rw [HLY.out]; omega)
          subst hAz hAx hAy
          have HCZ := Lib.hid hcz
          have HCX := Lib.hid hcx
          have HCY := Lib.hid hcy
          have kz0 := hcz 0 (by rw [HLZ.out]; omega) 4 (by decide)
          have kx0 := hcx 0 (by rw [HLX.out]; omega) 4 (by decide)
          have ky0 := hcy 0 (by rw [HLY.out]; omega) 4 (by decide)
          have ez : (nh7[0]'(by rw [HLZ.out]; omega)).1 = z0 := nh_at HNZ.out 0 _ (by simp)
          have ex : (nh2[0]'(by rw [HLX.out]; omega)).1 = x0 := nh_at HNX.out 0 _ (by simp [hx])
          have ey : (nh3[0]'(by rw [HLY.out]; omega)).1 = y0 := nh_at HNY.out 0 _ (by simp [hy])
          simp only [ncell, List.getElem?_cons_zero, List.getElem?_cons_succ, Nat.zero_mul, Nat.zero_add] at kz0 kx0 ky0
          rw [ez] at kz0
          rw [ex] at kx0
          rw [ey] at ky0
          have kz4 : w7.cell? ⟨bz, oz + 4, none⟩ = _ := kz0
          have kx4 : w7.cell? ⟨bx, ox + 4, none⟩ = _ := kx0
          have ky4 : w7.cell? ⟨by_, oy + 4, none⟩ = _ := ky0
          have tz : w7.cell? ⟨w7a.heap.size, 0, none⟩ = some (.slice (some ⟨bz, oz, none⟩) (X.length + Y.length + 1) c7) := HBTw7.out.cell 0
          have tx : w7.cell? ⟨w2a.heap.size, 0, none⟩ = some (.slice (some ⟨bx, ox, none⟩) (X.length + 1) c2) := HBTw2.out.cell 0
          have ty : w7.cell? ⟨w3a.heap.size, 0, none⟩ = some (.slice (some ⟨by_, oy, none⟩) (Y.length + 1) c3) := HBTw3.out.cell 0
          have m4 : ((z0.kids.length : Int) != (x0.kids.length : Int) + (y0.kids.length : Int)) = false := by rw [hk0]; simp
          have m4' : (z0.kids.length : Int) = (x0.kids.length : Int) + (y0.kids.length : Int) := by omega
          clear hcz hcx hcy kz0 kx0 ky0 ez ex ey
          have HZX : Hid (∀ k, 1 ≤ k → k < X.length + 1 → ∀ (h1 : k < nh7.length) (h2 : k < nh2.length), nh7[k].1 = nh2[k].1) := Lib.hid fun k hk1 hk2 h1 h2 => by
            obtain ⟨k, rfl⟩ : ∃ j, k = j + 1 := ⟨k - 1, by omega⟩
            have hkx : k < X.length := by omega
            rw [nh_at HNZ.out (k + 1) h1 (x := X[k]) (by simp [List.getElem?_append, hkx]), nh_at HNX.out (k + 1) h2 (x := X[k]) (by rw [hx]; simp [hkx])]
          have HZY : Hid (∀ j, 1 ≤ j → j < Y.length + 1 → ∀ (h1 : X.length + j < nh7.length) (h2 : j < nh3.length), nh7[X.length + j].1 = cx.mv nh3[j].1) := Lib.hid fun j hj1 hj2 h1 h2 => by
            obtain ⟨j, rfl⟩ : ∃ i, j = i + 1 := ⟨j - 1, by omega⟩
            have hjy : j < Y.length := by omega
            rw [nh_at HNZ.out (X.length + (j + 1)) h1 (x := cx.mv Y[j]) (by rw [show X.length + (j + 1) = (X.length + j) + 1 by omega]; simp [List.getElem?_append, hjy]), nh_at HNY.out (j + 1) h2 (x := Y[j]) (by rw [hy]; simp [hjy])]
          have HLOW2 : Hid (∀ j (h2 : j < nh3.length), nh3[j].1.pos ≤ l2.length) := Lib.hid fun j h2 => by
            refine HLOW.out _ ?_
            rw [HNY.out]
            exact List.mem_map.2 ⟨nh3[j], List.getElem_mem h2, rfl⟩
          obtain ⟨p, HPX⟩ : ∃ p, Hid (X.length = p) := ⟨_, Lib.hid rfl⟩
          obtain ⟨q, HPY⟩ : ∃ q, Hid (Y.length = q) := ⟨_, Lib.hid rfl⟩
          rw [HPX.out, HPY.out] at tz HLZ
          rw [HPX.out] at tx HZX HZY HLX
          rw [HPY.out] at ty HZY HLY
          rw [HPX.out, HPY.out]
          have HK0 := Lib.hid hk0
          have HPH := Lib.hid hφ
          have FEW : p ≤ 1003 ∧ q ≤ 1003 := by
            have h1 := HFX.out.1
            have h2 := HFY.out.1
            rw [hx, List.length_cons, HPX.out] at h1
            rw [hy, List.length_cons, HPY.out] at h2
            omega
          have KFEW : x0.kids.length ≤ 1003 ∧ y0.kids.length ≤ 1003 := by
            have h1 := HFX.out.2 x0 (by rw [hx]; exact List.mem_cons_self ..)
            have h2 := HFY.out.2 y0 (by rw [hy]; exact List.mem_cons_self ..)
            omega
          clear hx hy hk0 hφ
          have m0 : ((p : Int) + (q : Int) + 1 == 0) = false := by rw [beq_eq_false_iff_ne]; omega
          have m1 : ((p : Int) + 1 == 0) = false := by rw [beq_eq_false_iff_ne]; omega
          have m2 : ((q : Int) + 1 == 0) = false := by rw [beq_eq_false_iff_ne]; omega
          have m3 : ((p : Int) + (q : Int) + 1 != (p : Int) + 1 + ((q : Int) + 1) - 1) = false := by
            rw [show (p : Int) + (q : Int) + 1 = (p : Int) + 1 + ((q : Int) + 1) - 1 by omega]; simp
          have HFEW : Hid (p ≤ 1003 ∧ q ≤ 1003) := Lib.hid FEW
          obtain ⟨hp1, hq1⟩ := HFEW.out
          obtain ⟨hkx, hky⟩ := KFEW
          go_quiet (fail)
          go_wp2_with fail
          have HTZ0 := Lib.hid tz
          have HTX0 := Lib.hid tx
          have HTY0 := Lib.hid ty
          go_loopw [12] (fun i wr => ∃ k : Nat, 1 ≤ k ∧ k ≤ p + q + 1 ∧ i = .int .i64 k ∧ Hid (Ext w7 wr)) (fun i _ => p + q + 1 - (intOf i).toNat)
          case atStart => exact ⟨1, Nat.le_refl _, by omega, rfl, Lib.hid ⟨rfl, rfl, rfl, Nat.le_refl _, fun _ _ => rfl⟩⟩
          case round =>
            obtain ⟨k, hk1, hk, rfl, HX⟩ := hrel
            obtain ⟨wa, rfl⟩ : ∃ wa : World, wa = wr := ⟨_, rfl⟩
            have tz := (HX.out.cell (p := ⟨w7a.heap.size, 0, none⟩) HBTw7.out.lt).trans tz
            have tx := (HX.out.cell (p := ⟨w2a.heap.size, 0, none⟩) HBTw2.out.lt).trans tx
            have ty := (HX.out.cell (p := ⟨w3a.heap.size, 0, none⟩) HBTw3.out.lt).trans ty
            by_cases hlt : k < p + q + 1
            · have hkz : k < nh7.length := by rw [HLZ.out]; exact hlt
              have hcl : ∀ j, j < 5 → wa.cell? ⟨bz, oz + (k * 5 + j), none⟩ = (ncell nh7[k])[j]? := fun j hj => (HX.out.cell (p := ⟨bz, oz + (k * 5 + j), none⟩) hbz).trans (HCZ.out k hkz j hj)
              obtain ⟨t, HT⟩ : ∃ t, Hid (nh7[k] = t) := ⟨_, Lib.hid rfl⟩
              rw [HT.out] at hcl
              have hcl' : ∀ j, j < 5 → wa.cell? ⟨bz, oz + k * 5 + j, none⟩ = (ncell t)[j]? := fun j hj => by rw [Nat.add_assoc]; exact hcl j hj
              clear hcl
              obtain ⟨⟨tk, tp, tt, tn, tks⟩, ta, tc⟩ := t
              have c0 : wa.cell? ⟨bz, oz + k * 5, none⟩ = some (.int .u8 (tk : Int)) := hcl' 0 (by omega)
              have c1 : wa.cell? ⟨bz, oz + k * 5 + 1, none⟩ = some (.int .i64 (tp : Int)) := hcl' 1 (by omega)
              have c2' : wa.cell? ⟨bz, oz + k * 5 + 2, none⟩ = some (.string (bstr tt)) := hcl' 2 (by omega)
              have c3' : wa.cell? ⟨bz, oz + k * 5 + 3, none⟩ = some (.int .i64 tn) := hcl' 3 (by omega)
              have c4' : wa.cell? ⟨bz, oz + k * 5 + 4, none⟩ = some (.slice ta tks.length tc) := hcl' 4 (by omega)
              have q0 : (k : Int) < (p : Int) + (q : Int) + 1 := by omega
              have HX5 : Hid (Ext w7 ((wa.alloc (.cells #[.int .u8 (tk : Int), .int .i64 (tp : Int), .string (bstr tt), .int .i64 tn, .slice ta tks.length tc] 50)).alloc (.cells #[.int .u8 0, .int .i64 0, .string { data := #[] }, .int .i64 0, .slice none 0 0] 50))) := Lib.hid ((HX.out.trans (Ext.alloc _ _)).trans (Ext.alloc _ _))
              have HB4 : Hid (Blk ((wa.alloc (.cells #[.int .u8 (tk : Int), .int .i64 (tp : Int), .string (bstr tt), .int .i64 tn, .slice ta tks.length tc] 50)).alloc (.cells #[.int .u8 0, .int .i64 0, .string { data := #[] }, .int .i64 0, .slice none 0 0] 50)) wa.heap.size 50 #[.int .u8 (tk : Int), .int .i64 (tp : Int), .string (bstr tt), .int .i64 tn, .slice ta tks.length tc]) := Lib.hid ((Blk.new _ _ _).alloc _)
              have HB5 : Hid (Blk ((wa.alloc (.cells #[.int .u8 (tk : Int), .int .i64 (tp : Int), .string (bstr tt), .int .i64 tn, .slice ta tks.length tc] 50)).alloc (.cells #[.int .u8 0, .int .i64 0, .string { data := #[] }, .int .i64 0, .slice none 0 0] 50)) (wa.heap.size + 1) 50 #[.int .u8 0, .int .i64 0, .string { data := #[] }, .int .i64 0, .slice none 0 0]) := Lib.hid (Blk.newAt2 (by simp))
              have HSZ : Hid (w7.heap.size ≤ wa.heap.size) := Lib.hid HX.out.size
              clear hcl'
              go_upto_region 16 with fail
              generalize (wa.alloc (.cells #[.int .u8 (tk : Int), .int .i64 (tp : Int), .string (bstr tt), .int .i64 tn, .slice ta tks.length tc] 50)).alloc (.cells #[.int .u8 0, .int .i64 0, .string { data := #[] }, .int .i64 0, .slice none 0 0] 50) = w5' at *
              clear tz tx ty c0 c1 c2' c3' c4' HX
              generalize wa.heap.size = g at *
              have tz := (HX5.out.cell (p := ⟨w7a.heap.size, 0, none⟩) HBTw7.out.lt).trans HTZ0.out
              have tx := (HX5.out.cell (p := ⟨w2a.heap.size, 0, none⟩) HBTw2.out.lt).trans HTX0.out
              have ty := (HX5.out.cell (p := ⟨w3a.heap.size, 0, none⟩) HBTw3.out.lt).trans HTY0.out
              by_cases hkp : k < p + 1
              · have q1 : (k : Int) < (p : Int) + 1 := by omega
                have hkx : k < nh2.length := by rw [HLX.out]; exact hkp
                have hcl : ∀ j, j < 5 → w5'.cell? ⟨bx, ox + k * 5 + j, none⟩ = (ncell nh2[k])[j]? := fun j hj => by rw [Nat.add_assoc]; exact (HX5.out.cell (p := ⟨bx, ox + (k * 5 + j), none⟩) hbx).trans (HCX.out k hkx j hj)
                have hze := HZX.out k hk1 hkp hkz hkx
                rw [HT.out] at hze
                obtain ⟨u, HU⟩ : ∃ u, Hid (nh2[k] = u) := ⟨_, Lib.hid rfl⟩
                rw [HU.out] at hcl hze
                obtain ⟨un, ua, uc⟩ := u
                dsimp only at hze
                subst hze
                have c0 : w5'.cell? ⟨bx, ox + k * 5, none⟩ = some (.int .u8 (tk : Int)) := hcl 0 (by omega)
                have c1 : w5'.cell? ⟨bx, ox + k * 5 + 1, none⟩ = some (.int .i64 (tp : Int)) := hcl 1 (by omega)
                have c2' : w5'.cell? ⟨bx, ox + k * 5 + 2, none⟩ = some (.string (bstr tt)) := hcl 2 (by omega)
                have c3' : w5'.cell? ⟨bx, ox + k * 5 + 3, none⟩ = some (.int .i64 tn) := hcl 3 (by omega)
                have c4' : w5'.cell? ⟨bx, ox + k * 5 + 4, none⟩ = some (.slice ua tks.length uc) := hcl 4 (by omega)
                have e0 : w5'.cell? ⟨g + 1, 0, none⟩ = some (.int .u8 0) := HB5.out.cell 0
                have e1 : w5'.cell? ⟨g + 1, 1, none⟩ = some (.int .i64 0) := HB5.out.cell 1
                have e2 : w5'.cell? ⟨g + 1, 2, none⟩ = some (.string { data := #[] }) := HB5.out.cell 2
                have e3 : w5'.cell? ⟨g + 1, 3, none⟩ = some (.int .i64 0) := HB5.out.cell 3
                have e4 : w5'.cell? ⟨g + 1, 4, none⟩ = some (.slice none 0 0) := HB5.out.cell 4
                have z0' := HB5.out.frozen 0
                have z1' := HB5.out.frozen 1
                have z2' := HB5.out.frozen 2
                have z3' := HB5.out.frozen 3
                have z4' := HB5.out.frozen 4
                clear hcl
                go_upto_region 20 with fail
                have hg7 : w7.heap.size ≤ g + 1 := by have := HSZ.out; omega
                have HB6 : Hid (Blk (((((w5'.setCell ⟨g + 1, 0, none⟩ (.int .u8 (tk : Int))).setCell ⟨g + 1, 1, none⟩ (.int .i64 (tp : Int))).setCell ⟨g + 1, 2, none⟩ (.string (bstr tt))).setCell ⟨g + 1, 3, none⟩ (.int .i64 tn)).setCell ⟨g + 1, 4, none⟩ (.slice ua tks.length uc)) (g + 1) 50 #[.int .u8 (tk : Int), .int .i64 ((tp : Int)), .string (bstr tt), .int .i64 tn, .slice ua tks.length uc]) := Lib.hid (((((HB5.out.put 0 (.int .u8 (tk : Int))).put 1 (.int .i64 (tp : Int))).put 2 (.string (bstr tt))).put 3 (.int .i64 tn)).put 4 (.slice ua tks.length uc))
                have HB7 : Hid (Blk (((((w5'.setCell ⟨g + 1, 0, none⟩ (.int .u8 (tk : Int))).setCell ⟨g + 1, 1, none⟩ (.int .i64 (tp : Int))).setCell ⟨g + 1, 2, none⟩ (.string (bstr tt))).setCell ⟨g + 1, 3, none⟩ (.int .i64 tn)).setCell ⟨g + 1, 4, none⟩ (.slice ua tks.length uc)) g 50 #[.int .u8 (tk : Int), .int .i64 (tp : Int), .string (bstr tt), .int .i64 tn, .slice ta tks.length tc]) := Lib.hid (((((HB4.out.far (p := ⟨g + 1, 0, none⟩) (by simp) (.int .u8 (tk : Int))).far (p := ⟨g + 1, 1, none⟩) (by simp) (.int .i64 (tp : Int))).far (p := ⟨g + 1, 2, none⟩) (by simp) (.string (bstr tt))).far (p := ⟨g + 1, 3, none⟩) (by simp) (.int .i64 tn)).far (p := ⟨g + 1, 4, none⟩) (by simp) (.slice ua tks.length uc))
                have HX6 : Hid (Ext w7 (((((w5'.setCell ⟨g + 1, 0, none⟩ (.int .u8 (tk : Int))).setCell ⟨g + 1, 1, none⟩ (.int .i64 (tp : Int))).setCell ⟨g + 1, 2, none⟩ (.string (bstr tt))).setCell ⟨g + 1, 3, none⟩ (.int .i64 tn)).setCell ⟨g + 1, 4, none⟩ (.slice ua tks.length uc))) := Lib.hid (((((HX5.out.set (g := g + 1) (i := 0) (u := .int .u8 (tk : Int)) hg7).set (g := g + 1) (i := 1) (u := .int .i64 (tp : Int)) hg7).set (g := g + 1) (i := 2) (u := .string (bstr tt)) hg7).set (g := g + 1) (i := 3) (u := .int .i64 tn) hg7).set (g := g + 1) (i := 4) (u := .slice ua tks.length uc) hg7)
                generalize (((((w5'.setCell ⟨g + 1, 0, none⟩ (.int .u8 (tk : Int))).setCell ⟨g + 1, 1, none⟩ (.int .i64 (tp : Int))).setCell ⟨g + 1, 2, none⟩ (.string (bstr tt))).setCell ⟨g + 1, 3, none⟩ (.int .i64 tn)).setCell ⟨g + 1, 4, none⟩ (.slice ua tks.length uc)) = w6' at *
                clear e0 e1 e2 e3 e4 z0' z1' z2' z3' z4' c0 c1 c2' c3' c4' HB4 HB5 HX5
                have e0' : w6'.cell? ⟨g + 1, 0, none⟩ = some (.int .u8 (tk : Int)) := HB6.out.cell 0
                have e1' : w6'.cell? ⟨g + 1, 1, none⟩ = some (.int .i64 ((tp : Int))) := HB6.out.cell 1
                have e2' : w6'.cell? ⟨g + 1, 2, none⟩ = some (.string (bstr tt)) := HB6.out.cell 2
                have e3' : w6'.cell? ⟨g + 1, 3, none⟩ = some (.int .i64 tn) := HB6.out.cell 3
                have e4' : w6'.cell? ⟨g + 1, 4, none⟩ = some (.slice ua tks.length uc) := HB6.out.cell 4
                have d0' : w6'.cell? ⟨g, 0, none⟩ = some (.int .u8 (tk : Int)) := HB7.out.cell 0
                have d1' : w6'.cell? ⟨g, 1, none⟩ = some (.int .i64 (tp : Int)) := HB7.out.cell 1
                have d2' : w6'.cell? ⟨g, 2, none⟩ = some (.string (bstr tt)) := HB7.out.cell 2
                have d3' : w6'.cell? ⟨g, 3, none⟩ = some (.int .i64 tn) := HB7.out.cell 3
                have d4' : w6'.cell? ⟨g, 4, none⟩ = some (.slice ta tks.length tc) := HB7.out.cell 4
                go_wp2_with fail
                go_roundw
                case rel => exact ⟨k + 1, by omega, by omega, by go_num, Lib.hid (Below.trans HX6.out ⟨rfl, rfl, rfl, Nat.le_refl _, fun _ _ => rfl⟩)⟩
                case measure => simp [intOf]; omega
              · obtain ⟨j, rfl⟩ : ∃ j, k = p + j := ⟨k - p, by omega⟩
                have hj1 : 1 ≤ j := by omega
                have hjq : j < q + 1 := by omega
                have q1 : ¬ ((p : Int) + (j : Int) < (p : Int) + 1) := by omega
                have hky' : j < nh3.length := by rw [HLY.out]; exact hjq
                have hcl : ∀ i, i < 5 → w5'.cell? ⟨by_, oy + j * 5 + i, none⟩ = (ncell nh3[j])[i]? := fun i hi => by rw [Nat.add_assoc]; exact (HX5.out.cell (p := ⟨by_, oy + (j * 5 + i), none⟩) hby).trans (HCY.out j hky' i hi)
                have hze := HZY.out j hj1 hjq hkz hky'
                have hlo := HLOW2.out j hky'
                have hidx : ((p : Int) + (j : Int) - ((p : Int) + 1) + 1).toNat = j := by omega
                have q2 : (j : Int) < (q : Int) + 1 := by omega
                have q3 : (p : Int) + (j : Int) - ((p : Int) + 1) + 1 < (q : Int) + 1 := by omega
                rw [HT.out] at hze
                obtain ⟨u, HU⟩ : ∃ u, Hid (nh3[j] = u) := ⟨_, Lib.hid rfl⟩
                rw [HU.out] at hcl hze hlo
                obtain ⟨⟨uk, up, ut, unn, uks⟩, ua, uc⟩ := u
                unfold Cx.mv at hze
                dsimp only at hze hlo
                injection hze with z1 z2 z3 z4 z5
                subst z1 z3 z4
                have HKL : Hid (tks.length = uks.length) := Lib.hid (by rw [z5, List.length_map])
                have HTP : Hid ((tp : Int) = (up : Int) + (l.length : Int) + 1) := Lib.hid (by rw [z2, HPH.out]; omega)
                rw [HKL.out] at HB4
                clear z2 z5
                have c0 : w5'.cell? ⟨by_, oy + j * 5, none⟩ = some (.int .u8 (tk : Int)) := hcl 0 (by omega)
                have c1 : w5'.cell? ⟨by_, oy + j * 5 + 1, none⟩ = some (.int .i64 (up : Int)) := hcl 1 (by omega)
                have c2' : w5'.cell? ⟨by_, oy + j * 5 + 2, none⟩ = some (.string (bstr tt)) := hcl 2 (by omega)
                have c3' : w5'.cell? ⟨by_, oy + j * 5 + 3, none⟩ = some (.int .i64 tn) := hcl 3 (by omega)
                have c4' : w5'.cell? ⟨by_, oy + j * 5 + 4, none⟩ = some (.slice ua uks.length uc) := hcl 4 (by omega)
                have e0 : w5'.cell? ⟨g + 1, 0, none⟩ = some (.int .u8 0) := HB5.out.cell 0
                have e1 : w5'.cell? ⟨g + 1, 1, none⟩ = some (.int .i64 0) := HB5.out.cell 1
                have e2 : w5'.cell? ⟨g + 1, 2, none⟩ = some (.string { data := #[] }) := HB5.out.cell 2
                have e3 : w5'.cell? ⟨g + 1, 3, none⟩ = some (.int .i64 0) := HB5.out.cell 3
                have e4 : w5'.cell? ⟨g + 1, 4, none⟩ = some (.slice none 0 0) := HB5.out.cell 4
                have z0' := HB5.out.frozen 0
                have z1' := HB5.out.frozen 1
                have z2' := HB5.out.frozen 2
                have z3' := HB5.out.frozen 3
                have z4' := HB5.out.frozen 4
                clear hcl
                go_upto_region 20 with fail
                have hg7 : w7.heap.size ≤ g + 1 := by have := HSZ.out; omega
                have HB6 : Hid (Blk ((((((w5'.setCell ⟨g + 1, 0, none⟩ (.int .u8 (tk : Int))).setCell ⟨g + 1, 1, none⟩ (.int .i64 (up : Int))).setCell ⟨g + 1, 2, none⟩ (.string (bstr tt))).setCell ⟨g + 1, 3, none⟩ (.int .i64 tn)).setCell ⟨g + 1, 4, none⟩ (.slice ua uks.length uc)).setCell ⟨g + 1, 1, none⟩ (.int .i64 ((up : Int) + (l.length : Int) + 1))) (g + 1) 50 #[.int .u8 (tk : Int), .int .i64 ((up : Int) + (l.length : Int) + 1), .string (bstr tt), .int .i64 tn, .slice ua uks.length uc]) := Lib.hid ((((((HB5.out.put 0 (.int .u8 (tk : Int))).put 1 (.int .i64 (up : Int))).put 2 (.string (bstr tt))).put 3 (.int .i64 tn)).put 4 (.slice ua uks.length uc)).put 1 (.int .i64 ((up : Int) + (l.length : Int) + 1)))
                have HB7 : Hid (Blk ((((((w5'.setCell ⟨g + 1, 0, none⟩ (.int .u8 (tk : Int))).setCell ⟨g + 1, 1, none⟩ (.int .i64 (up : Int))).setCell ⟨g + 1, 2, none⟩ (.string (bstr tt))).setCell ⟨g + 1, 3, none⟩ (.int .i64 tn)).setCell ⟨g + 1, 4, none⟩ (.slice ua uks.length uc)).setCell ⟨g + 1, 1, none⟩ (.int .i64 ((up : Int) + (l.length : Int) + 1))) g 50 #[.int .u8 (tk : Int), .int .i64 (tp : Int), .string (bstr tt), .int .i64 tn, .slice ta uks.length tc]) := Lib.hid ((((((HB4.out.far (p := ⟨g + 1, 0, none⟩) (by simp) (.int .u8 (tk : Int))).far (p := ⟨g + 1, 1, none⟩) (by simp) (.int .i64 (up : Int))).far (p := ⟨g + 1, 2, none⟩) (by simp) (.string (bstr tt))).far (p := ⟨g + 1, 3, none⟩) (by simp) (.int .i64 tn)).far (p := ⟨g + 1, 4, none⟩) (by simp) (.slice ua uks.length uc)).far (p := ⟨g + 1, 1, none⟩) (by simp) (.int .i64 ((up : Int) + (l.length : Int) + 1)))
                have HX6 : Hid (Ext w7 ((((((w5'.setCell ⟨g + 1, 0, none⟩ (.int .u8 (tk : Int))).setCell ⟨g + 1, 1, none⟩ (.int .i64 (up : Int))).setCell ⟨g + 1, 2, none⟩ (.string (bstr tt))).setCell ⟨g + 1, 3, none⟩ (.int .i64 tn)).setCell ⟨g + 1, 4, none⟩ (.slice ua uks.length uc)).setCell ⟨g + 1, 1, none⟩ (.int .i64 ((up : Int) + (l.length : Int) + 1)))) := Lib.hid ((((((HX5.out.set (g := g + 1) (i := 0) (u := .int .u8 (tk : Int)) hg7).set (g := g + 1) (i := 1) (u := .int .i64 (up : Int)) hg7).set (g := g + 1) (i := 2) (u := .string (bstr tt)) hg7).set (g := g + 1) (i := 3) (u := .int .i64 tn) hg7).set (g := g + 1) (i := 4) (u := .slice ua uks.length uc) hg7).set (g := g + 1) (i := 1) (u := .int .i64 ((up : Int) + (l.length : Int) + 1)) hg7)
                generalize ((((((w5'.setCell ⟨g + 1, 0, none⟩ (.int .u8 (tk : Int))).setCell ⟨g + 1, 1, none⟩ (.int .i64 (up : Int))).setCell ⟨g + 1, 2, none⟩ (.string (bstr tt))).setCell ⟨g + 1, 3, none⟩ (.int .i64 tn)).setCell ⟨g + 1, 4, none⟩ (.slice ua uks.length uc)).setCell ⟨g + 1, 1, none⟩ (.int .i64 ((up : Int) + (l.length : Int) + 1))) = w6' at *
                clear e0 e1 e2 e3 e4 z0' z1' z2' z3' z4' c0 c1 c2' c3' c4' HB4 HB5 HX5
                have e0' : w6'.cell? ⟨g + 1, 0, none⟩ = some (.int .u8 (tk : Int)) := HB6.out.cell 0
                have e1' : w6'.cell? ⟨g + 1, 1, none⟩ = some (.int .i64 ((up : Int) + (l.length : Int) + 1)) := HB6.out.cell 1
                have e2' : w6'.cell? ⟨g + 1, 2, none⟩ = some (.string (bstr tt)) := HB6.out.cell 2
                have e3' : w6'.cell? ⟨g + 1, 3, none⟩ = some (.int .i64 tn) := HB6.out.cell 3
                have e4' : w6'.cell? ⟨g + 1, 4, none⟩ = some (.slice ua uks.length uc) := HB6.out.cell 4
                have d0' : w6'.cell? ⟨g, 0, none⟩ = some (.int .u8 (tk : Int)) := HB7.out.cell 0
                have d1' : w6'.cell? ⟨g, 1, none⟩ = some (.int .i64 (tp : Int)) := HB7.out.cell 1
                have d2' : w6'.cell? ⟨g, 2, none⟩ = some (.string (bstr tt)) := HB7.out.cell 2
                have d3' : w6'.cell? ⟨g, 3, none⟩ = some (.int .i64 tn) := HB7.out.cell 3
                have d4' : w6'.cell? ⟨g, 4, none⟩ = some (.slice ta uks.length tc) := HB7.out.cell 4
                have n1 : ((tp : Int) != (up : Int) + (l.length : Int) + 1) = false := by rw [HTP.out]; simp
                go_wp2_with fail
                go_roundw
                case rel => exact ⟨p + j + 1, by omega, by omega, by go_num, Lib.hid (Below.trans HX6.out ⟨rfl, rfl, rfl, Nat.le_refl _, fun _ _ => rfl⟩)⟩
                case measure => simp [intOf]; omega
            · obtain rfl : k = p + q + 1 := by omega
              go_wp2_with fail
              refine (works5_any wa (HG.out.ext (HX7.out.trans HX.out))).mono ?_
              rintro e w8 ⟨rfl, hx8⟩
              go_wp2_with fail
              go_ret
              exact ⟨rfl, (HX7.out.trans HX.out).trans hx8⟩
end Go.Proofs.YtcccnicldbpieaaGreatDoor
