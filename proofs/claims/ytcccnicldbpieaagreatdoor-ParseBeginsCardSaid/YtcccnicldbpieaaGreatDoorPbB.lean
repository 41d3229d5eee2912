/- interlocklaw05.ParseBegins, walked: always true. Condition: errors.errorType reads as the program's text lays it. -/
import Derived.Test.YtcccnicldbpieaaGreatDoorPwB
import Derived.Test.YtcccnicldbpieaaGreatDoorPbA
import Derived.Deep.QuietTactic
namespace Go.Proofs.YtcccnicldbpieaaGreatDoor
open Go Go.RowKit
set_option linter.unusedVariables false
set_option linter.unusedSimpArgs false
theorem Cells.take {w : World} {A : Option Addr} {cs : List Value} (h : Cells w A cs) (n : Nat) : Cells w A (cs.take n) := by
  rcases h with rfl | ⟨b, off, hA, hb, hc⟩
  · exact .inl (by simp)
  · refine .inr ⟨b, off, hA, hb, fun k hk => ?_⟩
    rw [List.length_take] at hk
    rw [hc k (by omega), List.getElem?_take_of_lt (by omega)]
theorem kcells_atB (l : List Tok) (k : Nat) (h : k < l.length) : ∀ j, j < 5 → (kcells l)[k * 5 + j]? = (kcell l[k])[j]? := by
  induction l generalizing k with
  | nil => simp at h
  | cons t l ih =>
    intro j hj
    show (kcell t ++ kcells l)[k * 5 + j]? = _
    cases k with
    | zero => rw [List.getElem?_append_left (by show 0 * 5 + j < 5; omega)]; simp
    | succ k =>
      rw [List.getElem?_append_right (by show 5 ≤ _; omega)]
      have := ih k (by simpa using h) j hj
      rw [show (k + 1) * 5 + j - (kcell t).length = k * 5 + j from by show _ - 5 = _; omega]
      simpa using this
theorem bcells_take (l : Bs) (n : Nat) : (bcells l).take n = bcells (l.take n) := by simp [bcells, List.map_take]
theorem pick_num (i : Int) (n : Nat) (h0 : 0 < n) (hn : n ≤ 2000) : ∃ k : Nat, k < n ∧ (wrap64 (i.tmod n + n)).tmod n = (k : Int) := by
  have h1 := Int.tmod_lt_of_pos i (show (0 : Int) < n by omega)
  have h2 := Int.lt_tmod_of_pos i (show (0 : Int) < n by omega)
  have hw : wrap64 (i.tmod n + n) = i.tmod n + n := by
    generalize i.tmod n = x at *
    unfold wrap64
    omega
  rw [hw]
  have h3 := Int.tmod_lt_of_pos (i.tmod n + n) (show (0 : Int) < n by omega)
  have h4 := Int.tmod_nonneg (n : Int) (show 0 ≤ i.tmod n + n by omega)
  exact ⟨((i.tmod n + n).tmod n).toNat, by omega, by omega⟩
set_option maxHeartbeats 1000000 in
/-- Pick: some place of the row. -/
theorem pick_any (i : Int) (n : Nat) (w : World) (h0 : 0 < n) (hn : n ≤ 2000) : Calls Tryz.prog 16 #[.int .i64 i, .int .i64 (n : Int)] w fun e w' => (∃ k, k < n ∧ e = .returned (.int .i64 (k : Int))) ∧ w = w' := by
  have d0 : decide ((n : Int) ≤ 0) = false := decide_eq_false (by omega)
  obtain ⟨k, hk, HK⟩ : ∃ k, k < n ∧ Hid ((wrap64 (i.tmod n + n)).tmod n = (k : Int)) := let ⟨k, h1, h2⟩ := pick_num i n h0 hn; ⟨k, h1, Lib.hid h2⟩
  go_enter Tryz.func16, Tryz.ntmps16
  go_wp2_with fail
  rw [HK.out]
  go_ret
  exact ⟨⟨k, hk, rfl⟩, rfl⟩
/-- Parse, whatever it answers. -/
theorem parse_what (A : Option Addr) (l : Bs) (n c : Nat) (w : World) (hn : n = l.length) (hbig : l.length ≤ 140737488355328) (hcap : l.length ≤ c) (hnil : A = none → c = 0) (h : Cells w A (bcells l)) :
    Calls Tryz.prog 9 #[.slice A n c] w fun e w' => ∃ A' n' c' ev, e = .returned (.tuple #[.agg #[.slice A' n' c'], ev]) ∧ Ext w w' ∧ ((ev = .nilIface ∧ ∃ y, parseS l = .ok y) ∨ ∃ g a er, ev = .iface 70 (.pointer (some ⟨g, 0, none⟩)) ∧ parseS l = .err a er ∧ Blk w' g 74 #[.int .i64 (a : Int), .int .i64 (lineN l a), .int .i64 (colN l a), .int .i64 er]) := by
  refine (parse_any A l n c w hn hbig hcap hnil h).mono ?_
  rintro e w' ⟨hx, h⟩
  cases hr : parseS l with
  | ok nd =>
    rw [hr] at h
    obtain ⟨A', c', nh, h1, _⟩ := h
    exact ⟨A', _, c', _, h1, hx, .inl ⟨rfl, nd, rfl⟩⟩
  | err a er =>
    rw [hr] at h
    obtain ⟨g, h1, _, h3⟩ := h
    exact ⟨_, _, _, _, h1, hx, .inr ⟨g, a, er, rfl, rfl, h3⟩⟩
/-- Lex, whatever it answers. -/
theorem lex_what (A : Option Addr) (l : Bs) (n c : Nat) (w : World) (hn : n = l.length) (hbig : l.length ≤ 140737488355328) (hcap : l.length ≤ c) (hnil : A = none → c = 0) (h : Cells w A (bcells l)) :
    Calls Tryz.prog 15 #[.slice A n c] w fun e w' => ∃ A' n' c' ev, e = .returned (.tuple #[.slice A' n' c', ev]) ∧ Ext w w' ∧ (ev = .nilIface ∨ ∃ g, ev = .iface 70 (.pointer (some ⟨g, 0, none⟩))) := by
  refine (lex_any A l n c w hn hbig hcap hnil h).mono ?_
  rintro e w' ⟨hx, h⟩
  cases hr : lexS l with
  | ok ts =>
    rw [hr] at h
    obtain ⟨A', c', h1, _⟩ := h
    exact ⟨A', _, c', _, h1, hx, .inl rfl⟩
  | err a er =>
    rw [hr] at h
    obtain ⟨g, h1, _⟩ := h
    exact ⟨_, _, _, _, h1, hx, .inr ⟨g, rfl⟩⟩
set_option maxHeartbeats 8000000 in
set_option maxRecDepth 100000 in
theorem parseBegins_any (A : Option Addr) (l : Bs) (n c : Nat) (i : Int) (w : World) (hG : GT w) (hn : n = l.length) (hcap : l.length ≤ c) (hnil : A = none → c = 0) (h : Cells w A (bcells l)) :
    Calls Tryz.prog 4 #[.slice A n c, .int .i64 i] w fun e w' => e = .returned (.bool true) ∧ Ext w w' := by
  subst hn
  have HG := Lib.hid hG
  have HC := Lib.hid h
  clear hG h
  by_cases h500 : 1000 < l.length
  · have d0 : decide ((1000 : Int) < (l.length : Int)) = true := decide_eq_true (by omega)
    go_enter Tryz.func4, Tryz.ntmps4
    go_wp2_with fail
    refine (works5_any w HG.out).mono ?_
    rintro e w' ⟨rfl, hx⟩
    go_wp2_with fail
    go_ret
    exact ⟨rfl, hx⟩
  · have d0 : decide ((1000 : Int) < (l.length : Int)) = false := decide_eq_false (by omega)
    cases hr : parseS l with
    | err a er =>
      have HRA := Lib.hid hr
      clear hr
      go_enter Tryz.func4, Tryz.ntmps4
      go_wp2_with fail
      refine (parse_err A l l.length c w rfl (by omega) hcap hnil HC.out a er HRA.out).mono ?_
      rintro e w2a ⟨g2, rfl, _, _, hx2⟩
      have HX2a := Lib.hid hx2
      clear hx2
      go_upto_region 4 with fail
      have hxt : Ext w2a (w2a.alloc (.cells #[.slice none 0 0] 26)) := Ext.alloc _ _
      have HX2 := Lib.hid (HX2a.out.trans hxt)
      clear hxt
      generalize w2a.alloc (.cells #[.slice none 0 0] 26) = w2 at *
      go_wp2_with fail
      refine (lex_what A l l.length c w2 rfl (by omega) hcap hnil (HC.out.ext HX2.out)).mono ?_
      rintro e w3 ⟨A3, n3, c3, ev3, rfl, hx3, hev3⟩
      have HX3 := Lib.hid (HX2.out.trans hx3)
      clear hx3
      go_wp2_with fail
      refine (works5_any w3 (HG.out.ext HX3.out)).mono ?_
      rintro e w8 ⟨rfl, hx8⟩
      go_wp2_with fail
      go_ret
      exact ⟨rfl, HX3.out.trans hx8⟩
    | ok x =>
      obtain ⟨ts, ht1, ht2, _⟩ := parseS_ok hr
      have HRA := Lib.hid hr
      have hlx : lexS l = .ok ts := by rw [lexS_of (by omega)]; exact ht1
      have HLX := Lib.hid hlx
      have htl := (lexL_size ts 0 l ht1).1
      have ht0 : 0 < ts.length := List.length_pos_iff.2 (lexL_ne ht1)
      have HBP : Hid (∀ k (hk : k < ts.length), ts[k].at_ ≤ l.length ∧ ((∃ x, parseS (l.take ts[k].at_) = .ok x) ∨ parseS (l.take ts[k].at_) = .err ts[k].at_ 50)) := Lib.hid fun k hk => begins_plain ht1 ht2 (by omega) k hk
      clear hr hlx ht1 ht2
      go_enter Tryz.func4, Tryz.ntmps4
      go_wp2_with fail
      refine (parse_ok A l l.length c w rfl (by omega) hcap hnil HC.out x HRA.out).mono ?_
      rintro e w2a ⟨A2, c2, nh2, rfl, _, _, hx2⟩
      have HX2a := Lib.hid hx2
      clear hx2
      go_upto_region 4 with fail
      have hxt : Ext w2a (w2a.alloc (.cells #[.slice A2 nh2.length c2] 26)) := Ext.alloc _ _
      have HX2 := Lib.hid (HX2a.out.trans hxt)
      clear hxt
      generalize w2a.alloc (.cells #[.slice A2 nh2.length c2] 26) = w2 at *
      go_wp2_with fail
      refine (lex_any A l l.length c w2 rfl (by omega) hcap hnil (HC.out.ext HX2.out)).mono ?_
      rw [HLX.out]
      rintro e w3 ⟨hx3, A3, c3, rfl, _, ho3⟩
      have HX3 := Lib.hid (HX2.out.trans hx3)
      have HC3 := Lib.hid (Cells.own ho3)
      clear hx3 ho3
      have d1 : ((ts.length : Int) == 0) = false := by rw [beq_eq_false_iff_ne]; omega
      go_wp2_with fail
      refine (pick_any i ts.length w3 ht0 (by omega)).mono ?_
      rintro e w4 ⟨⟨k, hk, rfl⟩, rfl⟩
      obtain ⟨b3, off3, hA3, hbs3, hc3⟩ := HC3.out.at_ (by rw [kcells_len]; omega)
      subst hA3
      have hcl : ∀ j, j < 5 → w3.cell? ⟨b3, off3 + k * 5 + j, none⟩ = (kcell ts[k])[j]? := fun j hj => by
        rw [Nat.add_assoc, hc3 _ (by rw [kcells_len]; omega)]
        exact kcells_atB ts k hk j hj
      have hbp := HBP.out k hk
      obtain ⟨hat, hor⟩ := hbp
      have HOR := Lib.hid hor
      clear hor
      obtain ⟨at0, HAT⟩ : ∃ a, Hid (ts[k].at_ = a) := ⟨_, Lib.hid rfl⟩
      have c1 : w3.cell? ⟨b3, off3 + k * 5 + 1, none⟩ = some (.int .i64 (at0 : Int)) := by rw [← HAT.out]; exact hcl 1 (by omega)
      rw [HAT.out] at hat HOR
      clear hcl hc3
      have q0 : (k : Int) < (ts.length : Int) := by omega
      have q1 : (at0 : Int) ≤ (c : Int) := by omega
      have q2 : at0 ≤ c := by omega
      have HP : Hid (Cells w3 A (bcells (l.take at0))) := Lib.hid (by rw [← bcells_take]; exact (HC.out.ext HX3.out).take _)
      have hpl : (l.take at0).length = at0 := by rw [List.length_take]; omega
      go_upto_region 11 with fail
      cases hp : parseS (l.take at0) with
      | ok y =>
        have HRB := Lib.hid hp
        clear hp HOR
        go_wp2_with fail
        refine (parse_ok A (l.take at0) at0 c w3 hpl.symm (by omega) (by omega) hnil HP.out y HRB.out).mono ?_
        rintro e w5a ⟨A5, c5, nh5, rfl, _, _, hx5⟩
        have HX5a := Lib.hid (HX3.out.trans hx5)
        clear hx5
        go_upto_region 12 with fail
        have hxt : Ext w5a (w5a.alloc (.cells #[.slice A5 nh5.length c5] 26)) := Ext.alloc _ _
        have HX5 := Lib.hid (HX5a.out.trans hxt)
        clear hxt
        generalize w5a.alloc (.cells #[.slice A5 nh5.length c5] 26) = w5 at *
        go_wp2_with fail
        refine (place_nil w5).mono ?_
        rintro e w6 ⟨rfl, hx6⟩
        have HX6 := Lib.hid (HX5.out.trans hx6)
        clear hx6
        unfold noPlace
        go_wp2_with fail
        refine (works5_any w6 (HG.out.ext HX6.out)).mono ?_
        rintro e w8 ⟨rfl, hx8⟩
        go_wp2_with fail
        go_ret
        exact ⟨rfl, HX6.out.trans hx8⟩
      | err a er =>
        have hor := HOR.out
        rw [hp] at hor
        have hae : a = at0 ∧ er = 50 := by
          rcases hor with ⟨_, h⟩ | h
          · cases h
          · injection h with h1 h2
            exact ⟨h1, h2⟩
        obtain ⟨rfl, rfl⟩ := hae
        have HRB := Lib.hid hp
        clear hp hor HOR
        go_wp2_with fail
        refine (parse_err A (l.take a) a c w3 hpl.symm (by omega) (by omega) hnil HP.out a 50 HRB.out).mono ?_
        rintro e w5a ⟨g5, rfl, _, hb5, hx5⟩
        have HX5a := Lib.hid (HX3.out.trans hx5)
        have HBE := Lib.hid hb5
        clear hx5 hb5
        go_upto_region 12 with fail
        have hxt : Ext w5a (w5a.alloc (.cells #[.slice none 0 0] 26)) := Ext.alloc _ _
        have HX5 := Lib.hid (HX5a.out.trans hxt)
        have HBE := Lib.hid (HBE.out.ext hxt)
        clear hxt
        generalize w5a.alloc (.cells #[.slice none 0 0] 26) = w5 at *
        go_wp2_with fail
        refine (place_at g5 (a : Int) _ _ 50 w5 (HG.out.ext HX5.out) HBE.out).mono ?_
        rintro e w6 ⟨rfl, hx6⟩
        have HX6 := Lib.hid (HX5.out.trans hx6)
        have HBE := Lib.hid (HBE.out.ext hx6)
        clear hx6
        go_wp2_with fail
        refine (code_at g5 (a : Int) _ _ 50 w6 (HG.out.ext HX6.out) HBE.out).mono ?_
        rintro e w7 ⟨rfl, hx7⟩
        have HX7 := Lib.hid (HX6.out.trans hx7)
        clear hx7
        go_wp2_with fail
        refine (works5_any w7 (HG.out.ext HX7.out)).mono ?_
        rintro e w8 ⟨rfl, hx8⟩
        go_wp2_with fail
        go_ret
        exact ⟨rfl, HX7.out.trans hx8⟩
end Go.Proofs.YtcccnicldbpieaaGreatDoor
