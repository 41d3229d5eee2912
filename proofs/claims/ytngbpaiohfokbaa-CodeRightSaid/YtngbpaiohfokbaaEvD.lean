/- code.Eval, walked: for every row of terms and every row of variables, in whatever memory; what was in memory stays. -/
import Derived.Test.YtngbpaiohfokbaaEvC
namespace Go.Proofs.Ytngbpaiohfokbaa.EV
open Go Go.RowKit
set_option linter.unusedVariables false
set_option linter.unusedSimpArgs false
/-- A term: its kind, its number, its variable. -/
abbrev TermD := Int × Int × Int
def TermD.ok (t : TermD) : Prop := (0 ≤ t.1 ∧ t.1 < 256) ∧ (-9223372036854775808 ≤ t.2.1 ∧ t.2.1 ≤ 9223372036854775807) ∧ (-9223372036854775808 ≤ t.2.2 ∧ t.2.2 ≤ 9223372036854775807)
def tcells (l : List TermD) : List Value := l.flatMap fun t => [.int .u8 t.1, .int .i64 t.2.1, .int .i64 t.2.2]
def ncells (l : List Int) : List Value := l.map (Value.int .i64)
theorem tcells_len (l : List TermD) : (tcells l).length = l.length * 3 := by
  induction l with
  | nil => rfl
  | cons t l ih => simp only [tcells, List.flatMap_cons, List.length_append, List.length_cons, List.length_nil] at ih ⊢; omega
theorem tcells_at (l : List TermD) (k : Nat) (h : k < l.length) : (tcells l)[k * 3]? = some (.int .u8 (l[k]).1) ∧ (tcells l)[k * 3 + 1]? = some (.int .i64 (l[k]).2.1) ∧ (tcells l)[k * 3 + 2]? = some (.int .i64 (l[k]).2.2) := by
  induction l generalizing k with
  | nil => simp at h
  | cons t l ih =>
    match k with
    | 0 => exact ⟨rfl, rfl, rfl⟩
    | k + 1 =>
      have h' := ih k (by simpa using h)
      have e : ∀ j, (tcells (t :: l))[(k + 1) * 3 + j]? = (tcells l)[k * 3 + j]? := by
        intro j
        rw [show (k + 1) * 3 + j = k * 3 + j + 1 + 1 + 1 from by omega]
        rfl
      refine ⟨?_, ?_, ?_⟩
      · have := e 0; simpa using this.trans h'.1
      · simpa using (e 1).trans h'.2.1
      · simpa using (e 2).trans h'.2.2
def stepN (vars : List Int) (t : TermD) (st : List Int) : Option (List Int) :=
  if t.1 = 1 then some (t.2.1 :: st)
  else if t.1 = 2 then (if 0 ≤ t.2.2 ∧ t.2.2 < vars.length then some (vars.getD t.2.2.toNat 0 :: st) else none)
  else if t.1 = 3 then (match st with | y :: x :: r => some (wrap64 (x + y) :: r) | _ => none)
  else if t.1 = 4 then (match st with | y :: x :: r => some (wrap64 (x - y) :: r) | _ => none)
  else if t.1 = 5 then (match st with | y :: x :: r => some (wrap64 (x * y) :: r) | _ => none)
  else if t.1 = 6 then (match st with | y :: r => some (wrap64 (-y) :: r) | _ => none)
  else none
def evalN (vars : List Int) : List TermD → List Int → Option (List Int)
  | [], st => some st
  | t :: l, st => (stepN vars t st).bind (evalN vars l)
def evalR (vars : List Int) (l : List TermD) : Int × Bool := match evalN vars l [] with
  | some [x] => (x, true)
  | _ => (0, false)
theorem evalN_append (vars : List Int) (l m : List TermD) (st : List Int) : evalN vars (l ++ m) st = (evalN vars l st).bind (evalN vars m) := by
  induction l generalizing st with
  | nil => rfl
  | cons t l ih =>
    simp only [List.cons_append, evalN]
    cases h : stepN vars t st with
    | none => rfl
    | some st' => simp only [Option.bind_some]; exact ih st'
theorem evalN_take (vars : List Int) (l : List TermD) (k : Nat) (h : k < l.length) (st : List Int) (he : evalN vars (l.take k) [] = some st) : evalN vars (l.take (k + 1)) [] = stepN vars l[k] st := by
  rw [List.take_succ_eq_append_getElem h, evalN_append, he]
  simp only [Option.bind_some, evalN]
  cases stepN vars l[k] st <;> rfl
theorem evalN_fail (vars : List Int) (l : List TermD) (k : Nat) (h : k < l.length) (st : List Int) (he : evalN vars (l.take k) [] = some st) (hs : stepN vars l[k] st = none) : evalR vars l = (0, false) := by
  have h1 := evalN_take vars l k h st he
  rw [hs] at h1
  have h2 := evalN_append vars (l.take (k + 1)) (l.drop (k + 1)) []
  rw [List.take_append_drop, h1] at h2
  unfold evalR
  rw [h2]
  rfl
theorem takes_v (k v : Int) (w : World) (h0 : 0 ≤ k) (h1 : k < 256) (h : Hid (takesN k = v)) :
    Calls Try.prog 46 #[.int .u8 k] w fun e w' => e = .returned (.int .i64 v) ∧ w = w' := by
  rw [← h.out]; exact takes_any k w h0 h1
theorem pile_cell {w : World} {B g : Nat} {st : List Int} (h : Pile w B g st.reverse) : ∃ A c, w.cell? ⟨g, 0, none⟩ = some (.slice A st.length c) := by
  obtain ⟨A, c, hb, _⟩ := h
  rw [List.length_reverse] at hb
  exact ⟨A, c, hb.cell 0⟩
theorem stepN_two (vars : List Int) (nn vv : Int) (st : List Int) : stepN vars (2, nn, vv) st = if 0 ≤ vv ∧ vv < vars.length then some (vars.getD vv.toNat 0 :: st) else none := rfl
theorem stepN_no (vars : List Int) (kd nn vv : Int) (st : List Int) (h1 : kd ≠ 1) (h2 : kd ≠ 2) (h3 : ¬ (kd = 3 ∨ kd = 4 ∨ kd = 5)) (h6 : kd ≠ 6) : stepN vars (kd, nn, vv) st = none := by
  unfold stepN
  rw [if_neg h1, if_neg h2, if_neg (by omega), if_neg (by omega), if_neg (by omega), if_neg h6]
theorem ret_pair {R : Int × Bool} {a : Int} {b : Bool} (h : R = (a, b)) : Ending.returned (.tuple #[.int .i64 a, .bool b]) = .returned (.tuple #[.int .i64 R.1, .bool R.2]) := by rw [h]
set_option maxHeartbeats 8000000 in
theorem eval_any (A V : Option Addr) (l : List TermD) (vars : List Int) (c d : Nat) (w : World) (hl : l.length ≤ 9000) (hv : vars.length ≤ 9000) (hA : Cells w A (tcells l)) (hV : Cells w V (ncells vars)) (hok : ∀ t ∈ l, t.ok) (hvk : ∀ n ∈ vars, -9223372036854775808 ≤ n ∧ n ≤ 9223372036854775807) :
    Calls Try.prog 29 #[.slice A l.length c, .slice V vars.length d] w fun e w' => e = .returned (.tuple #[.int .i64 (evalR vars l).1, .bool (evalR vars l).2]) ∧ Ext w w' := by
  go_enter Try.func29, Try.ntmps29
  go_wp2_with fail
  have HP : Hid (Pile (w.alloc (.cells #[.slice none 0 0] 87)) w.heap.size w.heap.size []) :=
    ⟨none, 0, Blk.new w _ _, fun _ => rfl, by simpa using World.ownsRow_nil _ _ _ _, Nat.le_refl _⟩
  have HX : Hid (Ext w (w.alloc (.cells #[.slice none 0 0] 87))) := Ext.alloc _ _
  have hg : w.heap.size < (w.alloc (.cells #[.slice none 0 0] 87)).heap.size := by simp
  have HVK := Lib.hid hvk
  have HOK := Lib.hid hok
  clear hvk hok
  have HV := Lib.hid hV
  clear hV
  generalize hgd : w.heap.size = g at *
  have HGD := Lib.hid hgd
  clear hgd
  generalize w.alloc (.cells #[.slice none 0 0] 87) = w1 at *
  go_loopw [14] (fun i wr => ∃ (k : Nat) (st : List Int), k ≤ l.length ∧ i = .int .i64 k ∧ Hid (evalN vars (l.take k) [] = some st) ∧ Hid (Pile wr g g st.reverse) ∧ st.length ≤ k ∧ Hid (Below g w wr ∧ g < wr.heap.size)) (fun i _ => l.length - (intOf i).toNat)
  case atStart => exact ⟨0, [], Nat.zero_le _, rfl, rfl, HP, by simp, ⟨by rw [← HGD.out]; exact HX.out, hg⟩⟩
  case round =>
    obtain ⟨k, st, hk, rfl, HE, HPl, hst, HXr⟩ := hrel
    obtain ⟨wa, rfl⟩ : ∃ wa : World, wa = wr := ⟨_, rfl⟩
    clear HP HX hg
    by_cases hkl : k < l.length
    · obtain ⟨b, off, rfl, hb, hc⟩ := hA.at_ (by rw [tcells_len]; omega)
      have hbg : b < g := by rw [← HGD.out]; exact hb
      obtain ⟨t1, t2, t3⟩ := tcells_at l k hkl
      have c1 : wa.cell? ⟨b, off + k * 3, none⟩ = some (.int .u8 (l[k]).1) := ((HXr.out.1.cell (p := ⟨b, _, none⟩) hbg).trans (hc _ (by rw [tcells_len]; omega))).trans t1
      have c2 : wa.cell? ⟨b, off + k * 3 + 1, none⟩ = some (.int .i64 (l[k]).2.1) := ((HXr.out.1.cell (p := ⟨b, _, none⟩) hbg).trans (by rw [Nat.add_assoc]; exact hc _ (by rw [tcells_len]; omega))).trans t2
      have c3 : wa.cell? ⟨b, off + k * 3 + 2, none⟩ = some (.int .i64 (l[k]).2.2) := ((HXr.out.1.cell (p := ⟨b, _, none⟩) hbg).trans (by rw [Nat.add_assoc]; exact hc _ (by rw [tcells_len]; omega))).trans t3
      have HN := Lib.hid (evalN_take vars l k hkl st HE.out)
      have HF := Lib.hid (evalN_fail vars l k hkl st HE.out)
      have hokt := HOK.out _ (List.getElem_mem hkl)
      clear hc t1 t2 t3 hA
      generalize l[k] = t at *
      obtain ⟨kd, nn, vv⟩ := t
      obtain ⟨hk1, hn1, hv1⟩ := hokt
      simp only at hk1 hn1 hv1 c1 c2 c3
      have HBX : Hid (Blk (wa.alloc (.cells #[.int .u8 kd, .int .i64 nn, .int .i64 vv] 71)) wa.heap.size 71 #[.int .u8 kd, .int .i64 nn, .int .i64 vv]) := Blk.new _ _ _
      have hq : g < wa.heap.size := HXr.out.2
      have HP2 : Hid (Pile (wa.alloc (.cells #[.int .u8 kd, .int .i64 nn, .int .i64 vv] 71)) g g st.reverse) := HPl.out.ext (Ext.alloc _ _)
      have HX2 : Hid (Below g w (wa.alloc (.cells #[.int .u8 kd, .int .i64 nn, .int .i64 vv] 71)) ∧ g < (wa.alloc (.cells #[.int .u8 kd, .int .i64 nn, .int .i64 vv] 71)).heap.size) := ⟨HXr.out.1.alloc (by omega) _, by simp; omega⟩
      obtain ⟨Ap, cp, hcp⟩ := pile_cell HP2.out
      have hx1 : (wa.alloc (.cells #[.int .u8 kd, .int .i64 nn, .int .i64 vv] 71)).cell? ⟨wa.heap.size, 0, none⟩ = some (.int .u8 kd) := HBX.out.cell 0
      have hx2 : (wa.alloc (.cells #[.int .u8 kd, .int .i64 nn, .int .i64 vv] 71)).cell? ⟨wa.heap.size, 1, none⟩ = some (.int .i64 nn) := HBX.out.cell 1
      have hx3 : (wa.alloc (.cells #[.int .u8 kd, .int .i64 nn, .int .i64 vv] 71)).cell? ⟨wa.heap.size, 2, none⟩ = some (.int .i64 vv) := HBX.out.cell 2
      clear HPl HXr
      go_wp2_with fail
      clear c1 c2 c3 hb hbg
      generalize hqq : wa.heap.size = q at *
      have HQ := Lib.hid hqq
      clear hqq
      generalize wa.alloc (.cells #[.int .u8 kd, .int .i64 nn, .int .i64 vv] 71) = W at *
      have HEXT : Hid (Ext w W) := by have := HX2.out.1; rw [← HGD.out] at this; exact this
      by_cases h345 : kd = 3 ∨ kd = 4 ∨ kd = 5
      · have HTK : Hid (takesN kd = 2) := Lib.hid (by unfold takesN; rw [if_pos h345])
        by_cases hsh : st.length < 2
        · have HR : Hid (evalR vars l = (0, false)) := by
            refine HF.out ?_
            rcases h345 with rfl | rfl | rfl <;> match st, hsh with
              | [], _ => rfl
              | [_], _ => rfl
          clear h345 HF HN
          have hshI : (st.length : Int) < 2 := by omega
          go_wp2_with fail
          refine (takes_v _ _ _ hk1.1 hk1.2 HTK).mono ?_
          rintro e w' ⟨rfl, rfl⟩
          go_wp2_with fail
          go_ret2
          exact ⟨ret_pair HR.out, HEXT.out⟩
        · obtain ⟨y, x, r, rfl⟩ : ∃ y x r, st = y :: x :: r := by
            match st, hsh with
            | [], h => simp at h
            | [_], h => simp at h
            | y :: x :: r, _ => exact ⟨y, x, r, rfl⟩
          simp only [List.length_cons] at hst hcp
          have HP3 : Hid (Pile W g g ((x :: r).reverse ++ [y])) := by have := HP2.out; rwa [List.reverse_cons] at this
          clear HP2 hsh HF
          have hrl : r.length + 2 ≤ k := by omega
          go_wp2_with fail
          refine (takes_v _ _ _ hk1.1 hk1.2 HTK).mono ?_
          rintro e w' ⟨rfl, rfl⟩
          go_wp2_with fail
          refine (pop_any W g g (x :: r).reverse y HP3.out (by simp; omega)).mono ?_
          rintro e w2 ⟨rfl, hp2, hb2, hk2, hs2⟩
          have HB2 : Hid (Below g w w2 ∧ g < w2.heap.size) := ⟨HX2.out.1.trans hb2, by rw [hs2]; exact HX2.out.2⟩
          have HBX2 : Hid (Blk w2 q 71 #[.int .u8 kd, .int .i64 nn, .int .i64 vv]) := (hk2 q (by omega)).trans HBX.out
          have HP4 : Hid (Pile w2 g g (r.reverse ++ [x])) := by rwa [List.reverse_cons] at hp2
          clear hp2 hb2 hk2 hs2 HX2 HBX HP3 hcp hx1 hx2 hx3 HEXT
          go_wp2_with fail
          refine (pop_any w2 g g r.reverse x HP4.out (by simp; omega)).mono ?_
          rintro e w3 ⟨rfl, hp3, hb3, hk3, hs3⟩
          have HB3 : Hid (Below g w w3 ∧ g < w3.heap.size) := ⟨HB2.out.1.trans hb3, by rw [hs3]; exact HB2.out.2⟩
          have HBX3 : Hid (Blk w3 q 71 #[.int .u8 kd, .int .i64 nn, .int .i64 vv]) := (hk3 q (by omega)).trans HBX2.out
          have HP5 := Lib.hid hp3
          have hx1 : w3.cell? ⟨q, 0, none⟩ = some (.int .u8 kd) := HBX3.out.cell 0
          clear hp3 hb3 hk3 hs3 HB2 HBX2 HP4 HBX3
          rcases h345 with rfl | rfl | rfl
          all_goals
            go_wp2_with fail
            refine (push_any w3 g g r.reverse _ HP5.out (by simp; omega) (by have := HB3.out.2; omega)).mono ?_
            rintro e w4 ⟨rfl, hp4, hb4⟩
            have HB4 : Hid (Below g w w4 ∧ g < w4.heap.size) := ⟨HB3.out.1.trans hb4, Nat.lt_of_lt_of_le HB3.out.2 hb4.size⟩
            have HP6 := Lib.hid hp4
            clear hp4 hb4 hx1
            go_wp2_with fail
            go_roundw
            case rel => exact ⟨k + 1, _, by omega, by go_num, HN.out, by rw [← List.reverse_cons] at HP6; exact HP6, by simp; omega, HB4⟩
            case measure => simp [intOf]; omega
      · by_cases h6 : kd = 6
        · subst h6
          have HTK : Hid (takesN 6 = 1) := Lib.hid (by decide)
          by_cases hsh : st.length < 1
          · have HR : Hid (evalR vars l = (0, false)) := by
              refine HF.out ?_
              match st, hsh with
              | [], _ => rfl
            clear h345 HF HN
            have hshI : (st.length : Int) < 1 := by omega
            go_wp2_with fail
            refine (takes_v _ _ _ hk1.1 hk1.2 HTK).mono ?_
            rintro e w' ⟨rfl, rfl⟩
            go_wp2_with fail
            go_ret2
            exact ⟨ret_pair HR.out, HEXT.out⟩
          · obtain ⟨y, r, rfl⟩ : ∃ y r, st = y :: r := by
              match st, hsh with
              | [], h => simp at h
              | y :: r, _ => exact ⟨y, r, rfl⟩
            simp only [List.length_cons] at hst hcp
            have HP3 : Hid (Pile W g g (r.reverse ++ [y])) := by have := HP2.out; rwa [List.reverse_cons] at this
            clear HP2 hsh HF h345
            have hrl : r.length + 1 ≤ k := by omega
            go_wp2_with fail
            refine (takes_v _ _ _ hk1.1 hk1.2 HTK).mono ?_
            rintro e w' ⟨rfl, rfl⟩
            go_wp2_with fail
            refine (pop_any W g g r.reverse y HP3.out (by simp; omega)).mono ?_
            rintro e w2 ⟨rfl, hp2, hb2, hk2, hs2⟩
            have HB2 : Hid (Below g w w2 ∧ g < w2.heap.size) := ⟨HX2.out.1.trans hb2, by rw [hs2]; exact HX2.out.2⟩
            have HBX2 : Hid (Blk w2 q 71 #[.int .u8 6, .int .i64 nn, .int .i64 vv]) := (hk2 q (by omega)).trans HBX.out
            have HP4 := Lib.hid hp2
            have hx1 : w2.cell? ⟨q, 0, none⟩ = some (.int .u8 6) := HBX2.out.cell 0
            clear hp2 hb2 hk2 hs2 HX2 HBX HP3 hcp hx2 hx3 HEXT HBX2
            go_wp2_with fail
            refine (push_any w2 g g r.reverse _ HP4.out (by simp; omega) (by have := HB2.out.2; omega)).mono ?_
            rintro e w4 ⟨rfl, hp4, hb4⟩
            have HB4 : Hid (Below g w w4 ∧ g < w4.heap.size) := ⟨HB2.out.1.trans hb4, Nat.lt_of_lt_of_le HB2.out.2 hb4.size⟩
            have HP6 := Lib.hid hp4
            clear hp4 hb4 hx1
            go_wp2_with fail
            go_roundw
            case rel => exact ⟨k + 1, _, by omega, by go_num, HN.out, by rw [← List.reverse_cons] at HP6; exact HP6, by simp; omega, HB4⟩
            case measure => simp [intOf]; omega
        · have HTK : Hid (takesN kd = 0) := Lib.hid (by unfold takesN; rw [if_neg h345, if_neg h6])
          have e3 : (kd == 3) = false := beq_eq_false_iff_ne.2 (by omega)
          have e4 : (kd == 4) = false := beq_eq_false_iff_ne.2 (by omega)
          have e5 : (kd == 5) = false := beq_eq_false_iff_ne.2 (by omega)
          have e6 : (kd == 6) = false := beq_eq_false_iff_ne.2 (by omega)
          by_cases h1 : kd = 1
          · subst h1
            clear HF h345 h6 e3 e4 e5 e6
            go_wp2_with fail
            refine (takes_v _ _ _ hk1.1 hk1.2 HTK).mono ?_
            rintro e w' ⟨rfl, rfl⟩
            go_wp2_with fail
            refine (push_any W g g st.reverse _ HP2.out (by simp; omega) (by have := HX2.out.2; omega)).mono ?_
            rintro e w4 ⟨rfl, hp4, hb4⟩
            have HB4 : Hid (Below g w w4 ∧ g < w4.heap.size) := ⟨HX2.out.1.trans hb4, Nat.lt_of_lt_of_le HX2.out.2 hb4.size⟩
            have HP6 := Lib.hid hp4
            clear hp4 hb4 hx1
            go_wp2_with fail
            go_roundw
            case rel => exact ⟨k + 1, _, by omega, by go_num, HN.out, by rw [← List.reverse_cons] at HP6; exact HP6, by simp; omega, HB4⟩
            case measure => simp [intOf]; omega
          · have e1 : (kd == 1) = false := beq_eq_false_iff_ne.2 (by omega)
            by_cases h2 : kd = 2
            · subst h2
              clear h345 h6 e1 e3 e4 e5 e6 h1
              by_cases hneg : vv < 0
              · have HR : Hid (evalR vars l = (0, false)) := HF.out (by rw [stepN_two, if_neg (by omega)])
                clear HF HN
                have hd : decide (vv < 0) = true := by simpa using hneg
                go_wp2_with fail
                refine (takes_v _ _ _ hk1.1 hk1.2 HTK).mono ?_
                rintro e w' ⟨rfl, rfl⟩
                go_wp2_with fail
                go_ret2
                exact ⟨ret_pair HR.out, HEXT.out⟩
              · have hd : decide (vv < 0) = false := by simpa using hneg
                by_cases hbig : (vars.length : Int) ≤ vv
                · have HR : Hid (evalR vars l = (0, false)) := HF.out (by rw [stepN_two, if_neg (by omega)])
                  clear HF HN
                  have hd2 : decide ((vars.length : Int) ≤ vv) = true := by simpa using hbig
                  go_wp2_with fail
                  refine (takes_v _ _ _ hk1.1 hk1.2 HTK).mono ?_
                  rintro e w' ⟨rfl, rfl⟩
                  go_wp2_with fail
                  go_ret2
                  exact ⟨ret_pair HR.out, HEXT.out⟩
                · obtain ⟨m, rfl⟩ := Int.eq_ofNat_of_zero_le (show 0 ≤ vv by omega)
                  have hm : m < vars.length := by omega
                  have HN2 : Hid (evalN vars (l.take (k + 1)) [] = some (vars.getD m 0 :: st)) := by
                    have := HN.out
                    rw [stepN_two, if_pos ⟨by omega, by omega⟩, Int.toNat_natCast] at this
                    exact this
                  have hd2 : decide ((vars.length : Int) ≤ (m : Int)) = false := by simpa using hbig
                  obtain ⟨b2, off2, rfl, hb2, hc2⟩ := HV.out.at_ (by simp [ncells]; omega)
                  have hb2g : b2 < g := by rw [← HGD.out]; exact hb2
                  have hcm : W.cell? ⟨b2, off2 + m, none⟩ = some (.int .i64 (vars.getD m 0)) := by
                    rw [HX2.out.1.cell (p := ⟨b2, _, none⟩) hb2g, hc2 m (by simp [ncells]; exact hm)]
                    simp [ncells, hm]
                  have hmb := HVK.out (vars.getD m 0) (by simp [List.getD, hm])
                  clear HF HN hc2 hb2
                  generalize vars.getD m 0 = z at *
                  go_wp2_with fail
                  refine (takes_v _ _ _ hk1.1 hk1.2 HTK).mono ?_
                  rintro e w' ⟨rfl, rfl⟩
                  go_wp2_with fail
                  refine (push_any W g g st.reverse _ HP2.out (by simp; omega) (by have := HX2.out.2; omega)).mono ?_
                  rintro e w4 ⟨rfl, hp4, hb4⟩
                  have HB4 : Hid (Below g w w4 ∧ g < w4.heap.size) := ⟨HX2.out.1.trans hb4, Nat.lt_of_lt_of_le HX2.out.2 hb4.size⟩
                  have HP6 := Lib.hid hp4
                  clear hp4 hb4 hx1 hcm
                  go_wp2_with fail
                  go_roundw
                  case rel => exact ⟨k + 1, _, by omega, by go_num, HN2.out, by rw [← List.reverse_cons] at HP6; exact HP6, by simp; omega, HB4⟩
                  case measure => simp [intOf]; omega
            · have e2 : (kd == 2) = false := beq_eq_false_iff_ne.2 (by omega)
              have HR : Hid (evalR vars l = (0, false)) := HF.out (stepN_no vars kd nn vv st h1 h2 h345 h6)
              clear HF HN
              go_wp2_with fail
              refine (takes_v _ _ _ hk1.1 hk1.2 HTK).mono ?_
              rintro e w' ⟨rfl, rfl⟩
              go_wp2_with fail
              go_ret2
              exact ⟨ret_pair HR.out, HEXT.out⟩
    · have hkk : k = l.length := by omega
      have HE2 : Hid (evalN vars l [] = some st) := by have := HE.out; rwa [hkk, List.take_length] at this
      have HEXT : Hid (Ext w wa) := by have := HXr.out.1; rw [← HGD.out] at this; exact this
      obtain ⟨Ap, cp, hcp⟩ := pile_cell HPl.out
      by_cases h1 : st.length = 1
      · obtain ⟨x, rfl⟩ : ∃ x, st = [x] := by
          match st, h1 with
          | [x], _ => exact ⟨x, rfl⟩
        have HR : Hid (evalR vars l = (x, true)) := by unfold evalR; rw [HE2.out]; exact Lib.hid rfl
        have HP3 : Hid (Pile wa g g ([] ++ [x])) := HPl
        simp only [List.length_singleton] at hcp
        clear HE HE2 hA
        go_wp2_with fail
        refine (pop_any wa g g [] x HP3.out (by simp)).mono ?_
        rintro e w2 ⟨rfl, hp2, hb2, hk2, hs2⟩
        have HEXT2 : Hid (Ext w w2) := by have := HXr.out.1.trans hb2; rw [← HGD.out] at this; exact this
        clear hp2 hb2 hk2 hs2
        go_wp2_with fail
        go_ret2
        exact ⟨ret_pair HR.out, HEXT2.out⟩
      · have HR : Hid (evalR vars l = (0, false)) := by
          unfold evalR
          rw [HE2.out]
          match st, h1 with
          | [], _ => exact Lib.hid rfl
          | x :: y :: r, _ => exact Lib.hid rfl
        have hne : ((st.length : Int) != 1) = true := by rw [bne_iff_ne]; omega
        clear HE HE2 hA
        go_wp2_with fail
        go_ret2
        exact ⟨ret_pair HR.out, HEXT.out⟩
end Go.Proofs.Ytngbpaiohfokbaa.EV
