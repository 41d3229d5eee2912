/- LexAny, walked: always true. Condition: errors.errorType reads as the program's text lays it. -/
import Derived.Test.YtjjeebocebhhaaaDoorLxK
namespace Go.Proofs.YtjjeebocebhhaaaDoor
open Go Go.RowKit
set_option linter.unusedVariables false
set_option linter.unusedSimpArgs false
theorem lexF_err : ∀ (f p : Nat) (s : Bs) (a : Nat) (e : Int), s.length < f → lexF f p s = .err a e → e = 30 ∨ e = 31
  | 0, _, _, _, _, h, _ => absurd h (by omega)
  | f + 1, p, s, a, e, hf, h => by
    have hw := step_wide s
    unfold lexF at h
    cases hs : step s with
    | fin => rw [hs] at h; cases h
    | bad e' =>
      rw [hs] at h
      injection h with _ h
      subst h
      cases s with
      | nil => cases hs
      | cons c r =>
        have hs' : stepC c r = _ := hs
        unfold stepC stepD at hs'
        repeat' split at hs'
        all_goals first | (injection hs' with hs'; subst hs'; decide) | cases hs'
    | skip k =>
      rw [hs] at h hw
      have h1 : 1 ≤ k := hw.1
      have h2 : k ≤ s.length := hw.2
      exact lexF_err f _ _ a e (by simp; omega) h
    | tok kd k n =>
      rw [hs] at h hw
      have h1 : 1 ≤ k := hw.1
      have h2 : k ≤ s.length := hw.2
      exact lexF_err f _ _ a e (by simp; omega) (cons_err h)
theorem lexS_err {l : Bs} {a : Nat} {e : Int} (h : lexS l = .err a e) : e ≠ 0 := by
  unfold lexS at h
  split at h
  · injection h with _ h; subst h; decide
  · rcases lexF_err _ _ _ a e (by omega) h with rfl | rfl <;> decide
theorem lexS_len {l : Bs} {ts : List Tok} (h : lexS l = .ok ts) : ts.length ≤ l.length + 1 := by
  unfold lexS at h
  split at h
  · cases h
  · exact (lexL_size ts 0 l h).1
set_option maxHeartbeats 8000000 in
set_option maxRecDepth 10000 in
theorem lexAny_any (A : Option Addr) (l : Bs) (n c : Nat) (w : World) (hG : GT w) (hn : n = l.length) (hcap : l.length ≤ c) (hnil : A = none → c = 0) (h : Cells w A (bcells l)) :
    Calls Tryd.prog 4 #[.slice A n c] w fun e w' => e = .returned (.bool true) ∧ Ext w w' := by
  subst hn
  have HG := Lib.hid hG
  have HC := Lib.hid h
  clear hG h
  by_cases h600 : 600 < l.length
  · have d0 : decide ((600 : Int) < (l.length : Int)) = true := decide_eq_true (by omega)
    go_enter Tryd.func4, Tryd.ntmps4
    go_wp2_with fail
    refine (works3_any w HG.out).mono ?_
    rintro e w' ⟨rfl, hx⟩
    go_wp2_with fail
    go_ret
    exact ⟨rfl, hx⟩
  · have d0 : decide ((600 : Int) < (l.length : Int)) = false := decide_eq_false (by omega)
    have hbig : l.length ≤ 140737488355328 := by omega
    have hcv1 := run_bytes_str (P := Tryd.prog) (n := l.length) (c := c) Tryd.underlying22 Tryd.underlying5 Tryd.underlying9 rfl HC.out
    have hcv2 := Lib.run_convert_string_bytes (P := Tryd.prog) w 9 22 5 (bstr l) Tryd.underlying9 Tryd.underlying22 Tryd.underlying5
    have hsz : (bstr l).size = l.length := by simp [bstr, ByteArray.size]
    have hcell : Cells (Lib.bytesWorld w 5 (bstr l)) (some ⟨w.heap.size, 0, none⟩) (bcells l) := .inr ⟨w.heap.size, 0, rfl, by rw [Lib.bytesWorld_size]; omega, fun k hk => by
      rw [bcells_len] at hk
      rw [Nat.zero_add, Lib.bytesWorld_cell w 5 (bstr l) k (by rw [hsz]; exact hk), bcells_at l k hk]
      simp [bstr, hk]⟩
    have HX1 := Lib.hid (Ext.bytesWorld w 5 (bstr l))
    have HO1 := Lib.hid hcell
    have hcp := grownCap_ge w (bstr l).size 0 5
    rw [hsz] at hcv2 hcp
    clear hcell hsz
    generalize Lib.bytesWorld w 5 (bstr l) = w1 at *
    generalize grownCap w l.length 0 5 = cp at *
    generalize w.heap.size = gs at *
    go_enter Tryd.func4, Tryd.ntmps4
    go_wp2_with fail
    refine (lex_any (some ⟨gs, 0, none⟩) l l.length cp w1 rfl hbig hcp (fun h => by cases h) HO1.out).mono ?_
    clear hcv1 hcv2
    cases hr : lexS l with
    | ok ts =>
      rintro e w2 ⟨hx2, A2, c2, rfl, _, ho2⟩
      have htl := lexS_len hr
      have HR := Lib.hid hr
      have HT2 := Lib.hid (Cells.own ho2)
      have HX2 := Lib.hid (HX1.out.trans hx2)
      have HO2 := Lib.hid (HO1.out.ext hx2)
      clear hx2 ho2 hr
      go_wp2_with fail
      refine (rlex_any A l l.length c w2 rfl hbig hcap (HC.out.ext HX2.out)).mono ?_
      rw [HR.out]
      rintro e w3 ⟨hx3, A3, c3, rfl, _, ho3⟩
      have HT3 := Lib.hid (Cells.own ho3)
      have HT2b := Lib.hid (HT2.out.ext hx3)
      have HX3 := Lib.hid (HX2.out.trans hx3)
      have HO3 := Lib.hid (HO2.out.ext hx3)
      clear hx3 ho3
      go_wp2_with fail
      refine (code_nil w3).mono ?_
      rintro e w' ⟨rfl, rfl⟩
      go_wp2_with fail
      refine (plain_any A2 ts ts.length c2 w3 rfl (by omega) HT2b.out).mono ?_
      rintro e w4 ⟨A4, c4, rfl, _, ho4, hx4⟩
      have HT4 := Lib.hid (Cells.own ho4)
      have HT3b := Lib.hid (HT3.out.ext hx4)
      have HX4 := Lib.hid (HX3.out.trans hx4)
      have HO4 := Lib.hid (HO3.out.ext hx4)
      clear hx4 ho4
      go_wp2_with fail
      refine (same_any A4 A3 ts ts.length ts.length c4 c3 w4 rfl rfl (by omega) HT4.out HT3b.out).mono ?_
      rintro e w5 ⟨rfl, hx5⟩
      have HX5 := Lib.hid (HX4.out.trans hx5)
      have HO5 := Lib.hid (HO4.out.ext hx5)
      clear hx5
      go_wp2_with fail
      refine (sameBytes_any (some ⟨gs, 0, none⟩) A l l l.length l.length cp c w5 rfl rfl HO5.out (HC.out.ext HX5.out)).mono ?_
      rintro e w' ⟨rfl, rfl⟩
      rw [show (l == l) = true from by simp]
      go_wp2_with fail
      refine (place_nil w5).mono ?_
      rintro e w6 ⟨rfl, hx6⟩
      have HX6 := Lib.hid (HX5.out.trans hx6)
      clear hx6
      dsimp only [noPlace]
      go_wp2_with fail
      refine (works3_any w6 (HG.out.ext HX6.out)).mono ?_
      rintro e w7 ⟨rfl, hx7⟩
      go_wp2_with fail
      go_ret
      exact ⟨rfl, HX6.out.trans hx7⟩
    | err a er =>
      rintro e w2 ⟨hx2, g2, rfl, _, hb2⟩
      have her := lexS_err hr
      have d1 : (er != 0) = true := by rw [bne_iff_ne]; exact her
      have HR := Lib.hid hr
      have HB2 := Lib.hid hb2
      have HX2 := Lib.hid (HX1.out.trans hx2)
      have HO2 := Lib.hid (HO1.out.ext hx2)
      clear hx2 hb2 hr her
      go_wp2_with fail
      refine (rlex_any A l l.length c w2 rfl hbig hcap (HC.out.ext HX2.out)).mono ?_
      rw [HR.out]
      rintro e w3 ⟨hx3, rfl⟩
      have HB3 := Lib.hid (HB2.out.ext hx3)
      have HX3 := Lib.hid (HX2.out.trans hx3)
      have HO3 := Lib.hid (HO2.out.ext hx3)
      clear hx3
      go_wp2_with fail
      refine (code_at g2 _ _ _ _ w3 (HG.out.ext HX3.out) HB3.out).mono ?_
      rintro e w3b ⟨rfl, hx3b⟩
      have HB3b := Lib.hid (HB3.out.ext hx3b)
      have HX3b := Lib.hid (HX3.out.trans hx3b)
      have HO3b := Lib.hid (HO3.out.ext hx3b)
      clear hx3b
      go_wp2_with fail
      refine (plain_any none [] 0 0 w3b rfl (by decide) (.inl rfl)).mono ?_
      rintro e w4 ⟨A4, c4, rfl, _, ho4, hx4⟩
      have HX4 := Lib.hid (HX3b.out.trans hx4)
      have HO4 := Lib.hid (HO3b.out.ext hx4)
      have HB4 := Lib.hid (HB3b.out.ext hx4)
      clear hx4 ho4
      go_wp2_with fail
      refine (same_any A4 none [] 0 0 c4 0 w4 rfl rfl (by decide) (.inl rfl) (.inl rfl)).mono ?_
      rintro e w5 ⟨rfl, hx5⟩
      have HX5 := Lib.hid (HX4.out.trans hx5)
      have HO5 := Lib.hid (HO4.out.ext hx5)
      have HB5 := Lib.hid (HB4.out.ext hx5)
      clear hx5
      go_wp2_with fail
      refine (sameBytes_any (some ⟨gs, 0, none⟩) A l l l.length l.length cp c w5 rfl rfl HO5.out (HC.out.ext HX5.out)).mono ?_
      rintro e w' ⟨rfl, rfl⟩
      rw [show (l == l) = true from by simp]
      go_wp2_with fail
      refine (place_at g2 _ _ _ _ w5 (HG.out.ext HX5.out) HB5.out).mono ?_
      rintro e w6 ⟨rfl, hx6⟩
      have HX6 := Lib.hid (HX5.out.trans hx6)
      clear hx6
      go_wp2_with fail
      refine (works3_any w6 (HG.out.ext HX6.out)).mono ?_
      rintro e w7 ⟨rfl, hx7⟩
      go_wp2_with fail
      go_ret
      exact ⟨rfl, HX6.out.trans hx7⟩
end Go.Proofs.YtjjeebocebhhaaaDoor
