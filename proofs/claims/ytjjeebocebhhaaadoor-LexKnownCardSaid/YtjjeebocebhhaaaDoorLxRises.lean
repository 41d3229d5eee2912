/- LexRises, walked: always true. Condition: errors.errorType reads as the program's text lays it. -/
import Derived.Test.YtjjeebocebhhaaaDoorLxN
namespace Go.Proofs.YtjjeebocebhhaaaDoor
open Go Go.RowKit
set_option linter.unusedVariables false
set_option linter.unusedSimpArgs false
theorem cutA_nil {A : Option Addr} {c k : Nat} (hnil : A = none → c = 0) (h : cutA A c k = none) : c - k = 0 := by
  unfold cutA at h
  split at h
  · omega
  · cases A with
    | none => rw [hnil rfl]; omega
    | some a => cases h
theorem ext_of_drewN {w w' : World} {n : Nat} (h : Ext (w.drewN n) w') : Ext w w' := ⟨h.os, h.tape, h.output, h.size, h.block⟩
/-- One round's plain facts: the next token of a source's rest. -/
structure Nx (l : Bs) (ts : List Tok) (k p : Nat) (t : Tok) : Prop where
  low : p ≤ t.at_
  mid : t.at_ ≤ t.en
  high : t.en ≤ l.length
  text : t.text = (l.drop t.at_).take (t.en - t.at_)
  gap : lexL 0 ((l.drop p).take (t.at_ - p)) = .ok [⟨4, t.at_ - p, t.at_ - p, [], 0⟩]
  fin : (t.kind = 4) ↔ (k + 1 = ts.length)
  next : if k + 1 < ts.length then lexL t.en (l.drop t.en) = .ok (ts.drop (k + 1)) else t.en = l.length
theorem nx_of {l : Bs} {ts : List Tok} {k p : Nat} (hp : p ≤ l.length) (hk : k < ts.length) (h : lexL p (l.drop p) = .ok (ts.drop k)) : Nx l ts k p ts[k] := by
  rw [List.drop_eq_getElem_cons hk] at h
  obtain ⟨m, a1, a2, a3, a4, a5, a6, a7⟩ := lexL_next 0 h
  rw [List.length_drop] at a1 a3
  rw [List.drop_drop, show p + m = ts[k].at_ from by omega] at a5
  have hm : ts[k].at_ - p = m := by omega
  refine ⟨by omega, a4, by omega, a5, by rw [hm, a6]; simp, ?_, ?_⟩
  · constructor
    · intro e
      rcases a7 with ⟨b1, b2, _⟩ | ⟨b1, _⟩
      · have : (ts.drop (k + 1)).length = 0 := by rw [b2]; rfl
        rw [List.length_drop] at this
        omega
      · exact absurd e b1
    · intro e
      rcases a7 with ⟨b1, _⟩ | ⟨_, _, b3, _⟩
      · exact b1
      · have hne := lexL_ne b3
        exact absurd (List.drop_eq_nil_of_le (by omega)) hne
  · rcases a7 with ⟨b1, b2, b3, _⟩ | ⟨b1, b2, b3, _⟩
    · have : (ts.drop (k + 1)).length = 0 := by rw [b2]; rfl
      rw [List.length_drop] at this
      rw [if_neg (by omega), b3, List.length_drop]
      omega
    · have hne := lexL_ne b3
      have hlt : k + 1 < ts.length := by
        have : (ts.drop (k + 1)).length ≠ 0 := fun e => hne (List.eq_nil_of_length_eq_zero e)
        rw [List.length_drop] at this
        omega
      rw [if_pos hlt]
      rw [List.drop_drop, show p + (ts[k].en - p) = ts[k].en from by omega] at b3
      exact b3
set_option maxHeartbeats 8000000 in
set_option maxRecDepth 10000 in
theorem lexRises_any (A : Option Addr) (l : Bs) (n c : Nat) (w : World) (hG : GT w) (hn : n = l.length) (hcap : l.length ≤ c) (hnil : A = none → c = 0) (h : Cells w A (bcells l)) :
    Calls Tryd.prog 5 #[.slice A n c] w fun e w' => e = .returned (.bool true) ∧ Ext w w' := by
  subst hn
  have HG := Lib.hid hG
  have HC := Lib.hid h
  clear hG h
  by_cases h600 : 600 < l.length
  · have d0 : decide ((600 : Int) < (l.length : Int)) = true := decide_eq_true (by omega)
    go_enter Tryd.func5, Tryd.ntmps5
    go_wp2_with fail
    refine (works3_any w HG.out).mono ?_
    rintro e w' ⟨rfl, hx⟩
    go_wp2_with fail
    go_ret
    exact ⟨rfl, hx⟩
  · have d0 : decide ((600 : Int) < (l.length : Int)) = false := decide_eq_false (by omega)
    have hbig : l.length ≤ 140737488355328 := by omega
    have HL : Hid (lexS l = lexL 0 l) := Lib.hid (by unfold lexS; rw [if_neg (by omega)])
    go_enter Tryd.func5, Tryd.ntmps5
    go_wp2_with fail
    refine (lex_any A l l.length c w rfl hbig hcap hnil HC.out).mono ?_
    cases hr : lexS l with
    | err a er =>
      rintro e w2 ⟨hx2, g2, rfl, _, hb2⟩
      have HX2 := Lib.hid hx2
      clear hx2 hb2 hr
      go_wp2_with fail
      refine (works3_any w2 (HG.out.ext HX2.out)).mono ?_
      rintro e w5 ⟨rfl, hx5⟩
      go_wp2_with fail
      go_ret
      exact ⟨rfl, HX2.out.trans hx5⟩
    | ok ts =>
      rintro e w2 ⟨hx2, A2, c2, rfl, _, ho2⟩
      have htl := lexS_len hr
      have HX2 := Lib.hid hx2
      have HR := Lib.hid (HL.out.symm.trans hr)
      have HC2 := Lib.hid (Cells.own ho2)
      have htp : 0 < ts.length := by have := lexL_ne HR.out; cases ts with | nil => exact absurd rfl this | cons t ts => exact Nat.succ_pos _
      clear hx2 ho2 hr
      go_wp2_with fail
      go_loopw [5, 6] (fun la i wr => ∃ k p : Nat, k ≤ ts.length ∧ p ≤ l.length ∧ i = .int .i64 k ∧ la = .int .i64 p ∧ Hid (Ext w2 wr) ∧ Hid (if k < ts.length then lexL p (l.drop p) = .ok (ts.drop k) else p = l.length)) (fun _ i _ => ts.length - (intOf i).toNat)
      case atStart => exact ⟨0, 0, Nat.zero_le _, Nat.zero_le _, rfl, rfl, Lib.hid (Ext.refl _), Lib.hid (by rw [if_pos htp]; exact HR.out)⟩
      case round =>
        obtain ⟨k, p, hk, hp, rfl, rfl, HX, HK⟩ := hrel
        obtain ⟨wa, rfl⟩ : ∃ wa : World, wa = wr := ⟨_, rfl⟩
        by_cases hlt : k < ts.length
        · have d1 : decide ((k : Int) < (ts.length : Int)) = true := decide_eq_true (by omega)
          have hk2 := HK.out
          rw [if_pos hlt] at hk2
          have HN := Lib.hid (nx_of hp hlt hk2)
          clear hk2
          obtain ⟨b, off, hA, hbs, hc⟩ := (HC2.out.ext HX.out).at_ (by rw [kcells_len]; omega)
          subst hA
          have hcl : ∀ j, j < 5 → wa.cell? ⟨b, off + k * 5 + j, none⟩ = (kcell ts[k])[j]? := fun j hj => by
            rw [Nat.add_assoc, hc _ (by rw [kcells_len]; omega)]
            exact kcells_at ts k hlt j hj
          generalize ts[k] = t at *
          obtain ⟨kd, ta, te, tx, tn⟩ := t
          have c0 : wa.cell? ⟨b, off + k * 5, none⟩ = some (.int .u8 (kd : Int)) := hcl 0 (by omega)
          have c1 : wa.cell? ⟨b, off + k * 5 + 1, none⟩ = some (.int .i64 (ta : Int)) := hcl 1 (by omega)
          have c2 : wa.cell? ⟨b, off + k * 5 + 2, none⟩ = some (.int .i64 (te : Int)) := hcl 2 (by omega)
          have c3 : wa.cell? ⟨b, off + k * 5 + 3, none⟩ = some (.string (bstr tx)) := hcl 3 (by omega)
          have c4 : wa.cell? ⟨b, off + k * 5 + 4, none⟩ = some (.int .i64 tn) := hcl 4 (by omega)
          have q0 : (k : Int) < (ts.length : Int) := by omega
          have hlow : p ≤ ta := HN.out.low
          have hmid : ta ≤ te := HN.out.mid
          have hhigh : te ≤ l.length := HN.out.high
          have HTX : Hid (tx = (l.drop ta).take (te - ta)) := Lib.hid HN.out.text
          have HGAP : Hid (lexS ((l.drop p).take (ta - p)) = .ok [⟨4, ta - p, ta - p, [], 0⟩]) := Lib.hid (by
            unfold lexS
            rw [if_neg (by rw [List.length_take, List.length_drop]; omega)]
            exact HN.out.gap)
          have HNX : Hid (if k + 1 < ts.length then lexL te (l.drop te) = .ok (ts.drop (k + 1)) else te = l.length) := Lib.hid HN.out.next
          have hfin : ((kd : Int) == 4) = ((k : Int) == (ts.length : Int) - 1) := by
            rw [Bool.eq_iff_iff, beq_iff_eq, beq_iff_eq]
            have := HN.out.fin
            show (kd : Int) = 4 ↔ _
            constructor
            · intro e; have := this.1 (by show kd = 4; omega); omega
            · intro e; have : kd = 4 := this.2 (by omega); omega
          have HB4 : Hid (Blk (wa.alloc (.cells #[.int .u8 (kd : Int), .int .i64 (ta : Int), .int .i64 (te : Int), .string (bstr tx), .int .i64 tn] 43)) wa.heap.size 43 #[.int .u8 (kd : Int), .int .i64 (ta : Int), .int .i64 (te : Int), .string (bstr tx), .int .i64 tn]) := Lib.hid (Blk.new _ _ _)
          have HX4 : Hid (Ext w2 (wa.alloc (.cells #[.int .u8 (kd : Int), .int .i64 (ta : Int), .int .i64 (te : Int), .string (bstr tx), .int .i64 tn] 43))) := Lib.hid (HX.out.trans (Ext.alloc _ _))
          clear hcl hc HN HK
          go_upto_region 11 with fail
          generalize wa.alloc (.cells #[.int .u8 (kd : Int), .int .i64 (ta : Int), .int .i64 (te : Int), .string (bstr tx), .int .i64 tn] 43) = w4 at *
          generalize wa.heap.size = g at *
          clear c0 c1 c2 c3 c4 HX
          have e0 : w4.cell? ⟨g, 0, none⟩ = some (.int .u8 (kd : Int)) := HB4.out.cell 0
          have e1 : w4.cell? ⟨g, 1, none⟩ = some (.int .i64 (ta : Int)) := HB4.out.cell 1
          have e2 : w4.cell? ⟨g, 2, none⟩ = some (.int .i64 (te : Int)) := HB4.out.cell 2
          have e3 : w4.cell? ⟨g, 3, none⟩ = some (.string (bstr tx)) := HB4.out.cell 3
          have d2 : decide ((ta : Int) < (p : Int)) = false := decide_eq_false (by omega)
          have d3 : decide ((te : Int) < (ta : Int)) = false := decide_eq_false (by omega)
          have d4 : decide ((l.length : Int) < (te : Int)) = false := decide_eq_false (by omega)
          have m2 : decide (ta < p) = false := decide_eq_false (by omega)
          have m3 : decide (te < ta) = false := decide_eq_false (by omega)
          have m4 : decide (l.length < te) = false := decide_eq_false (by omega)
          have hsl : ∀ W, (Instr.slice 22 (.slice A l.length c) (some (.int .i64 (ta : Int))) (some (.int .i64 (te : Int))) none).run Tryd.prog W = .ok (.slice (cutA A c ta) (te - ta) (c - ta)) W := fun W => run_cut W _ _ Tryd.underlying22 size_u8 A _ c ta te hmid (by omega)
          have hcv : ∀ n, (convert 22 9 (.slice (cutA A c ta) (te - ta) (c - ta))).run Tryd.prog (w4.drewN n) = .ok (.string (bstr tx)) (w4.drewN n) := fun n =>
            run_bytes_str Tryd.underlying22 Tryd.underlying5 Tryd.underlying9 (by rw [HTX.out, List.length_take, List.length_drop]; omega) (show Cells (w4.drewN n) _ _ from by rw [HTX.out]; exact cells_cut (HC.out.ext (HX2.out.trans HX4.out)) hcap ta _)
          obtain ⟨fb, q5⟩ : ∃ fb, ((kd : Int) == 4) = fb := ⟨_, rfl⟩
          have q6 : ((k : Int) == (ts.length : Int) - 1) = fb := hfin.symm.trans q5
          clear hfin
          have hne : ((bstr tx).toList != (bstr tx).toList) = false := by simp
          go_quiet (fail)
          clear hsl hcv
          have hsl2 : ∀ W, (Instr.slice 22 (.slice A l.length c) (some (.int .i64 (p : Int))) (some (.int .i64 (ta : Int))) none).run Tryd.prog W = .ok (.slice (cutA A c p) (ta - p) (c - p)) W := fun W => run_cut W _ _ Tryd.underlying22 size_u8 A _ c p ta hlow (by omega)
          go_wp2_with fail
          refine (lex_any (cutA A c p) ((l.drop p).take (ta - p)) (ta - p) (c - p) (w4.drewN _) (by rw [List.length_take, List.length_drop]; omega) (by rw [List.length_take, List.length_drop]; omega) (by rw [List.length_take, List.length_drop]; omega) (cutA_nil hnil) (show Cells (w4.drewN _) _ _ from cells_cut (HC.out.ext (HX2.out.trans HX4.out)) hcap p _)).mono ?_
          rw [HGAP.out]
          rintro e w5 ⟨hx5, A5, c5, rfl, _, ho5⟩
          have hx5' := ext_of_drewN hx5
          have HX5 := Lib.hid (HX4.out.trans hx5')
          have HB5 := Lib.hid (HB4.out.ext hx5')
          have f2 : w5.cell? ⟨g, 2, none⟩ = some (.int .i64 (te : Int)) := HB5.out.cell 2
          clear hx5 hx5' ho5 hsl2 e0 e1 e2 e3
          dsimp only [List.length_cons, List.length_nil]
          go_wp2_with fail
          go_round
          case rel => exact ⟨k + 1, te, by omega, hhigh, by go_num, rfl, HX5, HNX⟩
          case measure => simp [intOf]; omega
        · obtain rfl : k = ts.length := by omega
          have hp2 : p = l.length := by have := HK.out; rwa [if_neg (by omega)] at this
          subst hp2
          have d1 : decide ((ts.length : Int) < (ts.length : Int)) = false := by simp
          go_wp2_with fail
          refine (works3_any wa (HG.out.ext (HX2.out.trans HX.out))).mono ?_
          rintro e w5 ⟨rfl, hx5⟩
          go_wp2_with fail
          go_ret
          exact ⟨rfl, (HX2.out.trans HX.out).trans hx5⟩
end Go.Proofs.YtjjeebocebhhaaaDoor
