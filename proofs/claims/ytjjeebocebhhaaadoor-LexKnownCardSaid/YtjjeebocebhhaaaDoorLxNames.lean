/- LexNames, walked: always true. Condition: errors.errorType reads as the program's text lays it. -/
import Derived.Test.YtjjeebocebhhaaaDoorLxN
namespace Go.Proofs.YtjjeebocebhhaaaDoor
open Go Go.RowKit
set_option linter.unusedVariables false
set_option linter.unusedSimpArgs false
theorem isName_v (l : Bs) (b : Bool) (hb : Hid (nameB l = b)) (hbig : l.length ≤ 140737488355328) (w : World) : Calls Tryd.prog 23 #[.string (bstr l)] w fun e w' => e = .returned (.bool b) ∧ Ext w w' := by
  rw [← hb.out]
  exact isName_any l hbig w
theorem risName_v (l : Bs) (b : Bool) (hb : Hid (nameB l = b)) (hbig : l.length ≤ 140737488355328) (w : World) : Calls Tryd.prog 24 #[.string (bstr l)] w fun e w' => e = .returned (.bool b) ∧ w = w' := by
  rw [← hb.out]
  exact risName_any l hbig w
set_option maxHeartbeats 8000000 in
set_option maxRecDepth 10000 in
theorem lexNames_any (l : Bs) (w : World) (hG : GT w) :
    Calls Tryd.prog 8 #[.string (bstr l)] w fun e w' => e = .returned (.bool true) ∧ Ext w w' := by
  have HG := Lib.hid hG
  have hsz : (bstr l).size = l.length := by simp [bstr, ByteArray.size]
  clear hG
  by_cases h200 : 200 < l.length
  · have d0 : decide ((200 : Int) < (l.length : Int)) = true := decide_eq_true (by omega)
    go_enter Tryd.func8, Tryd.ntmps8
    go_wp2_with fail
    refine (works3_any w HG.out).mono ?_
    rintro e w' ⟨rfl, hx⟩
    go_wp2_with fail
    go_ret
    exact ⟨rfl, hx⟩
  · have d0 : decide ((200 : Int) < (l.length : Int)) = false := decide_eq_false (by omega)
    have hbig : l.length ≤ 140737488355328 := by omega
    obtain ⟨hcv, hcp⟩ := str_conv w l
    have hc1 := str_cells w l
    have HX1 := Lib.hid (Ext.bytesWorld w 5 (bstr l))
    generalize Lib.bytesWorld w 5 (bstr l) = w1 at *
    generalize grownCap w l.length 0 5 = cp at *
    generalize w.heap.size = gs at *
    have HO1 := Lib.hid hc1
    clear hc1
    have HL : Hid (lexS l = lexL 0 l) := Lib.hid (by unfold lexS; rw [if_neg (by omega)])
    obtain ⟨nb, HNB⟩ : ∃ nb, Hid (nameB l = nb) := ⟨_, Lib.hid rfl⟩
    cases nb with
    | true =>
      have HS : Hid (lexS l = .ok [⟨1, 0, 0 + l.length, l, 0⟩, ⟨4, 0 + l.length, 0 + l.length, [], 0⟩]) := Lib.hid (by rw [HL.out, lexL_name HNB.out])
      go_enter Tryd.func8, Tryd.ntmps8
      go_wp2_with fail
      refine (lex_any (some ⟨gs, 0, none⟩) l l.length cp w1 rfl hbig hcp (fun h => by cases h) HO1.out).mono ?_
      rw [HS.out]
      rintro e w2 ⟨hx2, A2, c2, rfl, _, ho2⟩
      have HX2 := Lib.hid (HX1.out.trans hx2)
      obtain ⟨b2, o2, hA2, hb2, hk2⟩ := (Cells.own ho2).at_ (by rw [kcells_len]; exact Nat.succ_pos _)
      subst hA2
      have k0 : w2.cell? ⟨b2, o2, none⟩ = some (.int .u8 1) := hk2 0 (by rw [kcells_len]; show 0 < 10; decide)
      have k3 : w2.cell? ⟨b2, o2 + 3, none⟩ = some (.string (bstr l)) := hk2 3 (by rw [kcells_len]; show 3 < 10; decide)
      clear hx2 ho2 hk2
      dsimp only [List.length_cons, List.length_nil]
      go_wp2_with fail
      refine (isName_v l true HNB hbig w2).mono ?_
      rintro e w3 ⟨rfl, hx3⟩
      have HX3 := Lib.hid (HX2.out.trans hx3)
      clear hx3
      go_wp2_with fail
      refine (risName_v l true HNB hbig w3).mono ?_
      rintro e w' ⟨rfl, rfl⟩
      go_wp2_with fail
      refine (isName_v l true HNB hbig w3).mono ?_
      rintro e w4 ⟨rfl, hx4⟩
      have HX4 := Lib.hid (HX3.out.trans hx4)
      clear hx4
      go_wp2_with fail
      refine (works3_any w4 (HG.out.ext HX4.out)).mono ?_
      rintro e w5 ⟨rfl, hx5⟩
      go_wp2_with fail
      go_ret
      exact ⟨rfl, HX4.out.trans hx5⟩
    | false =>
      go_enter Tryd.func8, Tryd.ntmps8
      go_wp2_with fail
      refine (lex_any (some ⟨gs, 0, none⟩) l l.length cp w1 rfl hbig hcp (fun h => by cases h) HO1.out).mono ?_
      cases hr : lexS l with
      | err a er =>
        rintro e w2 ⟨hx2, g2, rfl, _, hb2⟩
        have HX2 := Lib.hid (HX1.out.trans hx2)
        clear hx2 hb2 hr
        go_wp2_with fail
        refine (isName_v l false HNB hbig w2).mono ?_
        rintro e w3 ⟨rfl, hx3⟩
        have HX3 := Lib.hid (HX2.out.trans hx3)
        clear hx3
        go_wp2_with fail
        refine (risName_v l false HNB hbig w3).mono ?_
        rintro e w' ⟨rfl, rfl⟩
        go_wp2_with fail
        refine (isName_v l false HNB hbig w3).mono ?_
        rintro e w4 ⟨rfl, hx4⟩
        have HX4 := Lib.hid (HX3.out.trans hx4)
        clear hx4
        go_wp2_with fail
        refine (works3_any w4 (HG.out.ext HX4.out)).mono ?_
        rintro e w5 ⟨rfl, hx5⟩
        go_wp2_with fail
        go_ret
        exact ⟨rfl, HX4.out.trans hx5⟩
      | ok ts =>
        rintro e w2 ⟨hx2, A2, c2, rfl, _, ho2⟩
        have HX2 := Lib.hid (HX1.out.trans hx2)
        have HR := Lib.hid (HL.out.symm.trans hr)
        have HC2 := Lib.hid (Cells.own ho2)
        have htl := lexS_len hr
        clear hx2 ho2 hr
        by_cases h2 : ts.length = 2
        · obtain ⟨t, u, rfl⟩ : ∃ t u, ts = [t, u] := by
            match ts, h2 with
            | [t, u], _ => exact ⟨t, u, rfl⟩
          obtain ⟨b2, o2, hA2, hb2, hk2⟩ := HC2.out.at_ (by rw [kcells_len]; exact Nat.succ_pos _)
          subst hA2
          have k0 : w2.cell? ⟨b2, o2, none⟩ = some (.int .u8 (t.kind : Int)) := hk2 0 (by rw [kcells_len]; show 0 < 10; decide)
          have k3 : w2.cell? ⟨b2, o2 + 3, none⟩ = some (.string (bstr t.text)) := hk2 3 (by rw [kcells_len]; show 3 < 10; decide)
          clear hk2 h2 htl
          dsimp only [List.length_cons, List.length_nil]
          by_cases hk1 : t.kind = 1
          · have hne : t.text ≠ l := fun e => by
              have := name_of_lex HR.out hk1 e
              rw [HNB.out] at this
              cases this
            have q1 : ((t.kind : Int) == 1) = true := by rw [hk1]; rfl
            have q2 : ((bstr t.text).toList == (bstr l).toList) = false := by rw [bstr_toList, bstr_toList, beq_eq_false_iff_ne]; exact hne
            generalize t.text = tx at *
            generalize (t.kind : Int) = tk at *
            clear hne hk1 HR
            go_wp2_with fail
            refine (isName_v l false HNB hbig w2).mono ?_
            rintro e w3 ⟨rfl, hx3⟩
            have HX3 := Lib.hid (HX2.out.trans hx3)
            clear hx3
            go_wp2_with fail
            refine (risName_v l false HNB hbig w3).mono ?_
            rintro e w' ⟨rfl, rfl⟩
            go_wp2_with fail
            refine (isName_v l false HNB hbig w3).mono ?_
            rintro e w4 ⟨rfl, hx4⟩
            have HX4 := Lib.hid (HX3.out.trans hx4)
            clear hx4
            go_wp2_with fail
            refine (works3_any w4 (HG.out.ext HX4.out)).mono ?_
            rintro e w5 ⟨rfl, hx5⟩
            go_wp2_with fail
            go_ret
            exact ⟨rfl, HX4.out.trans hx5⟩
          · have q1 : ((t.kind : Int) == 1) = false := by rw [beq_eq_false_iff_ne]; omega
            generalize t.text = tx at *
            generalize (t.kind : Int) = tk at *
            clear hk1 HR
            go_wp2_with fail
            refine (isName_v l false HNB hbig w2).mono ?_
            rintro e w3 ⟨rfl, hx3⟩
            have HX3 := Lib.hid (HX2.out.trans hx3)
            clear hx3
            go_wp2_with fail
            refine (risName_v l false HNB hbig w3).mono ?_
            rintro e w' ⟨rfl, rfl⟩
            go_wp2_with fail
            refine (isName_v l false HNB hbig w3).mono ?_
            rintro e w4 ⟨rfl, hx4⟩
            have HX4 := Lib.hid (HX3.out.trans hx4)
            clear hx4
            go_wp2_with fail
            refine (works3_any w4 (HG.out.ext HX4.out)).mono ?_
            rintro e w5 ⟨rfl, hx5⟩
            go_wp2_with fail
            go_ret
            exact ⟨rfl, HX4.out.trans hx5⟩
        · have q2 : ((ts.length : Int) == 2) = false := by rw [beq_eq_false_iff_ne]; omega
          generalize ts.length = tn at *
          go_wp2_with fail
          refine (isName_v l false HNB hbig w2).mono ?_
          rintro e w3 ⟨rfl, hx3⟩
          have HX3 := Lib.hid (HX2.out.trans hx3)
          clear hx3
          go_wp2_with fail
          refine (risName_v l false HNB hbig w3).mono ?_
          rintro e w' ⟨rfl, rfl⟩
          go_wp2_with fail
          refine (isName_v l false HNB hbig w3).mono ?_
          rintro e w4 ⟨rfl, hx4⟩
          have HX4 := Lib.hid (HX3.out.trans hx4)
          clear hx4
          go_wp2_with fail
          refine (works3_any w4 (HG.out.ext HX4.out)).mono ?_
          rintro e w5 ⟨rfl, hx5⟩
          go_wp2_with fail
          go_ret
          exact ⟨rfl, HX4.out.trans hx5⟩
theorem lexNames_s (s : ByteArray) (w : World) (hG : GT w) : Calls Tryd.prog 8 #[.string s] w fun e w' => e = .returned (.bool true) ∧ Ext w w' := by
  have h := lexNames_any s.data.toList w hG
  rwa [show bstr s.data.toList = s from rfl] at h
end Go.Proofs.YtjjeebocebhhaaaDoor
