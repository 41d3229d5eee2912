/- The document's units (interlockref10.Units, Of), walked; few. No condition. -/
import Derived.Test.YtngbpaiohfokbaaCover
namespace Go.Proofs.Ytngbpaiohfokbaa
open Go Go.RowKit
set_option linter.unusedVariables false
set_option linter.unusedSimpArgs false
theorem infoUnitR : (Try.prog.info? 34).map (fun i => (i.zero, i.size, i.bytes)) = some (some (.agg #[.int .i64 0, .int .i64 0]), 2, 16) := by kernel_rfl
def stK (way : Int) (ops : List Int) (k : Nat) : List (Nat × Nat) × Nat := if way = 1 then stU (posOf (pairsTo ops k)) else ([], 0)
theorem stK_zero (way : Int) (ops : List Int) : stK way ops 0 = ([], 0) := by unfold stK; split <;> rfl
theorem stK_hit (ops : List Int) (k : Nat) (hk : k < 1000) (h : ops.getD k 0 = 15) : stK 1 ops (k + 1) = ((stK 1 ops k).1 ++ [((stK 1 ops k).2, k + 1)], k + 1) := by
  unfold stK
  rw [if_pos rfl, if_pos rfl]
  have : pairsTo ops (k + 1) = pairsTo ops k ++ [((pairsTo ops k).length, ⟨k % 1000, Nat.mod_lt _ (by decide)⟩)] := by show (if _ then _ else _) = _; rw [if_pos h]
  rw [this, posOf_snoc, stU_snoc]
  simp only [Nat.mod_eq_of_lt hk]
theorem stK_miss (way : Int) (ops : List Int) (k : Nat) (h : ¬ (way = 1 ∧ ops.getD k 0 = 15)) : stK way ops (k + 1) = stK way ops k := by
  unfold stK
  by_cases hw : way = 1
  · rw [if_pos hw, if_pos hw]
    have : pairsTo ops (k + 1) = pairsTo ops k := by show (if _ then _ else _) = _; rw [if_neg (fun e => h ⟨hw, e⟩)]
    rw [this]
  · rw [if_neg hw, if_neg hw]
theorem stK_len (way : Int) (ops : List Int) (k : Nat) : (stK way ops k).1.length ≤ k := by
  unfold stK
  split
  · rw [stU_len]; unfold posOf; rw [List.length_map]; exact pairsTo_len _ _
  · exact Nat.zero_le _
set_option maxHeartbeats 8000000 in
theorem runits_any (A : Option Addr) (is : List InstrD) (n cap : Nat) (way : Int) (us : List (Nat × Nat)) (w : World) (hn : n = is.length) (hlen : is.length ≤ 1000) (hc : Cells w A (icells is)) (h : Hid (unitsN (opsOf is) way = us)) :
    Calls Try.prog 9 #[.slice A n cap, .int .u8 way] w fun e w' => ∃ A' c', e = .returned (.slice A' us.length c') ∧ (A' = none → c' = 0) ∧ Cells w' A' (ucells us) ∧ Ext w w' := by
  subst hn
  obtain ⟨i0, hi, hz0, hz1, hz2⟩ := info_parts infoUnitR
  have hol : (opsOf is).length = is.length := by simp [opsOf]
  have HUN : Hid (us = if (stK way (opsOf is) is.length).2 < is.length then (stK way (opsOf is) is.length).1 ++ [((stK way (opsOf is) is.length).2, is.length)] else (stK way (opsOf is) is.length).1) := Lib.hid (by rw [← h.out]; unfold unitsN stK; rw [hol])
  have hop := fun i (h : i < is.length) => opsOf_at is i h
  have HOP := Lib.hid hop
  have HC := Lib.hid hc
  clear hop hc hol
  generalize opsOf is = ops at *
  go_enter Try.func9, Try.ntmps9
  go_wp2_with fail
  go_loopw [5, 6, 7] (fun out fr i wr => ∃ (k : Nat) (A' : Option Addr) (c' : Nat), k ≤ is.length ∧ i = .int .i64 k ∧ fr = .int .i64 ((stK way ops k).2 : Int) ∧ out = .slice A' (stK way ops k).1.length c' ∧ (A' = none → c' = 0) ∧ Hid (wr.ownsRow w.heap.size 34 2 (.slice A' (stK way ops k).1.length c') (stK way ops k).1.length (ucells (stK way ops k).1)) ∧ Hid (Ext w wr)) (fun _ _ i _ => is.length - (intOf i).toNat)
  case atStart => exact ⟨0, none, 0, Nat.zero_le _, rfl, by rw [stK_zero]; rfl, by rw [stK_zero]; rfl, fun _ => rfl, by rw [stK_zero]; exact World.ownsRow_nil _ _ _ _, Ext.refl _⟩
  case round =>
    obtain ⟨k, A', c', hk, rfl, rfl, rfl, hz, HO, HX⟩ := hrel
    obtain ⟨wa, rfl⟩ : ∃ wa : World, wa = wr := ⟨_, rfl⟩
    have hsl := stK_len way ops k
    by_cases hlt : k < is.length
    · have d0 : decide ((k : Int) < (is.length : Int)) = true := by simp; exact hlt
      obtain ⟨b, off, rfl, hb, hcc⟩ := HC.out.at_ (by rw [icells_len]; omega)
      have hbw : b < w.heap.size := hb
      have hopk := HOP.out k hlt
      have c1 : wa.cell? ⟨b, off + k * 13, none⟩ = some (.int .u8 (is[k]).op) := (HX.out.cell (p := ⟨b, _, none⟩) hbw).trans ((hcc _ (by rw [icells_len]; omega)).trans (icells_at is k 0 hlt (by omega)))
      generalize is[k] = x at *
      clear hcc
      by_cases hw : way = 1
      · subst hw
        by_cases h15 : x.op = 15
        · rw [h15] at c1 hopk
          have HST := Lib.hid (stK_hit ops k (by omega) hopk)
          generalize stK 1 ops k = st at *
          obtain ⟨st, fr⟩ := st
          dsimp only at *
          have hown := HO.out.alloc (.cells #[.int .i64 (fr : Int), .int .i64 ((k : Int) + 1)] 34)
          have hex : Ext wa (wa.alloc (.cells #[.int .i64 (fr : Int), .int .i64 ((k : Int) + 1)] 34)) := Ext.alloc _ _
          have HXA : Hid (Ext w (wa.alloc (.cells #[.int .i64 (fr : Int), .int .i64 ((k : Int) + 1)] 34))) := Ext.trans HX.out hex
          clear hex
          go_wp2_with (at_builtin; refine wpList_grow rfl _ _ 30 rfl w.heap.size 34 i0 _ 2 16 Try.underlying30 hi hz0 hz1 hz2 rfl (by decide) _ _ _ rfl hown _ 1 1 [.int .i64 (fr : Int), .int .i64 ((k : Int) + 1)] rfl (by simp) rfl ?c1 ?c2 ?c3 ?c4 HXA.out.size ?_)
          case c1 => exact Cells.new _ 34 #[.int .i64 (fr : Int), .int .i64 ((k : Int) + 1)]
          case c2 => first | (intro u hu; simp at hu; rcases hu with rfl | rfl <;> rfl) | exact ⟨rfl, rfl⟩
          case c3 => unfold maxLen; omega
          case c4 => omega
          intro A2 c2 w4 z4 hown4 hg4
          have HO4 := Lib.hid hown4
          have HX4 : Hid (Ext w w4) := Below.grown HXA.out hg4 HXA.out.size (fun k hk => (hown.lt k hk).1)
          clear hown hown4 hg4 HXA
          go_wp2_with fail
          go_roundw
          case rel =>
            refine ⟨k + 1, A2, c2, by omega, by go_num, by rw [HST.out]; go_num, by rw [HST.out]; simp, z4, ?_, HX4⟩
            rw [HST.out, ucells_snoc, List.length_append]
            have : ((k + 1 : Nat) : Int) = (k : Int) + 1 := by omega
            rw [this]
            exact HO4
          case measure => simp [intOf]; omega
        · have e15 : (x.op == 15) = false := beq_eq_false_iff_ne.2 h15
          have HST := Lib.hid (stK_miss 1 ops k (by rw [hopk]; exact fun e => h15 e.2))
          go_wp2_with fail
          go_roundw
          case rel => exact ⟨k + 1, A', c', by omega, by go_num, by rw [HST.out], by rw [HST.out], hz, by rw [HST.out]; exact HO, HX⟩
          case measure => simp [intOf]; omega
      · have e5 : (way == 1) = false := beq_eq_false_iff_ne.2 hw
        have HST := Lib.hid (stK_miss way ops k (fun e => hw e.1))
        go_wp2_with fail
        go_roundw
        case rel => exact ⟨k + 1, A', c', by omega, by go_num, by rw [HST.out], by rw [HST.out], hz, by rw [HST.out]; exact HO, HX⟩
        case measure => simp [intOf]; omega
    · obtain rfl : k = is.length := by omega
      have d0 : decide ((is.length : Int) < (is.length : Int)) = false := by simp
      have hun := HUN.out
      clear HUN
      generalize stK way ops is.length = st at *
      obtain ⟨st, fr⟩ := st
      dsimp only at *
      by_cases hfr : fr < is.length
      · have d1 : decide ((fr : Int) < (is.length : Int)) = true := by simp; exact hfr
        rw [if_pos hfr] at hun
        have HUN := Lib.hid hun
        clear hun
        have hown := HO.out.alloc (.cells #[.int .i64 (fr : Int), .int .i64 (is.length : Int)] 34)
        have hex : Ext wa (wa.alloc (.cells #[.int .i64 (fr : Int), .int .i64 (is.length : Int)] 34)) := Ext.alloc _ _
        have HXA : Hid (Ext w (wa.alloc (.cells #[.int .i64 (fr : Int), .int .i64 (is.length : Int)] 34))) := Ext.trans HX.out hex
        clear hex
        go_wp2_with (at_builtin; refine wpList_grow rfl _ _ 30 rfl w.heap.size 34 i0 _ 2 16 Try.underlying30 hi hz0 hz1 hz2 rfl (by decide) _ _ _ rfl hown _ 1 1 [.int .i64 (fr : Int), .int .i64 (is.length : Int)] rfl (by simp) rfl ?c1 ?c2 ?c3 ?c4 HXA.out.size ?_)
        case c1 => exact Cells.new _ 34 #[.int .i64 (fr : Int), .int .i64 (is.length : Int)]
        case c2 => first | (intro u hu; simp at hu; rcases hu with rfl | rfl <;> rfl) | exact ⟨rfl, rfl⟩
        case c3 => unfold maxLen; omega
        case c4 => omega
        intro A2 c2 w4 z4 hown4 hg4
        have HO4 := Lib.hid hown4
        have HX4 : Hid (Ext w w4) := Below.grown HXA.out hg4 HXA.out.size (fun k hk => (hown.lt k hk).1)
        clear hown hown4 hg4 HXA
        go_wp2_with fail
        go_ret
        rw [HUN.out, ucells_snoc, List.length_append]
        exact ⟨A2, c2, rfl, z4, Cells.own HO4.out, HX4.out⟩
      · have d1 : decide ((fr : Int) < (is.length : Int)) = false := by simp; omega
        rw [if_neg hfr] at hun
        have HUN := Lib.hid hun
        clear hun
        go_wp2_with fail
        go_ret
        rw [HUN.out]
        exact ⟨A', c', rfl, hz, Cells.own HO.out, HX.out⟩
set_option maxHeartbeats 4000000 in
set_option maxRecDepth 4000 in
theorem rof_any (A : Option Addr) (is : List InstrD) (n cap : Nat) (way x r : Int) (us : List (Nat × Nat)) (w : World) (hn : n = is.length) (hlen : is.length ≤ 1000) (hc : Cells w A (icells is)) (h : Hid (unitsN (opsOf is) way = us)) (hul : us.length ≤ 2000) (hr : Hid (ofA x us 0 = r)) :
    Calls Try.prog 11 #[.slice A n cap, .int .u8 way, .int .i64 x] w fun e w' => e = .returned (.int .i64 r) ∧ Ext w w' := by
  subst hn
  go_enter Try.func11, Try.ntmps11
  go_wp2_with fail
  refine (runits_any A is is.length cap way us w rfl hlen hc h).mono ?_
  rintro e w1 ⟨A', c', rfl, _, hcu, hx⟩
  have HCU := Lib.hid hcu
  have HX := Lib.hid hx
  clear hcu hx hc
  go_wp2_with fail
  go_loopw [8] (fun i wr => wr = w1 ∧ ∃ k : Nat, k ≤ us.length ∧ i = .int .i64 k ∧ Hid (ofA x us 0 = ofA x (us.drop k) k)) (fun i _ => us.length - (intOf i).toNat)
  case atStart => exact ⟨rfl, 0, Nat.zero_le _, rfl, rfl⟩
  case round =>
    obtain ⟨hwr, k, hk, rfl, HO⟩ := hrel
    subst hwr
    by_cases hlt : k < us.length
    · have d0 : decide ((k : Int) < (us.length : Int)) = true := by simp; exact hlt
      obtain ⟨b, off, rfl, hb, hcc⟩ := HCU.out.at_ (by rw [ucells_len]; omega)
      obtain ⟨t1, t2⟩ := ucells_at us k hlt
      have c1 := (hcc _ (by rw [ucells_len]; omega)).trans t1
      have c2 : wr.cell? ⟨b, off + k * 2 + 1, none⟩ = some (.int .i64 ((us[k]).2 : Int)) := by rw [Nat.add_assoc]; exact (hcc _ (by rw [ucells_len]; omega)).trans t2
      have hdr := List.drop_eq_getElem_cons hlt
      generalize us[k] = u at *
      obtain ⟨a, q⟩ := u
      have hof : ofA x us 0 = if inU (a, q) x = true then (k : Int) else ofA x (us.drop (k + 1)) (k + 1) := by rw [HO.out, hdr]; rfl
      have HOF := Lib.hid hof
      clear hof hdr t1 t2 hcc HO
      dsimp only at c1 c2
      by_cases h1 : (a : Int) ≤ x
      · have e1 : decide ((a : Int) ≤ x) = true := decide_eq_true h1
        by_cases h2 : x < (q : Int)
        · have e2 : decide (x < (q : Int)) = true := decide_eq_true h2
          have hre := HOF.out
          rw [if_pos (by unfold inU; rw [e1, e2]; rfl), hr.out] at hre
          have HRE := Lib.hid hre
          clear hre HOF
          go_wp2_with fail
          go_ret
          exact ⟨by rw [HRE.out]; rfl, HX.out⟩
        · have e2 : decide (x < (q : Int)) = false := decide_eq_false h2
          have hre := HOF.out
          rw [if_neg (by unfold inU; rw [e1, e2]; decide)] at hre
          have HRE := Lib.hid hre
          clear hre HOF
          go_wp2_with fail
          go_roundw
          case rel => exact ⟨by first | trivial | rfl, k + 1, by omega, by go_num, HRE⟩
          case measure => simp [intOf]; omega
      · have e1 : decide ((a : Int) ≤ x) = false := decide_eq_false h1
        have hre := HOF.out
        rw [if_neg (by unfold inU; rw [e1]; simp)] at hre
        have HRE := Lib.hid hre
        clear hre HOF
        go_wp2_with fail
        go_roundw
        case rel => exact ⟨by first | trivial | rfl, k + 1, by omega, by go_num, HRE⟩
        case measure => simp [intOf]; omega
    · obtain rfl : k = us.length := by omega
      have hre := HO.out
      rw [List.drop_length, hr.out] at hre
      have HRE := Lib.hid hre
      clear hre HO
      have e1 : decide ((us.length : Int) < (us.length : Int)) = false := by simp
      go_wp2_with fail
      go_ret
      exact ⟨by rw [HRE.out]; rfl, HX.out⟩
def fewN (is : List InstrD) (top : Int) : Bool := decide ((is.length : Int) ≤ top) && is.all fun x => decide (x.key.2.1 ≤ 40) && decide (x.vals.2.1 ≤ 40)
set_option maxHeartbeats 4000000 in
theorem few_any (A : Option Addr) (is : List InstrD) (n cap : Nat) (top : Int) (r : Bool) (w : World) (hn : n = is.length) (hc : Cells w A (icells is)) (hr : Hid (fewN is top = r)) (ht : top ≤ 1000) :
    Calls Try.prog 5 #[.slice A n cap, .int .i64 top] w fun e w' => e = .returned (.bool r) ∧ w = w' := by
  subst hn
  have HC := Lib.hid hc
  clear hc
  by_cases h0 : top < (is.length : Int)
  · have e0 : decide (top < (is.length : Int)) = true := decide_eq_true h0
    have HR : Hid (r = false) := Lib.hid (by rw [← hr.out]; unfold fewN; rw [decide_eq_false (by omega)]; rfl)
    clear hr
    go_enter Try.func5, Try.ntmps5
    go_wp2_with fail
    go_ret
    exact ⟨by rw [HR.out]; rfl, rfl⟩
  · have e0 : decide (top < (is.length : Int)) = false := decide_eq_false h0
    have HR : Hid (r = is.all fun x => decide (x.key.2.1 ≤ 40) && decide (x.vals.2.1 ≤ 40)) := Lib.hid (by rw [← hr.out]; unfold fewN; rw [decide_eq_true (by omega)]; rfl)
    clear hr
    go_enter Try.func5, Try.ntmps5
    go_wp2_with fail
    go_loop [5] (fun i => ∃ k : Nat, k ≤ is.length ∧ i = .int .i64 k ∧ Hid (r = (is.drop k).all fun x => decide (x.key.2.1 ≤ 40) && decide (x.vals.2.1 ≤ 40))) (fun i => is.length - (intOf i).toNat)
    case atStart => exact ⟨0, Nat.zero_le _, rfl, HR⟩
    case round =>
      obtain ⟨k, hk, rfl, HO⟩ := hrel
      clear HR
      by_cases hlt : k < is.length
      · have d0 : decide ((k : Int) < (is.length : Int)) = true := by simp; exact hlt
        obtain ⟨b, off, rfl, hb, hcc⟩ := HC.out.at_ (by rw [icells_len]; omega)
        have c11 : w.cell? ⟨b, off + k * 13 + 11, none⟩ = some (.slice is[k].key.1 is[k].key.2.1 is[k].key.2.2) := by rw [Nat.add_assoc]; exact (hcc _ (by rw [icells_len]; omega)).trans (icells_at is k 11 hlt (by omega))
        have c12 : w.cell? ⟨b, off + k * 13 + 12, none⟩ = some (.slice is[k].vals.1 is[k].vals.2.1 is[k].vals.2.2) := by rw [Nat.add_assoc]; exact (hcc _ (by rw [icells_len]; omega)).trans (icells_at is k 12 hlt (by omega))
        have hre := HO.out
        rw [List.drop_eq_getElem_cons hlt, List.all_cons] at hre
        generalize is[k] = x at *
        obtain ⟨op, node, mode, table, row, col, var, goes, eq, frm, upto, ⟨ka, kl, kc⟩, ⟨va, vl, vc⟩⟩ := x
        dsimp only at c11 c12 hre
        clear hcc HO
        by_cases h1 : kl ≤ 40
        · have e1 : decide ((40 : Int) < (kl : Int)) = false := by simp; omega
          by_cases h2 : vl ≤ 40
          · have e2 : decide ((40 : Int) < (vl : Int)) = false := by simp; omega
            rw [decide_eq_true h1, decide_eq_true h2, Bool.true_and, Bool.true_and] at hre
            have HRE := Lib.hid hre
            clear hre
            go_wp2_with fail
            go_round
            case rel => exact ⟨k + 1, by omega, by go_num, HRE⟩
            case measure => simp [intOf]; omega
          · have e2 : decide ((40 : Int) < (vl : Int)) = true := by simp; omega
            rw [decide_eq_true h1, decide_eq_false h2, Bool.and_false, Bool.false_and] at hre
            have HRE := Lib.hid hre
            clear hre
            go_wp2_with fail
            go_ret
            exact ⟨by rw [HRE.out]; rfl, rfl⟩
        · have e1 : decide ((40 : Int) < (kl : Int)) = true := by simp; omega
          rw [decide_eq_false h1, Bool.false_and, Bool.false_and] at hre
          have HRE := Lib.hid hre
          clear hre
          go_wp2_with fail
          go_ret
          exact ⟨by rw [HRE.out]; rfl, rfl⟩
      · obtain rfl : k = is.length := by omega
        have hre := HO.out
        rw [List.drop_length, List.all_nil] at hre
        have HRE := Lib.hid hre
        clear hre HO
        have d0 : decide ((is.length : Int) < (is.length : Int)) = false := by simp
        go_wp2_with fail
        go_ret
        exact ⟨by rw [HRE.out]; rfl, rfl⟩
end Go.Proofs.Ytngbpaiohfokbaa
