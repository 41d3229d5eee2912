/- interlocklaw08.few, walked. Condition: the instructions lie in memory. -/
import Derived.Test.YtngbpaiohfokbaaCrE
namespace Go.Proofs.Ytngbpaiohfokbaa
open Go Go.RowKit
set_option linter.unusedVariables false
set_option linter.unusedSimpArgs false
def fewV (vp : List (HeadD × List TermD)) : Bool := vp.all fun p => decide (p.2.length ≤ 40)
def fewF (f : FullI) : Bool := (decide (f.kt.length ≤ 40) && decide (f.vp.length ≤ 40)) && fewV f.vp
def fewL (l : List FullI) : Bool := decide (l.length ≤ 60) && l.all fewF
theorem fewL_spec {l : List FullI} (h : fewL l = true) : l.length ≤ 60 ∧ ∀ f ∈ l, f.few := by
  unfold fewL at h
  rw [Bool.and_eq_true, decide_eq_true_eq, List.all_eq_true] at h
  refine ⟨h.1, fun f hf => ?_⟩
  have := h.2 f hf
  unfold fewF fewV at this
  rw [Bool.and_eq_true, Bool.and_eq_true, decide_eq_true_eq, decide_eq_true_eq, List.all_eq_true] at this
  exact ⟨by omega, by omega, fun p hp => by have := this.2 p hp; rw [decide_eq_true_eq] at this; omega⟩
set_option maxRecDepth 100000 in
set_option maxHeartbeats 16000000 in
theorem few8_any (A : Option Addr) (l : List FullI) (n c : Nat) (w : World) (hn : n = l.length) (hA : Row w A l) (b : Bool) (hb : Hid (fewL l = b)) :
    Calls Try.prog 15 #[.slice A n c, .int .i64 60] w fun e w' => e = .returned (.bool b) ∧ w = w' := by
  subst hn
  have HO := hb
  clear hb
  unfold fewL at HO
  by_cases h60 : l.length ≤ 60
  rotate_left
  · have d0 : decide ((l.length : Int) > 60) = true := decide_eq_true (by omega)
    have d1 : decide ((60 : Int) < (l.length : Int)) = true := d0
    have HF : Hid (b = false) := Lib.hid (by rw [← HO.out, decide_eq_false h60]; rfl)
    clear HO hA h60
    generalize l.length = n at *
    go_enter Try.func15, Try.ntmps15
    go_wp2_with fail
    go_ret
    rw [HF.out]
    exact ⟨rfl, rfl⟩
  have d0 : decide ((l.length : Int) > 60) = false := decide_eq_false (by omega)
  have d1 : decide ((60 : Int) < (l.length : Int)) = false := d0
  rw [decide_eq_true h60, Bool.true_and] at HO
  have HA := Lib.hid hA
  have HL := Lib.hid h60
  clear hA h60
  go_enter Try.func15, Try.ntmps15
  go_wp2_with fail
  clear d0 d1
  go_loopw [5] (fun i wr => ∃ k : Nat, k ≤ l.length ∧ i = .int .i64 k ∧ w = wr ∧ Hid (∀ j (hj : j < l.length), j < k → fewF l[j] = true)) (fun i _ => l.length - (intOf i).toNat)
  case atStart => exact ⟨0, Nat.zero_le _, rfl, rfl, Lib.hid fun j hj h => by omega⟩
  case round =>
    obtain ⟨k, hk, rfl, rfl, HJ⟩ := hrel
    have hl := HL.out
    by_cases hlt : k < l.length
    rotate_left
    · obtain rfl : k = l.length := by omega
      have d2 : decide ((l.length : Int) < (l.length : Int)) = false := by simp
      have d3 : decide (l.length < l.length) = false := by simp
      have HBT : Hid (b = true) := Lib.hid (by rw [← HO.out]; exact all_yes _ l fun j hj => HJ.out j hj hj)
      go_wp2_with fail
      go_ret
      rw [HBT.out]
      exact ⟨rfl, rfl⟩
    have d2 : decide ((k : Int) < (l.length : Int)) = true := decide_eq_true (by omega)
    have d3 : decide (k < l.length) = true := decide_eq_true hlt
    have q0 : (k : Int) < (l.length : Int) := by omega
    have HLT := Lib.hid hlt
    obtain ⟨b1, off, rfl, hb⟩ := row_block HA.out (by omega)
    have hx := row_cell HA.out k hlt
    have hat := HA.out.2 _ (List.getElem_mem hlt)
    have HNO : Hid (fewF l[k] = false → b = false) := Lib.hid fun h => by rw [← HO.out]; exact all_no _ l k hlt h
    have HYS : Hid (fewF l[k] = true → ∀ j (hj : j < l.length), j < k + 1 → fewF l[j] = true) := Lib.hid fun h j hj h1 => by
      by_cases e : j = k
      · subst e; exact h
      · exact HJ.out j hj (by omega)
    generalize l[k] = f at *
    have x11 : w.cell? ⟨b1, off + k * 13 + 11, none⟩ = some (.slice f.x.key.1 f.x.key.2.1 f.x.key.2.2) := hx 11 (by decide)
    have x12 : w.cell? ⟨b1, off + k * 13 + 12, none⟩ = some (.slice f.x.vals.1 f.x.vals.2.1 f.x.vals.2.2) := hx 12 (by decide)
    rw [hat.key.1] at x11
    rw [hat.vn] at x12
    have HV := Lib.hid hat.vals
    have HE := Lib.hid hat.each
    clear hx hat
    unfold fewF at HNO HYS
    by_cases h1 : f.kt.length ≤ 40
    rotate_left
    · have e0 : decide ((f.kt.length : Int) > 40) = true := decide_eq_true (by omega)
      have e1 : decide ((40 : Int) < (f.kt.length : Int)) = true := e0
      have HBF := Lib.hid (HNO.out (by rw [decide_eq_false h1]; rfl))
      clear h1 hb
      go_wp2_with fail
      go_ret
      rw [HBF.out]
      exact ⟨rfl, rfl⟩
    have e0 : decide ((f.kt.length : Int) > 40) = false := decide_eq_false (by omega)
    have e1 : decide ((40 : Int) < (f.kt.length : Int)) = false := e0
    rw [decide_eq_true h1, Bool.true_and] at HNO HYS
    by_cases h2 : f.vp.length ≤ 40
    rotate_left
    · have e2 : decide ((f.vp.length : Int) > 40) = true := decide_eq_true (by omega)
      have e3 : decide ((40 : Int) < (f.vp.length : Int)) = true := e2
      have HBF := Lib.hid (HNO.out (by rw [decide_eq_false h2]; rfl))
      clear h1 h2 hb
      go_wp2_with fail
      go_ret
      rw [HBF.out]
      exact ⟨rfl, rfl⟩
    have e2 : decide ((f.vp.length : Int) > 40) = false := decide_eq_false (by omega)
    have e3 : decide ((40 : Int) < (f.vp.length : Int)) = false := e2
    rw [decide_eq_true h2, Bool.true_and] at HNO HYS
    clear h1 hb
    go_wp2_with fail
    clear e0 e1 e2 e3
    go_loopw [6] (fun i wr => ∃ m : Nat, m ≤ f.vp.length ∧ i = .int .i64 m ∧ w = wr ∧ Hid (∀ j (hj : j < f.vp.length), j < m → decide (f.vp[j].2.length ≤ 40) = true)) (fun i _ => f.vp.length - (intOf i).toNat)
    case atStart => exact ⟨0, Nat.zero_le _, rfl, rfl, Lib.hid fun j hj h => by omega⟩
    case round =>
      obtain ⟨m, hm, rfl, rfl, HM⟩ := hrel
      by_cases hml : m < f.vp.length
      rotate_left
      · obtain rfl : m = f.vp.length := by omega
        have d5 : decide ((f.vp.length : Int) < (f.vp.length : Int)) = false := by simp
        have d6 : decide (f.vp.length < f.vp.length) = false := by simp
        have HN := Lib.hid (HYS.out (all_yes _ f.vp fun j hj => HM.out j hj hj))
        clear hml hm
        go_wp2_with fail
        go_roundw
        case rel => exact ⟨k + 1, by have := HLT.out; omega, by go_num, by first | rfl | trivial, HN⟩
        case measure => simp [intOf]; have := HLT.out; omega
      have d5 : decide ((m : Int) < (f.vp.length : Int)) = true := decide_eq_true (by omega)
      have d6 : decide (m < f.vp.length) = true := decide_eq_true hml
      have q1 : (m : Int) < (f.vp.length : Int) := by omega
      obtain ⟨b2, off2, hA2, hb2, hcc2⟩ := HV.out.at_ (by rw [pcells_len]; omega)
      rw [hA2] at x12
      have v0 : w.cell? ⟨b2, off2 + m, none⟩ = some (hd f.vp[m].1) := (hcc2 m (by rw [pcells_len]; omega)).trans (pcells_at f.vp m hml)
      have hsh := HE.out _ (List.getElem_mem hml)
      have HN2 : Hid (decide (f.vp[m].2.length ≤ 40) = false → b = false) := Lib.hid fun h => HNO.out (all_no _ f.vp m hml h)
      have HY2 : Hid (decide (f.vp[m].2.length ≤ 40) = true → ∀ j (hj : j < f.vp.length), j < m + 1 → decide (f.vp[j].2.length ≤ 40) = true) := Lib.hid fun h j hj h1 => by
        by_cases e : j = m
        · subst e; exact h
        · exact HM.out j hj (by omega)
      clear hcc2
      generalize f.vp[m] = pv at *
      obtain ⟨⟨pa, pn, pc⟩, ts⟩ := pv
      obtain ⟨r1, _, _⟩ := hsh
      simp only [hd] at r1 v0 HN2 HY2
      subst r1
      by_cases h4 : ts.length ≤ 40
      · have g0 : decide ((ts.length : Int) > 40) = false := decide_eq_false (by omega)
        have g1 : decide ((40 : Int) < (ts.length : Int)) = false := g0
        have HN := Lib.hid (HY2.out (decide_eq_true h4))
        clear h4
        go_wp2_with fail
        go_roundw
        case rel => exact ⟨m + 1, by omega, by go_num, by first | rfl | trivial, HN⟩
        case measure => simp [intOf]; omega
      · have g0 : decide ((ts.length : Int) > 40) = true := decide_eq_true (by omega)
        have g1 : decide ((40 : Int) < (ts.length : Int)) = true := g0
        have HBF := Lib.hid (HN2.out (decide_eq_false h4))
        clear h4
        go_wp2_with fail
        go_ret
        rw [HBF.out]
        exact ⟨rfl, rfl⟩
end Go.Proofs.Ytngbpaiohfokbaa
