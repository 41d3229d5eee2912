/- The program's within: whatever is done within. No condition. -/
import Derived.Test.YtcccnicldbpieaaGreatDoorPsE
import Derived.Deep.Cut
namespace Go.Proofs.YtcccnicldbpieaaGreatDoor
open Go Go.RowKit
set_option linter.unusedVariables false
set_option linter.unusedSimpArgs false
/-- A block set beside the reader's own that may be written, too. -/
def Or (M X : Nat → Prop) (b : Nat) : Prop := M b ∨ X b
def OkX (X : Nat → Prop) (w : World) (p B : Nat) (R R' : PRep) (s' : Ps) (w' : World) : Prop := PS w' p B s' R' ∧ Moves w (Or (MineP p R) X) w' (Or (MineP p R') X)
theorem Moves.or {w w' : World} {M M' : Nat → Prop} (h : Moves w M w' M') (X : Nat → Prop) : Moves w (Or M X) w' (Or M' X) :=
  ⟨h.os, h.tape, h.output, h.size, fun b hb hM => h.keep b hb fun k => hM (.inl k), fun b hb => by
    rcases hb with hb | hb
    · rcases h.mine b hb with h1 | h1
      · exact .inl (.inl h1)
      · exact .inr h1
    · exact .inl (.inr hb)⟩
theorem Moves.unor {w w1 w2 : World} {M M' X : Nat → Prop} (hx : Ext w w1) (h : Moves w1 (Or M X) w2 (Or M' X)) (hX : ∀ b, X b → w.heap.size ≤ b) (hM : ∀ b, M b → b < w1.heap.size) : Moves w M w2 M' :=
  ⟨h.os.trans hx.os, h.tape.trans hx.tape, h.output.trans hx.output, Nat.le_trans hx.size h.size, fun b hb hm => (h.keep b (Nat.lt_of_lt_of_le hb hx.size) fun k => by
      rcases k with k | k
      · exact hm k
      · have := hX b k; omega).trans (hx.block b hb), fun b hb => by
    rcases h.mine b (.inl hb) with (h1 | h1) | h1
    · exact .inl h1
    · exact .inr (hX b h1)
    · exact .inr (Nat.le_trans hx.size h1)⟩
def PostG {α : Type} (X : Nat → Prop) (w : World) (p B : Nat) (R : PRep) (r : Res α) (V : α → PRep → World → Prop) (e : Ending) (w' : World) : Prop :=
  match r with
  | .ok a s' => e = .returned (.tuple #[]) ∧ ∃ R', OkX X w p B R R' s' w' ∧ V a R' w'
  | .err er a => e = panicV er ∧ ∃ s' R', s'.hd.at_ = a ∧ OkX X w p B R R' s' w'
theorem OkX.trans {X : Nat → Prop} {w w1 w2 : World} {p B : Nat} {R R1 R2 : PRep} {s : Ps} (h : Moves w (Or (MineP p R) X) w1 (Or (MineP p R1) X)) (k : OkX X w1 p B R1 R2 s w2) : OkX X w p B R R2 s w2 := ⟨k.1, h.trans k.2⟩
theorem PostG.trans {α : Type} {X : Nat → Prop} {w w1 w2 : World} {p B : Nat} {R R1 : PRep} {r : Res α} {V : α → PRep → World → Prop} {e : Ending} (h : Moves w (Or (MineP p R) X) w1 (Or (MineP p R1) X)) (k : PostG X w1 p B R1 r V e w2) : PostG X w p B R r V e w2 := by
  cases r with
  | ok a s => obtain ⟨h1, R', h2, h3⟩ := k; exact ⟨h1, R', h2.trans h, h3⟩
  | err er a => obtain ⟨h1, s', R', h2, h3⟩ := k; exact ⟨h1, s', R', h2, h3.trans h⟩
theorem PostG.ofU {X : Nat → Prop} {w : World} {p B : Nat} {R : PRep} {r : Res Unit} {e : Ending} {w' : World} (h : PostU w p B R r e w') : PostG X w p B R r (fun _ _ _ => True) e w' := by
  cases r with
  | ok a s => obtain ⟨h1, R', h2, h3⟩ := h; exact ⟨h1, R', ⟨h2, h3.or X⟩, trivial⟩
  | err er a => obtain ⟨h1, s', h2, R', h3, h4⟩ := h; exact ⟨h1, s', R', h2, h3, h4.or X⟩
theorem PostG.unit {α : Type} {X : Nat → Prop} {w : World} {p B : Nat} {R : PRep} {r : Res α} {V : α → PRep → World → Prop} {e : Ending} {w' : World} (h : PostG X w p B R r V e w') : (∃ a s' R', r = .ok a s' ∧ e = .returned (.tuple #[]) ∧ OkX X w p B R R' s' w' ∧ V a R' w') ∨ (∃ er a, r = .err er a ∧ e = panicV er ∧ ∃ s' R', s'.hd.at_ = a ∧ OkX X w p B R R' s' w') := by
  cases r with
  | ok a s' => obtain ⟨h1, R', h2, h3⟩ := h; exact .inl ⟨a, s', R', rfl, h1, h2, h3⟩
  | err er a => exact .inr ⟨er, a, rfl, h⟩
/-- Nothing else was written. -/
def noX : Nat → Prop := fun _ => False
theorem PostG.toU {w : World} {p B : Nat} {R : PRep} {r : Res Unit} {V : Unit → PRep → World → Prop} {e : Ending} {w' : World} (h : PostG noX w p B R r V e w') : PostU w p B R r e w' := by
  have hm : ∀ {w' R'}, Moves w (Or (MineP p R) noX) w' (Or (MineP p R') noX) → Moves w (MineP p R) w' (MineP p R') := fun h => ⟨h.os, h.tape, h.output, h.size, fun b hb hM => h.keep b hb (fun k => by rcases k with k | k; exact hM k; exact k), fun b hb => by
    rcases h.mine b (.inl hb) with (h1 | h1) | h1
    · exact .inl h1
    · exact h1.elim
    · exact .inr h1⟩
  cases r with
  | ok a s => obtain ⟨h1, R', h2, _⟩ := h; exact ⟨h1, R', h2.1, hm h2.2⟩
  | err er a => obtain ⟨h1, s', R', h2, h3⟩ := h; exact ⟨h1, s', h2, R', h3.1, hm h3.2⟩
theorem PS.setDeep {w : World} {p B : Nat} {s : Ps} {R : PRep} (h : PS w p B s R) (d : Nat) (hd : d ≤ 64) : PS (w.setCell ⟨p, 2, none⟩ (.int .i64 (d : Int))) p B { s with deep := d } R ∧ Moves w (MineP p R) (w.setCell ⟨p, 2, none⟩ (.int .i64 (d : Int))) (MineP p R) := by
  refine ⟨⟨?_, fun k hk => ?_, h.tcap, h.tlow, h.nodes, ?_, h.pB, ⟨h.good.last, hd⟩⟩, Moves.set (.inl rfl)⟩
  · have := h.blk.put 2 (.int .i64 (d : Int))
    simpa using this
  · have hne : R.bt ≠ p := by have := h.tlow; have := h.pB; omega
    exact (World.cell?_of_block (w := w) (Below.heap_setCell w ⟨p, 2, none⟩ _ R.bt hne)).trans (h.toks k hk)
  · refine h.ns.keep fun b hb => Below.heap_setCell w ⟨p, 2, none⟩ _ b fun e => ?_
    rw [e] at hb
    exact h.ns.not_mine h.blk (by decide) (by decide) hb
theorem within_no {α : Type} {a z : Bs} {body : Pm α} {s : Ps} (h : isP a s = false) : withinP a z body s = .err 50 s.hd.at_ := by unfold withinP; rw [h]; rfl
theorem within_deep {α : Type} {a z : Bs} {body : Pm α} {s : Ps} (h : isP a s = true) (hd : s.deep = 64) : withinP a z body s = .err 51 s.hd.at_ := by unfold withinP; rw [if_pos h, if_pos hd]
theorem within_yes {α : Type} {a z : Bs} {body : Pm α} {s : Ps} (h : isP a s = true) (hd : s.deep ≠ 64) : withinP a z body s = (body { s.adv with deep := s.deep + 1 }).bind fun x s => if z = [] then .ok x { s with deep := s.deep - 1 } else (takeP z s).bind fun _ s => .ok x { s with deep := s.deep - 1 } := by unfold withinP; rw [if_pos h, if_neg hd]
set_option maxRecDepth 100000 in
set_option maxHeartbeats 4000000 in
theorem pwithin_any {α : Type} (X : Nat → Prop) (w : World) (p B : Nat) (s : Ps) (R : PRep) (a z : Bs) (K : Nat) (first cap : Array Value) (body : Pm α) (V : α → PRep → World → Prop) (h : PS w p B s R) (he : ∀ args w, (callFunc K args).run Tryz.prog w = .ok (.enter K args) w)
    (hV : ∀ x R1 w1 R2 w2, V x R1 w1 → Moves w1 (MineP p R1) w2 (MineP p R2) → V x R2 w2)
    (hdeep : isP a s = true → s.deep ≠ 64 → ∀ x s', body { s.adv with deep := s.deep + 1 } = .ok x s' → s'.deep = s.deep + 1)
    (hbody : isP a s = true → s.deep ≠ 64 → ∀ (wr : World) (R' : PRep), Moves w (MineP p R) wr (MineP p R') → PS wr p B { s.adv with deep := s.deep + 1 } R' → Calls Tryz.prog K (first ++ cap) wr (PostG X wr p B R' (body { s.adv with deep := s.deep + 1 }) V)) :
    Calls Tryz.prog 106 #[.pointer (some ⟨p, 0, none⟩), .string (bstr a), .string (bstr z), .func (.func K) first cap] w (PostG X w p B R (withinP a z body s) V) := by
  have HP := Lib.hid h
  have HE := Lib.hid he
  have HV := Lib.hid hV
  have HDP := Lib.hid hdeep
  have HB := Lib.hid hbody
  clear h he hV hbody hdeep
  cases hi : isP a s with
  | false =>
    have HI := Lib.hid hi
    have HW : Hid (withinP a z body s = .err 50 s.hd.at_) := Lib.hid (within_no hi)
    clear hi
    go_enter Tryz.func106, Tryz.ntmps106
    go_wp2_with fail
    refine (pis_any w p B s R a false HI HP.out).mono ?_
    rintro e w1 ⟨rfl, hx1⟩
    have HF : Hid (PostG X w p B R (withinP a z body s) V (panicV 50) w1) := Lib.hid (by rw [HW.out]; exact ⟨rfl, s, R, rfl, HP.out.ext hx1, (Moves.ext hx1).or X⟩)
    clear hx1
    go_wp2_with fail
    refine (pfail_any _ p 50).mono ?_
    rintro e w2 ⟨rfl, rfl⟩
    exact panics_post (P := Tryz.prog) (fn := Tryz.f106) rfl HF.out
  | true =>
    have HI := Lib.hid hi
    by_cases hd : s.deep = 64
    · have HW : Hid (withinP a z body s = .err 51 s.hd.at_) := Lib.hid (within_deep hi hd)
      have HD := Lib.hid hd
      clear hi hd
      go_enter Tryz.func106, Tryz.ntmps106
      go_wp2_with fail
      refine (pis_any w p B s R a true HI HP.out).mono ?_
      rintro e w1 ⟨rfl, hx1⟩
      have HF : Hid (PostG X w p B R (withinP a z body s) V (panicV 51) w1) := Lib.hid (by rw [HW.out]; exact ⟨rfl, s, R, rfl, HP.out.ext hx1, (Moves.ext hx1).or X⟩)
      have x2 := (HP.out.ext hx1).x2
      rw [HD.out] at x2
      clear hx1
      go_wp2_with fail
      refine (pfail_any _ p 51).mono ?_
      rintro e w2 ⟨rfl, rfl⟩
      exact panics_post (P := Tryz.prog) (fn := Tryz.f106) rfl HF.out
    · have HD := Lib.hid hd
      have HW := Lib.hid (within_yes (z := z) (body := body) hi hd)
      have e64 : ((s.deep : Int) == 64) = false := by rw [beq_eq_false_iff_ne]; omega
      have hle := HP.out.good.deep
      have HK4 := Lib.hid (isP_kind hi).1
      have HN : Hid ((s.deep : Int) + 1 = ((s.deep + 1 : Nat) : Int)) := Lib.hid (by omega)
      have HLE : Hid (s.deep + 1 ≤ 64) := Lib.hid (by omega)
      have HT : Hid (takeP a { s with deep := s.deep + 1 } = .ok () { s.adv with deep := s.deep + 1 }) := Lib.hid (by unfold takeP; rw [show isP a { s with deep := s.deep + 1 } = isP a s from rfl, if_pos hi]; rfl)
      clear hi hd
      go_enter Tryz.func106, Tryz.ntmps106
      go_wp2_with fail
      refine (pis_any w p B s R a true HI HP.out).mono ?_
      rintro e w1 ⟨rfl, hx1⟩
      have HX1 := Lib.hid hx1
      have HP1 := Lib.hid (HP.out.ext hx1)
      have x2 := HP1.out.x2
      have z2 := HP1.out.blk.frozen 2
      have HP2 := Lib.hid (HP1.out.setDeep (s.deep + 1) HLE.out)
      clear hx1
      go_wp2_with fail
      rw [HN.out]
      generalize w1.setCell ⟨p, 2, none⟩ (.int .i64 ((s.deep + 1 : Nat) : Int)) = w2 at *
      refine (ptake_any w2 p B _ R a HP2.out.1).mono ?_
      rw [HT.out]
      rintro e w3 ⟨rfl, R3, hp3, hm3⟩
      have HP3 := Lib.hid hp3
      have HM3 := Lib.hid (((Moves.ext HX1.out).trans HP2.out.2).trans hm3)
      clear hp3 hm3 x2 z2
      have he := HE.out
      go_wp2_with fail
      refine (HB.out HI.out HD.out _ R3 HM3.out HP3.out).mono ?_
      intro e w4 hpost
      rcases hpost.unit with ⟨x, s4, R4, hr, rfl, ho, hv⟩ | ⟨er, at_, hr, rfl, s4, R4, hat, ho⟩
      rotate_left
      · have HF : Hid (PostG X w p B R (withinP a z body s) V (panicV er) w4) := Lib.hid (by rw [HW.out, hr]; exact ⟨rfl, s4, R4, hat, ho.trans (HM3.out.or X)⟩)
        exact panics_post (P := Tryz.prog) (fn := Tryz.f106) rfl HF.out
      have HR := Lib.hid hr
      have HP4 := Lib.hid ho.1
      have HM4 := Lib.hid ((HM3.out.or X).trans ho.2)
      have HV4 := Lib.hid hv
      have HD4 := Lib.hid (HDP.out HI.out HD.out x s4 hr)
      clear hpost hr ho hv he
      have hle2 : s.deep + 1 ≤ 64 := HLE.out
      by_cases hz : z = []
      · have HW2 : Hid (withinP a z body s = .ok x { s4 with deep := s.deep }) := Lib.hid (by rw [HW.out, HR.out, bind_ok, if_pos hz, HD4.out]; rfl)
        have hbz : (bstr z).toList.isEmpty = true := by subst hz; rw [bstr_toList]; rfl
        have x2 := HP4.out.x2
        rw [HD4.out] at x2
        have z2 := HP4.out.blk.frozen 2
        have HP5 := Lib.hid (HP4.out.setDeep s.deep (by omega))
        clear hz
        go_wp2_with fail
        go_end0
        rw [HW2.out]
        exact ⟨rfl, R4, ⟨HP5.out.1, HM4.out.trans (HP5.out.2.or X)⟩, HV.out _ _ _ _ _ HV4.out HP5.out.2⟩
      · have hbz : (bstr z).toList.isEmpty = false := by
          cases z with
          | nil => exact absurd rfl hz
          | cons b l => simp [bstr_toList]
        have HZ := Lib.hid hz
        clear hz
        go_wp2_with fail
        refine (ptake_any w4 p B s4 R4 z HP4.out).mono ?_
        intro e w5 hpost
        cases hq : takeP z s4 with
        | err er at_ =>
          rw [hq] at hpost
          obtain ⟨rfl, s5, hat, R5, hp5, hm5⟩ := hpost
          have HF : Hid (PostG X w p B R (withinP a z body s) V (panicV er) w5) := Lib.hid (by rw [HW.out, HR.out, bind_ok, if_neg HZ.out, hq]; exact ⟨rfl, s5, R5, hat, hp5, HM4.out.trans (hm5.or X)⟩)
          exact panics_post (P := Tryz.prog) (fn := Tryz.f106) rfl HF.out
        | ok y s5 =>
          rw [hq] at hpost
          obtain ⟨rfl, R5, hp5, hm5⟩ := hpost
          have hd5 : s5.deep = s.deep + 1 := by
            unfold takeP at hq
            split at hq
            · injection hq with _ e2
              rw [← e2]
              exact HD4.out
            · cases hq
          have HW2 : Hid (withinP a z body s = .ok x { s5 with deep := s.deep }) := Lib.hid (by rw [HW.out, HR.out, bind_ok, if_neg HZ.out, hq, bind_ok, hd5]; rfl)
          have x2 := hp5.x2
          rw [hd5] at x2
          have z2 := hp5.blk.frozen 2
          have HP6 := Lib.hid (hp5.setDeep s.deep (by omega))
          have HM5 := Lib.hid (HM4.out.trans (hm5.or X))
          have HV5 := Lib.hid (HV.out _ _ _ _ _ HV4.out hm5)
          clear hq hp5 hm5 hd5
          go_wp2_with fail
          go_end0
          rw [HW2.out]
          exact ⟨rfl, R5, ⟨HP6.out.1, HM5.out.trans (HP6.out.2.or X)⟩, HV.out _ _ _ _ _ HV5.out HP6.out.2⟩
end Go.Proofs.YtcccnicldbpieaaGreatDoor
