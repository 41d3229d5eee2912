/- One step of a reading behind the other. No condition. -/
import Derived.Test.YtcccnicldbpieaaGreatDoorPsG
namespace Go.Proofs.YtcccnicldbpieaaGreatDoor
open Go Go.RowKit
set_option linter.unusedVariables false
set_option linter.unusedSimpArgs false
structure Ran (w : World) (p B : Nat) (R : PRep) (s : Ps) (w' : World) (R' : PRep) (s' : Ps) : Prop where
  ps : PS w' p B s' R'
  mv : Moves w (MineP p R) w' (MineP p R')
  lt : Later s s'
theorem Ran.refl {w : World} {p B : Nat} {R : PRep} {s : Ps} (h : PS w p B s R) (g : Good s) : Ran w p B R s w R s := ⟨h, Moves.refl _ _, Later.refl g⟩
theorem Ran.ext {w w' w2 : World} {p B : Nat} {R R' : PRep} {s s' : Ps} (h : Ran w p B R s w' R' s') (hx : Ext w' w2) : Ran w p B R s w2 R' s' := ⟨h.ps.ext hx, h.mv.trans (Moves.ext hx), h.lt⟩
theorem Ran.nd {w w' : World} {p B : Nat} {R R' : PRep} {s s' : Ps} (h : Ran w p B R s w' R' s') (hb : s.phi ≤ 1000000) : s'.nd.length ≤ 1000000 := by have := h.lt.phi; unfold Ps.phi at this hb; omega
theorem Ran.phi {w w' : World} {p B : Nat} {R R' : PRep} {s s' : Ps} (h : Ran w p B R s w' R' s') (hb : s.phi ≤ 1000000) : s'.phi ≤ 1000000 := Nat.le_trans h.lt.phi hb
theorem Ran.idx {w w' : World} {p B : Nat} {R R' : PRep} {s s' : Ps} (h : Ran w p B R s w' R' s') {i : Nat} (hi : i < s.nd.length) : i < s'.nd.length := Nat.lt_of_lt_of_le hi h.lt.nd
theorem Ran.few {w w' : World} {p B : Nat} {R R' : PRep} {s s' : Ps} (h : Ran w p B R s w' R' s') {n : Nat} (hn : s.ts.length ≤ n) : s'.ts.length ≤ n := Nat.le_trans h.lt.ts hn
theorem Ran.okp {w w' : World} {p B : Nat} {R R' : PRep} {s s' : Ps} (h : Ran w p B R s w' R' s') : OkP w p B R s' w' := ⟨R', h.ps, h.mv⟩
theorem Ran.then {w w1 w2 : World} {p B : Nat} {R R1 : PRep} {s s1 s2 : Ps} (h : Ran w p B R s w1 R1 s1) (k : OkP w1 p B R1 s2 w2) (hl : Later s1 s2) : ∃ R2, Ran w p B R s w2 R2 s2 := let ⟨R2, a, b⟩ := k; ⟨R2, a, h.mv.trans b, h.lt.trans hl⟩
/-- A call that reads on. -/
theorem Ran.go {α : Type} {w w1 w2 : World} {p B : Nat} {R R1 : PRep} {s s1 : Ps} {r : Res Unit} {whole : Res α} {f : Unit → Ps → Res α} {e : Ending} (HL : Hid (whole = r.bind f)) (h : Hid (Ran w p B R s w1 R1 s1)) (hf : FineAt s1 r) (hp : PostU w1 p B R1 r e w2) :
    (∃ s2 R2, Hid (whole = f () s2) ∧ e = .returned (.tuple #[]) ∧ Hid (Ran w p B R s w2 R2 s2)) ∨ (∃ er a, e = panicV er ∧ Hid (whole = .err er a) ∧ Hid (ErrP w p B R er a (panicV er) w2)) := by
  cases r with
  | ok a s2 =>
    obtain ⟨h1, R2, h2, h3⟩ := hp
    exact .inl ⟨s2, R2, Lib.hid HL.out, h1, Lib.hid ⟨h2, h.out.mv.trans h3, h.out.lt.trans hf⟩⟩
  | err er a =>
    obtain ⟨h1, h2⟩ := hp
    exact .inr ⟨er, a, h1, Lib.hid HL.out, Lib.hid (ErrP.trans h.out.mv ⟨rfl, h2⟩)⟩
theorem Ran.goV {α : Type} {w w1 w2 : World} {p B : Nat} {R R1 : PRep} {s s1 : Ps} {v : Value} {r : Res Unit} {whole : Res α} {f : Unit → Ps → Res α} {e : Ending} (HL : Hid (whole = r.bind f)) (h : Hid (Ran w p B R s w1 R1 s1)) (hf : FineAt s1 r) (hp : PostV w1 p B R1 v r e w2) :
    (∃ s2 R2, Hid (whole = f () s2) ∧ e = .returned v ∧ Hid (Ran w p B R s w2 R2 s2)) ∨ (∃ er a, e = panicV er ∧ Hid (whole = .err er a) ∧ Hid (ErrP w p B R er a (panicV er) w2)) := by
  cases r with
  | ok a s2 =>
    obtain ⟨h1, R2, h2, h3⟩ := hp
    exact .inl ⟨s2, R2, Lib.hid HL.out, h1, Lib.hid ⟨h2, h.out.mv.trans h3, h.out.lt.trans hf⟩⟩
  | err er a =>
    obtain ⟨h1, h2⟩ := hp
    exact .inr ⟨er, a, h1, Lib.hid HL.out, Lib.hid (ErrP.trans h.out.mv ⟨rfl, h2⟩)⟩
theorem bind_last {r whole : Res Unit} (h : whole = r) : whole = r.bind fun _ s => .ok () s := by rw [h]; cases r <;> rfl
theorem if_yes {α : Type} {s : Ps} {t : Bs} {whole x y : Res α} (h : Hid (whole = if isP t s = true then x else y)) (hi : Hid (isP t s = true)) : whole = x := by rw [h.out, if_pos hi.out]
theorem if_no {α : Type} {s : Ps} {t : Bs} {whole x y : Res α} (h : Hid (whole = if isP t s = true then x else y)) (hi : Hid (isP t s = false)) : whole = y := by rw [h.out, hi.out]; rfl
theorem Later.num {s : Ps} (h : Good s) (i : Nat) (x : Int) : Later s (s.num i x) := later_on h (fun _ => rfl)
theorem Later.kind {s : Ps} (h : Good s) (i k : Nat) : Later s (s.kind i k) := later_on h (fun _ => rfl)
theorem later_skip {s : Ps} {t : Bs} (g : Good s) (h : Hid (isP t s = true)) : Later s s.adv := later_adv g (isP_kind h.out).1
theorem later_kidNode {s : Ps} (i k : Nat) : s.nd.length < (s.kidNode i k).nd.length := by rw [kidNode_len]; omega
end Go.Proofs.YtcccnicldbpieaaGreatDoor
