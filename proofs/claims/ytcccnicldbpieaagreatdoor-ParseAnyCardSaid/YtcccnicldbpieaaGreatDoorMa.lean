/- The document's reading of tokens, as plain Lean: it keeps its first error and goes on; it answers as the plain reading. No condition. The document's reading of statements, as plain Lean: it answers as the plain reading. No condition. What the document's reading keeps: tokens with an end, a depth, few nodes. No condition. What the document's reading of statements keeps. No condition. The document's reading never comes out of more than it went into. No condition. The document's State in memory: text, is, fail. No condition. The document's State in memory: take, name, in. No condition. The document's State in memory: in. No condition. The document's State in memory: node. Condition: the nodes fit into memory. The document's State in memory: kid. Condition: the nodes fit into memory. The document's State: one step of a reading behind the other; a node's cell set anew. No condition. -/
import Derived.Test.YtcccnicldbpieaaGreatDoorPsN
import Derived.Test.YtcccnicldbpieaaGreatDoorPsF
import Derived.Test.YtcccnicldbpieaaGreatDoorPsA
import Derived.Deep.QuietTactic
import Derived.Test.YtcccnicldbpieaaGreatDoorPsB
import Derived.Deep.Cut
import Derived.Test.YtcccnicldbpieaaGreatDoorPsC
namespace Go.Proofs.YtcccnicldbpieaaGreatDoor
set_option linter.unusedVariables false
set_option linter.unusedSimpArgs false
structure Rs where
  s : Ps
  e : Int
def Rs.is (t : Bs) (r : Rs) : Bool := r.e == 0 && isP t r.s
def Rs.fail (e : Int) (r : Rs) : Rs := if r.e = 0 then { r with e := e } else r
def Rs.adv (r : Rs) : Rs := { r with s := r.s.adv }
def takeR (t : Bs) (r : Rs) : Rs := if r.is t = true then r.adv else r.fail 50
def Rs.nameB (r : Rs) : Bool := r.e == 0 && r.s.hd.kind == 1
def Rs.nameT (r : Rs) : Bs := if r.nameB = true then r.s.hd.text else []
def nameR (r : Rs) : Rs := if r.nameB = true then r.adv else r.fail 50
def Rs.inn (r : Rs) : Rs := let r' : Rs := if r.e = 0 ∧ 64 ≤ r.s.deep then { r with e := 51 } else r
  { r' with s := { r'.s with deep := r'.s.deep + 1 } }
def Rs.out (r : Rs) : Rs := { r with s := { r.s with deep := r.s.deep - 1 } }
def Rs.kidNode (r : Rs) (i k : Nat) : Rs := { r with s := r.s.kidNode i k }
def Rs.text (r : Rs) (i : Nat) (t : Bs) : Rs := { r with s := r.s.text i t }
def Rs.num (r : Rs) (i : Nat) (x : Int) : Rs := { r with s := r.s.num i x }
def Rs.kind (r : Rs) (i : Nat) (k : Nat) : Rs := { r with s := r.s.kind i k }
def namedR (i : Nat) (r : Rs) : Rs := (nameR r).text i r.nameT
def wordR (i : Nat) (r : Rs) : Rs := namedR r.s.nd.length (r.kidNode i 5)
def numberR (i : Nat) (r : Rs) : Rs := let q := r.kidNode i 21
  if (q.e == 0 && q.s.hd.kind == 2) = true then (q.num r.s.nd.length q.s.hd.n).adv else q.fail 50
/-! ### Expressions -/
def markR (ms : List (Bs × Nat)) (r : Rs) : Option Nat := (ms.find? fun m => r.is m.1).map Prod.snd
def chainR (ms : List (Bs × Nat)) (part : Rs → Ex × Rs) : Nat → Ex → Rs → Ex × Rs
  | 0, e, r => (e, r)
  | f + 1, e, r => match markR ms r with
    | none => (e, r)
    | some k => chainR ms part f (.bin k e.pos e (part r.adv).1) (part r.adv).2
def chainsR (ms : List (Bs × Nat)) (part : Rs → Ex × Rs) (r : Rs) : Ex × Rs := chainR ms part ((part r).2.s.ts.length + 1) (part r).1 (part r).2
def factorR : Nat → Rs → Ex × Rs
  | 0, r => (.leaf 0 0 [] 0, r)
  | f + 1, r =>
    if r.e ≠ 0 then (.leaf 0 r.s.hd.at_ r.s.hd.text 0, r)
    else if r.s.hd.kind = 1 then (.leaf 22 r.s.hd.at_ r.s.hd.text 0, r.adv)
    else if r.s.hd.kind = 2 then (.leaf 21 r.s.hd.at_ [] r.s.hd.n, r.adv)
    else if r.is [40] = true then
      if r.inn.e = 0 then let x := chainsR plusM (chainsR starM (factorR f)) r.inn.adv; (x.1, (takeR [41] x.2).out)
      else (.leaf 0 r.s.hd.at_ r.s.hd.text 0, r.inn.out)
    else if r.is [45] = true then
      if r.inn.e = 0 then let x := factorR f r.inn.adv; (.neg r.s.hd.at_ x.1, x.2.out)
      else (.leaf 26 r.s.hd.at_ [] 0, r.inn.out)
    else (.leaf 0 r.s.hd.at_ r.s.hd.text 0, r.fail 50)
def sumR (r : Rs) : Ex × Rs := chainsR plusM (chainsR starM (factorR r.s.ts.length)) r
def exprR (i : Nat) (r : Rs) : Rs := if (sumR r).2.e = 0 then { (sumR r).2 with s := putP i (sumR r).1 (sumR r).2.s } else (sumR r).2
/-! ### What agrees -/
/-- On a state with an error: it stays, as the tokens do. -/
def Dead (M : Rs → Rs) : Prop := ∀ r, r.e ≠ 0 → (M r).e = r.e ∧ (M r).s.ts = r.s.ts
/-- Without one: as the plain reading; its error, and the place. -/
def Fits {α : Type} (s : Ps) (x : Res α) (r : Rs) (a : α → Prop) : Prop := match x with
  | .ok v s' => r = ⟨s', 0⟩ ∧ s'.deep = s.deep ∧ a v
  | .err e p => e ≠ 0 → r.e = e ∧ r.s.hd.at_ = p
abbrev FitsU (s : Ps) (x : Res Unit) (r : Rs) : Prop := Fits s x r fun _ => True
structure Agree (m : Pm Unit) (M : Rs → Rs) : Prop where
  dead : Dead M
  live : ∀ s, s.deep ≤ 64 → FitsU s (m s) (M ⟨s, 0⟩)
theorem Dead.comp {M N : Rs → Rs} (h : Dead M) (k : Dead N) : Dead fun r => N (M r) := fun r hr => by
  obtain ⟨h1, h2⟩ := h r hr
  obtain ⟨k1, k2⟩ := k (M r) (by rw [h1]; exact hr)
  exact ⟨k1.trans h1, k2.trans h2⟩
theorem hd_ts {s s' : Ps} (h : s'.ts = s.ts) : s'.hd = s.hd := by unfold Ps.hd; rw [h]
theorem Fits.bind {α β : Type} {s : Ps} {x : Res α} {r : Rs} {A : α → Prop} {B : β → Prop} {f : α → Ps → Res β} {N : Rs → Rs} (h : Fits s x r A) (hN : r.e ≠ 0 → (N r).e = r.e ∧ (N r).s.ts = r.s.ts) (k : ∀ a t, A a → t.deep = s.deep → r = ⟨t, 0⟩ → Fits t (f a t) (N r) B) : Fits s (x.bind f) (N r) B := by
  cases x with
  | ok a t =>
    obtain ⟨h1, h2, h3⟩ := h
    have h4 := k a t h3 h2 h1
    show Fits s (f a t) _ _
    cases hr : f a t with
    | ok b u =>
      rw [hr] at h4
      obtain ⟨k1, k2, k3⟩ := h4
      exact ⟨k1, k2.trans h2, k3⟩
    | err e p =>
      rw [hr] at h4
      exact h4
  | err e p =>
    intro he
    obtain ⟨h1, h2⟩ := h he
    obtain ⟨k1, k2⟩ := hN (by rw [h1]; exact he)
    exact ⟨k1.trans h1, by rw [hd_ts k2]; exact h2⟩
theorem Agree.bind {m : Pm Unit} {f : Pm Unit} {M N : Rs → Rs} (h : Agree m M) (k : Agree f N) : Agree (fun s => (m s).bind fun _ t => f t) fun r => N (M r) :=
  ⟨h.dead.comp k.dead, fun s hs => Fits.bind (h.live s hs) (fun hr => k.dead _ hr) fun _ t _ hd hr => by rw [hr]; exact k.live t (by rw [hd]; exact hs)⟩
theorem dead_fail (e : Int) : Dead (Rs.fail e) := fun r hr => by unfold Rs.fail; rw [if_neg hr]; exact ⟨rfl, rfl⟩
theorem is_dead {r : Rs} (h : r.e ≠ 0) (t : Bs) : r.is t = false := by unfold Rs.is; rw [beq_eq_false_iff_ne.2 h, Bool.false_and]
theorem is_live (t : Bs) (s : Ps) : (⟨s, 0⟩ : Rs).is t = isP t s := rfl
theorem agree_take (t : Bs) : Agree (takeP t) (takeR t) := by
  refine ⟨fun r hr => ?_, fun s hs => ?_⟩
  · unfold takeR
    rw [if_neg (by rw [is_dead hr]; decide)]
    exact dead_fail 50 r hr
  · unfold takeR takeP
    rw [is_live]
    split
    · exact ⟨rfl, rfl, trivial⟩
    · exact fun _ => ⟨rfl, rfl⟩
theorem nameB_dead {r : Rs} (h : r.e ≠ 0) : r.nameB = false := by unfold Rs.nameB; rw [beq_eq_false_iff_ne.2 h, Bool.false_and]
theorem agree_named (i : Nat) : Agree (namedP i) (namedR i) := by
  refine ⟨fun r hr => ?_, fun s hs => ?_⟩
  · unfold namedR nameR
    rw [if_neg (by rw [nameB_dead hr]; decide)]
    exact dead_fail 50 r hr
  · unfold namedP ofP namedR nameR Rs.nameT
    have e : (⟨s, 0⟩ : Rs).nameB = (s.hd.kind == 1) := rfl
    rw [e]
    by_cases hk : s.hd.kind = 1
    · rw [if_pos hk, if_pos (by rw [hk]; rfl), if_pos (by rw [hk]; rfl)]
      exact ⟨rfl, rfl, trivial⟩
    · rw [if_neg hk, if_neg (by simpa using hk), if_neg (by simpa using hk)]
      exact fun _ => ⟨rfl, rfl⟩
theorem agree_word (i : Nat) : Agree (wordP i) (wordR i) :=
  ⟨fun r hr => (agree_named _).dead (r.kidNode i 5) hr, fun s hs => (agree_named _).live (s.kidNode i 5) hs⟩
theorem agree_number (i : Nat) : Agree (numberP i) (numberR i) := by
  refine ⟨fun r hr => ?_, fun s hs => ?_⟩
  · unfold numberR
    have hq : (r.kidNode i 21).e ≠ 0 := hr
    rw [if_neg (by rw [beq_eq_false_iff_ne.2 hq]; simp)]
    exact dead_fail 50 (r.kidNode i 21) hq
  · unfold numberP numAtP ofP numberR
    have e : (((⟨s, 0⟩ : Rs).kidNode i 21).e == 0 && ((⟨s, 0⟩ : Rs).kidNode i 21).s.hd.kind == 2) = ((s.kidNode i 21).hd.kind == 2) := rfl
    dsimp only
    rw [e]
    by_cases hk : (s.kidNode i 21).hd.kind = 2
    · rw [if_pos hk, if_pos (by rw [hk]; rfl)]
      exact ⟨rfl, rfl, trivial⟩
    · rw [if_neg hk, if_neg (by simpa using hk)]
      exact fun _ => ⟨rfl, rfl⟩
/-! ### Expressions agree -/
structure AgreeE (m : Pm Ex) (M : Rs → Ex × Rs) : Prop where
  dead : ∀ r, r.e ≠ 0 → (M r).2.e = r.e ∧ (M r).2.s.ts = r.s.ts
  live : ∀ s, s.deep ≤ 64 → Fits s (m s) (M ⟨s, 0⟩).2 fun v => (M ⟨s, 0⟩).1 = v
theorem markR_dead {r : Rs} (h : r.e ≠ 0) (ms : List (Bs × Nat)) : markR ms r = none := by
  unfold markR
  rw [List.find?_eq_none.2 fun m _ => by rw [is_dead h]; decide]
  rfl
theorem markR_live (ms : List (Bs × Nat)) (s : Ps) : markR ms ⟨s, 0⟩ = markM ms s := rfl
theorem chainR_dead {part : Rs → Ex × Rs} (ms : List (Bs × Nat)) : ∀ (f : Nat) (e : Ex) (r : Rs), r.e ≠ 0 → chainR ms part f e r = (e, r)
  | 0, e, r, _ => rfl
  | f + 1, e, r, h => by unfold chainR; rw [markR_dead h]
theorem chain_live {ms : List (Bs × Nat)} {part : Pm Ex} {P : Rs → Ex × Rs} (h : AgreeE part P) : ∀ (f : Nat) (e : Ex) (s : Ps), s.deep ≤ 64 → Fits s (chainL ms part f e s) (chainR ms P f e ⟨s, 0⟩).2 fun v => (chainR ms P f e ⟨s, 0⟩).1 = v
  | 0, e, s, _ => fun he => absurd rfl he
  | f + 1, e, s, hs => by
    unfold chainL chainR
    rw [markR_live]
    cases markM ms s with
    | none => exact ⟨rfl, rfl, rfl⟩
    | some k =>
      have h1 := h.live s.adv hs
      dsimp only
      have e1 : (⟨s, 0⟩ : Rs).adv = ⟨s.adv, 0⟩ := rfl
      rw [e1]
      generalize P ⟨s.adv, 0⟩ = y at *
      obtain ⟨b, q⟩ := y
      dsimp only at h1 ⊢
      have h2 : ∀ (x : Res Ex), x = part s.adv → Fits s.adv x q (fun v => b = v) → Fits s (x.bind fun r t => chainL ms part f (.bin k e.pos e r) t) (chainR ms P f (.bin k e.pos e b) q).2 fun v => (chainR ms P f (.bin k e.pos e b) q).1 = v := by
        intro x hx hf
        cases x with
        | ok v t =>
          obtain ⟨h1, h2, h3⟩ := hf
          subst h1 h3
          have h4 := chain_live (ms := ms) h f (.bin k e.pos e b) t (by rw [h2]; exact hs)
          show Fits s (chainL ms part f (.bin k e.pos e b) t) _ _
          cases hr : chainL ms part f (.bin k e.pos e b) t with
          | ok w u =>
            rw [hr] at h4
            obtain ⟨k1, k2, k3⟩ := h4
            exact ⟨k1, k2.trans h2, k3⟩
          | err e p =>
            rw [hr] at h4
            exact h4
        | err e' p =>
          intro he
          obtain ⟨h1, h2⟩ := hf he
          rw [chainR_dead ms f _ q (by rw [h1]; exact he)]
          exact ⟨h1, h2⟩
      exact h2 _ rfl h1
theorem agree_chain (ms : List (Bs × Nat)) {part : Pm Ex} {P : Rs → Ex × Rs} (h : AgreeE part P) : AgreeE (chainP ms part) (chainsR ms P) := by
  refine ⟨fun r hr => ?_, fun s hs => ?_⟩
  · unfold chainsR
    obtain ⟨h1, h2⟩ := h.dead r hr
    rw [chainR_dead ms _ _ _ (by rw [h1]; exact hr)]
    exact ⟨h1, h2⟩
  · unfold chainsR chainP
    have h1 := h.live s hs
    generalize P ⟨s, 0⟩ = y at *
    obtain ⟨b, q⟩ := y
    dsimp only at h1 ⊢
    cases hx : part s with
    | ok v t =>
      rw [hx] at h1
      obtain ⟨a1, a2, a3⟩ := h1
      subst a1 a3
      have h4 := chain_live (ms := ms) h (t.ts.length + 1) b t (by rw [a2]; exact hs)
      show Fits s (chainL ms part (t.ts.length + 1) b t) _ _
      cases hr : chainL ms part (t.ts.length + 1) b t with
      | ok w u =>
        rw [hr] at h4
        obtain ⟨k1, k2, k3⟩ := h4
        exact ⟨k1, k2.trans a2, k3⟩
      | err e p =>
        rw [hr] at h4
        exact h4
    | err e p =>
      rw [hx] at h1
      intro he
      obtain ⟨a1, a2⟩ := h1 he
      rw [chainR_dead ms _ _ q (by rw [a1]; exact he)]
      exact ⟨a1, a2⟩
/-- Something within brackets. -/
theorem fits_in {α : Type} {a z : Bs} {body : Pm α} {s : Ps} {r : Rs} {A : α → Prop} (ha : isP a s = true) (h64 : s.deep = 64 → r.e = 51 ∧ r.s.hd.at_ = s.hd.at_)
    (hin : s.deep ≠ 64 → ∃ q : Rs, Fits { s.adv with deep := s.deep + 1 } (body { s.adv with deep := s.deep + 1 }) q A ∧ r = (if z = [] then q else takeR z q).out) : Fits s (withinP a z body s) r A := by
  unfold withinP
  rw [if_pos ha]
  by_cases hd : s.deep = 64
  · rw [if_pos hd]
    exact fun _ => h64 hd
  · rw [if_neg hd]
    obtain ⟨q, h1, rfl⟩ := hin hd
    cases hx : body { s.adv with deep := s.deep + 1 } with
    | err e p =>
      rw [hx] at h1
      intro he
      obtain ⟨a1, a2⟩ := h1 he
      have hq : q.e ≠ 0 := by rw [a1]; exact he
      split
      · exact ⟨a1, a2⟩
      · obtain ⟨b1, b2⟩ := (agree_take z).dead q hq
        exact ⟨b1.trans a1, by show (takeR z q).s.hd.at_ = p; rw [hd_ts b2]; exact a2⟩
    | ok v t =>
      rw [hx] at h1
      obtain ⟨a1, a2, a3⟩ := h1
      subst a1
      rw [bind_ok]
      have a4 : t.deep - 1 = s.deep := by rw [a2]; show s.deep + 1 - 1 = s.deep; omega
      split
      · exact ⟨rfl, a4, a3⟩
      · unfold takeP takeR
        rw [is_live]
        by_cases hz : isP z t = true
        · rw [if_pos hz, if_pos hz]
          exact ⟨rfl, a4, a3⟩
        · rw [if_neg hz, if_neg hz]
          exact fun _ => ⟨rfl, rfl⟩
theorem inn_live {s : Ps} (h : s.deep ≤ 64) (hd : s.deep ≠ 64) : (⟨s, 0⟩ : Rs).inn = ⟨{ s with deep := s.deep + 1 }, 0⟩ := by
  unfold Rs.inn
  rw [if_neg (by rintro ⟨_, h2⟩; have : 64 ≤ s.deep := h2; omega)]
theorem inn_full {s : Ps} (hd : s.deep = 64) : (⟨s, 0⟩ : Rs).inn = ⟨{ s with deep := s.deep + 1 }, 51⟩ := by
  unfold Rs.inn
  rw [if_pos ⟨rfl, by show 64 ≤ s.deep; omega⟩]
theorem isP_kinds {t : Bs} {s : Ps} (h : isP t s = true) : s.hd.kind ≠ 4 ∧ s.hd.kind ≠ 2 ∧ s.hd.text = t := by
  unfold isP at h
  simp only [Bool.and_eq_true, bne_iff_ne, beq_iff_eq] at h
  exact ⟨h.1.1, h.1.2, h.2⟩
theorem agree_factor : ∀ f, AgreeE (factorP f) (factorR f)
  | 0 => ⟨fun r hr => ⟨rfl, rfl⟩, fun s hs he => absurd rfl he⟩
  | f + 1 => by
    have ih := agree_factor f
    refine ⟨fun r hr => ?_, fun s hs => ?_⟩
    · unfold factorR
      rw [if_pos hr]
      exact ⟨rfl, rfl⟩
    · unfold factorR factorP
      have e0 : ¬ ((⟨s, 0⟩ : Rs).e ≠ 0) := by intro h; exact h rfl
      rw [if_neg e0, is_live, is_live]
      dsimp only
      by_cases h1 : s.hd.kind = 1
      · rw [if_pos h1, if_pos h1]
        exact ⟨rfl, rfl, rfl⟩
      · rw [if_neg h1, if_neg h1]
        by_cases h2 : s.hd.kind = 2
        · rw [if_pos h2, if_pos h2]
          exact ⟨rfl, rfl, rfl⟩
        · rw [if_neg h2, if_neg h2]
          by_cases h3 : isP [45] s = true
          · have h4 : ¬ isP [40] s = true := fun h4 => by
              have a := (isP_kinds h3).2.2
              rw [(isP_kinds h4).2.2] at a
              cases a
            rw [if_pos h3, if_neg h4, if_pos h3]
            have key : Fits s (withinP [45] [] (factorP f) s) (if (⟨s, 0⟩ : Rs).inn.e = 0 then (let x := factorR f (⟨s, 0⟩ : Rs).inn.adv; ((.neg s.hd.at_ x.1, x.2.out) : Ex × Rs)) else (.leaf 26 s.hd.at_ [] 0, (⟨s, 0⟩ : Rs).inn.out)).2 fun v => (if (⟨s, 0⟩ : Rs).inn.e = 0 then (let x := factorR f (⟨s, 0⟩ : Rs).inn.adv; ((.neg s.hd.at_ x.1, x.2.out) : Ex × Rs)) else (.leaf 26 s.hd.at_ [] 0, (⟨s, 0⟩ : Rs).inn.out)).1 = .neg s.hd.at_ v := by
              refine fits_in h3 (fun hd => ?_) (fun hd => ?_)
              · rw [inn_full hd, if_neg (show ¬ ((51 : Int) = 0) by decide)]
                exact ⟨rfl, rfl⟩
              · rw [inn_live hs hd, if_pos rfl]
                have hl := ih.live { s.adv with deep := s.deep + 1 } (by show s.deep + 1 ≤ 64; omega)
                have ea : (⟨{ s with deep := s.deep + 1 }, 0⟩ : Rs).adv = ⟨{ s.adv with deep := s.deep + 1 }, 0⟩ := rfl
                rw [ea]
                generalize factorR f ⟨{ s.adv with deep := s.deep + 1 }, 0⟩ = y at *
                obtain ⟨b, q⟩ := y
                refine ⟨q, ?_, by rw [if_pos rfl]⟩
                dsimp only at hl ⊢
                cases hx : factorP f { s.adv with deep := s.deep + 1 } with
                | ok v t =>
                  rw [hx] at hl
                  obtain ⟨a1, a2, a3⟩ := hl
                  exact ⟨a1, a2, by rw [a3]⟩
                | err e p =>
                  rw [hx] at hl
                  exact hl
            generalize (if (⟨s, 0⟩ : Rs).inn.e = 0 then (let x := factorR f (⟨s, 0⟩ : Rs).inn.adv; ((.neg s.hd.at_ x.1, x.2.out) : Ex × Rs)) else (.leaf 26 s.hd.at_ [] 0, (⟨s, 0⟩ : Rs).inn.out)) = y at *
            cases hw : withinP [45] [] (factorP f) s with
            | ok v t =>
              rw [hw] at key
              obtain ⟨a1, a2, a3⟩ := key
              exact ⟨a1, a2, a3⟩
            | err e p =>
              rw [hw] at key
              exact key
          · rw [if_neg h3, if_neg h3]
            by_cases h4 : isP [40] s = true
            · rw [if_pos h4]
              refine fits_in h4 (fun hd => ?_) (fun hd => ?_)
              · rw [inn_full hd, if_neg (show ¬ ((51 : Int) = 0) by decide)]
                exact ⟨rfl, rfl⟩
              · rw [inn_live hs hd, if_pos rfl]
                have hl := (agree_chain plusM (agree_chain starM ih)).live { s.adv with deep := s.deep + 1 } (by show s.deep + 1 ≤ 64; omega)
                have ea : (⟨{ s with deep := s.deep + 1 }, 0⟩ : Rs).adv = ⟨{ s.adv with deep := s.deep + 1 }, 0⟩ := rfl
                rw [ea]
                exact ⟨_, hl, by rw [if_neg (by decide)]⟩
            · rw [if_neg h4]
              unfold withinP
              rw [if_neg h4]
              exact fun _ => ⟨rfl, rfl⟩
theorem agree_sum : AgreeE sumP sumR := by
  refine ⟨fun r hr => ?_, fun s hs => ?_⟩
  · exact (agree_chain plusM (agree_chain starM (agree_factor r.s.ts.length))).dead r hr
  · exact (agree_chain plusM (agree_chain starM (agree_factor s.ts.length))).live s hs
theorem putP_deep (i : Nat) (e : Ex) (s : Ps) : (putP i e s).deep = s.deep := by
  induction e generalizing i s with
  | leaf k p t n => rfl
  | neg p a ih => unfold putP; rw [ih]; rfl
  | bin k p a b iha ihb => unfold putP; rw [ihb, iha]; rfl
theorem agree_expr (i : Nat) : Agree (exprP i) (exprR i) := by
  refine ⟨fun r hr => ?_, fun s hs => ?_⟩
  · unfold exprR
    obtain ⟨h1, h2⟩ := agree_sum.dead r hr
    rw [if_neg (by rw [h1]; exact hr)]
    exact ⟨h1, h2⟩
  · unfold exprP exprR
    have h := agree_sum.live s hs
    generalize sumR ⟨s, 0⟩ = y at *
    obtain ⟨b, q⟩ := y
    dsimp only at h ⊢
    cases hx : sumP s with
    | ok v t =>
      rw [hx] at h
      obtain ⟨a1, a2, a3⟩ := h
      subst a1 a3
      rw [if_pos rfl]
      exact ⟨rfl, (putP_deep _ _ _).trans a2, trivial⟩
    | err e p =>
      rw [hx] at h
      intro he
      obtain ⟨a1, a2⟩ := h he
      rw [if_neg (by rw [a1]; exact he)]
      exact ⟨a1, a2⟩
end Go.Proofs.YtcccnicldbpieaaGreatDoor
namespace Go.Proofs.YtcccnicldbpieaaGreatDoor
set_option linter.unusedVariables false
set_option linter.unusedSimpArgs false
def bracketR (i : Nat) (r : Rs) : Rs := if r.is [91] = true then (if r.inn.e = 0 then (takeR [93] (exprR i r.inn.adv)).out else r.inn.fail 50) else r.fail 50
def rowR (i : Nat) (r : Rs) : Rs := bracketR r.s.nd.length (namedR r.s.nd.length (r.kidNode i 20))
def moreR (one : Rs → Rs) : Nat → Rs → Rs
  | 0, r => r
  | f + 1, r => if r.is [44] = true then moreR one f (one r.adv) else r
def listR (one : Rs → Rs) (r : Rs) : Rs := moreR one ((one r).s.ts.length + 1) (one r)
def cellR (i : Nat) (r : Rs) : Rs := wordR i (takeR [46] (rowR i r))
def readR (i : Nat) (r : Rs) : Rs := let q := cellR i (takeR [61] (namedR i r))
  if q.is [102, 111, 114] = true then (takeR [117, 112, 100, 97, 116, 101] q.adv).num i 1 else q
def setR (i : Nat) (r : Rs) : Rs := exprR i (takeR [61] (cellR i r))
def upsertR (i : Nat) (r : Rs) : Rs := takeR [41] (listR (exprR i) (takeR [40] (rowR i r)))
def scanR (i : Nat) (r : Rs) : Rs := wordR i (takeR [46] (wordR i (takeR [61] (namedR i r))))
def lockR (i : Nat) (r : Rs) : Rs := let q := wordR i r
  if q.is [97, 108, 108] = true then (q.num i 1).adv else takeR [115, 104, 97, 114, 101, 100] q
def releaseR (i : Nat) (r : Rs) : Rs := let q := namedR r.s.nd.length (r.kidNode i 5)
  if q.is [91] = true then bracketR r.s.nd.length (q.kind r.s.nd.length 20) else q
def lessR (i : Nat) (r : Rs) : Rs := if r.is [61, 61] = true then (r.num i 1).adv else takeR [60] r
def letR (i : Nat) (r : Rs) : Rs := exprR i (takeR [61] (namedR i r))
/-! ### .. agrees -/
theorem agree_key (i : Nat) : Agree (keyP i) (bracketR i) := by
  refine ⟨fun r hr => ?_, fun s hs => ?_⟩
  · unfold bracketR
    rw [if_neg (by rw [is_dead hr]; decide)]
    exact dead_fail 50 r hr
  · unfold bracketR keyP
    rw [is_live]
    by_cases h : isP [91] s = true
    · rw [if_pos h]
      refine fits_in h (fun hd => ?_) (fun hd => ?_)
      · rw [inn_full hd, if_neg (show ¬ ((51 : Int) = 0) by decide)]
        exact ⟨rfl, rfl⟩
      · rw [inn_live hs hd, if_pos rfl]
        have ea : (⟨{ s with deep := s.deep + 1 }, 0⟩ : Rs).adv = ⟨{ s.adv with deep := s.deep + 1 }, 0⟩ := rfl
        rw [ea]
        exact ⟨_, (agree_expr i).live { s.adv with deep := s.deep + 1 } (by show s.deep + 1 ≤ 64; omega), by rw [if_neg (by decide)]⟩
    · rw [if_neg h]
      unfold withinP
      rw [if_neg h]
      exact fun _ => ⟨rfl, rfl⟩
/-- A node ahead. -/
theorem Agree.node {m : Pm Unit} {M : Rs → Rs} (h : Agree m M) (i k : Nat) : Dead (fun r => M (r.kidNode i k)) ∧ ∀ s, s.deep ≤ 64 → FitsU s (m (s.kidNode i k)) (M ((⟨s, 0⟩ : Rs).kidNode i k)) :=
  ⟨fun r hr => h.dead (r.kidNode i k) hr, fun s hs => h.live (s.kidNode i k) hs⟩
theorem agree_row (i : Nat) : Agree (rowP i) (rowR i) := by
  refine ⟨fun r hr => ?_, fun s hs => ?_⟩
  · exact ((agree_named r.s.nd.length).bind (agree_key r.s.nd.length)).dead (r.kidNode i 20) hr
  · exact ((agree_named s.nd.length).bind (agree_key s.nd.length)).live (s.kidNode i 20) hs
theorem more_deadR {O : Rs → Rs} : ∀ (f : Nat) (r : Rs), r.e ≠ 0 → (moreR O f r).e = r.e ∧ (moreR O f r).s.ts = r.s.ts
  | 0, r, _ => ⟨rfl, rfl⟩
  | f + 1, r, hr => by unfold moreR; rw [if_neg (by rw [is_dead hr]; decide)]; exact ⟨rfl, rfl⟩
theorem more_live {one : Pm Unit} {O : Rs → Rs} (h : Agree one O) : ∀ (f : Nat) (s : Ps), s.deep ≤ 64 → FitsU s (moreP one f s) (moreR O f ⟨s, 0⟩)
  | 0, s, _ => fun he => absurd rfl he
  | f + 1, s, hs => by
    unfold moreP moreR
    rw [is_live]
    split
    · refine Fits.bind (N := moreR O f) (h.live s.adv hs) (fun hr => ?_) fun _ t _ hd hr => ?_
      · exact more_deadR f _ hr
      · rw [hr]
        exact more_live h f t (by rw [hd]; exact hs)
    · exact ⟨rfl, rfl, trivial⟩
theorem agree_list {one : Pm Unit} {O : Rs → Rs} (h : Agree one O) : Agree (listP one) (listR O) := by
  refine ⟨fun r hr => ?_, fun s hs => ?_⟩
  · unfold listR
    obtain ⟨h1, h2⟩ := h.dead r hr
    obtain ⟨k1, k2⟩ := more_deadR (O := O) ((O r).s.ts.length + 1) (O r) (by rw [h1]; exact hr)
    exact ⟨k1.trans h1, k2.trans h2⟩
  · unfold listP listR
    refine Fits.bind (N := fun q => moreR O (q.s.ts.length + 1) q) (h.live s hs) (fun hr => more_deadR _ _ hr) fun _ t _ hd hr => ?_
    rw [hr]
    exact more_live h _ t (by rw [hd]; exact hs)
theorem agree_cell (i : Nat) : Agree (cellP i) (cellR i) := (agree_row i).bind ((agree_take _).bind (agree_word i))
theorem agree_num (i : Nat) (x : Int) : Agree (fun s => .ok () (s.num i x)) (fun r => r.num i x) := ⟨fun r _ => ⟨rfl, rfl⟩, fun s _ => ⟨rfl, rfl, trivial⟩⟩
/-- One of two ways, by the next word. -/
theorem agree_if {a b : Pm Unit} {A B : Rs → Rs} (t : Bs) (ha : ∀ s, s.deep ≤ 64 → isP t s = true → FitsU s (a s) (A ⟨s, 0⟩)) (hb : Agree b B) : Agree (fun s => if isP t s = true then a s else b s) (fun r => if r.is t = true then A r else B r) := by
  refine ⟨fun r hr => ?_, fun s hs => ?_⟩
  · show (if r.is t = true then A r else B r).e = _ ∧ (if r.is t = true then A r else B r).s.ts = _
    rw [if_neg (by rw [is_dead hr]; decide)]
    exact hb.dead r hr
  · show FitsU s (if isP t s = true then a s else b s) (if (⟨s, 0⟩ : Rs).is t = true then A ⟨s, 0⟩ else B ⟨s, 0⟩)
    rw [is_live]
    split
    · exact ha s hs (by assumption)
    · exact hb.live s hs
theorem agree_id : Agree (fun s => .ok () s) (fun r => r) := ⟨fun r _ => ⟨rfl, rfl⟩, fun s _ => ⟨rfl, rfl, trivial⟩⟩
theorem fits_adv {m : Pm Unit} {M : Rs → Rs} (h : Agree m M) (s : Ps) (hs : s.deep ≤ 64) : FitsU s (m s.adv) (M (⟨s, 0⟩ : Rs).adv) := h.live s.adv hs
theorem agree_read (i : Nat) : Agree (readP i) (readR i) := (agree_named i).bind ((agree_take _).bind ((agree_cell i).bind
  (agree_if (a := fun s => (takeP [117, 112, 100, 97, 116, 101] s.adv).bind fun _ t => .ok () (t.num i 1)) (A := fun r => (takeR [117, 112, 100, 97, 116, 101] r.adv).num i 1) [102, 111, 114] (fun s hs _ => fits_adv ((agree_take [117, 112, 100, 97, 116, 101]).bind (agree_num i 1)) s hs) agree_id)))
theorem agree_set (i : Nat) : Agree (setP i) (setR i) := (agree_cell i).bind ((agree_take _).bind (agree_expr i))
theorem agree_upsert (i : Nat) : Agree (upsertP i) (upsertR i) := (agree_row i).bind ((agree_take _).bind ((agree_list (agree_expr i)).bind (agree_take _)))
theorem agree_scan (i : Nat) : Agree (scanP i) (scanR i) := (agree_named i).bind ((agree_take _).bind ((agree_word i).bind ((agree_take _).bind (agree_word i))))
theorem agree_lock (i : Nat) : Agree (lockP i) (lockR i) := (agree_word i).bind (agree_if (a := fun s => .ok () (s.adv.num i 1)) (A := fun r => (r.num i 1).adv) [97, 108, 108] (fun s hs _ => ⟨rfl, rfl, trivial⟩) (agree_take _))
theorem agree_release (i : Nat) : Agree (releaseP i) (releaseR i) := by
  have h : ∀ n, Agree (fun s => (namedP n s).bind fun _ t => if isP [91] t = true then keyP n (t.kind n 20) else .ok () t) (fun r => let q := namedR n r; if q.is [91] = true then bracketR n (q.kind n 20) else q) := fun n =>
    (agree_named n).bind (agree_if (a := fun s => keyP n (s.kind n 20)) (A := fun r => bracketR n (r.kind n 20)) [91] (fun s hs _ => (agree_key n).live (s.kind n 20) hs) agree_id)
  refine ⟨fun r hr => ?_, fun s hs => ?_⟩
  · exact (h r.s.nd.length).dead (r.kidNode i 5) hr
  · exact (h s.nd.length).live (s.kidNode i 5) hs
theorem agree_less (i : Nat) : Agree (lessP i) (lessR i) := agree_if (a := fun s => .ok () (s.adv.num i 1)) (A := fun r => (r.num i 1).adv) [61, 61] (fun s hs _ => ⟨rfl, rfl, trivial⟩) (agree_take _)
theorem agree_let (i : Nat) : Agree (letP i) (letR i) := (agree_named i).bind ((agree_take _).bind (agree_expr i))
/-! ### Blocks, statements -/
def untilR (st : Nat → Rs → Rs) (i : Nat) : Nat → Rs → Rs
  | 0, r => r
  | f + 1, r => if (r.e == 0 && !r.is [125]) = true then untilR st i f (st i r) else r
def blockR (st : Nat → Rs → Rs) (i : Nat) (r : Rs) : Rs := let q := r.kidNode i 6
  if q.is [123] = true then (if q.inn.e = 0 then (takeR [125] (untilR st r.s.nd.length (q.inn.adv.s.ts.length + 1) q.inn.adv)).out else q.inn.fail 50) else q.fail 50
def elseR (st : Nat → Rs → Rs) (i : Nat) (r : Rs) : Rs := if r.is [101, 108, 115, 101] = true then blockR st i r.adv else r
def branchR (st : Nat → Rs → Rs) (i : Nat) (r : Rs) : Rs := elseR st i (blockR st i (exprR i (lessR i (exprR i r))))
def loopR (st : Nat → Rs → Rs) (i : Nat) (r : Rs) : Rs := blockR st i (numberR i (takeR [116, 111] (numberR i (takeR [61] (namedR i r)))))
def readsR (st : Nat → Rs → Rs) (k i : Nat) : Rs → Rs :=
  if k = 7 then readR i else if k = 8 then setR i else if k = 9 then upsertR i else if k = 10 then rowR i else if k = 11 then scanR i
  else if k = 12 then lockR i else if k = 13 then releaseR i else if k = 14 then branchR st i else if k = 15 then loopR st i else if k = 16 then letR i
  else if k = 17 then exprR i else fun r => r
def stmtR : Nat → Nat → Rs → Rs
  | 0, _, r => r
  | f + 1, i, r => match (if r.s.hd.kind = 1 then formOf r.s.hd.text else none) with
    | none => r.fail 50
    | some k => let q := readsR (stmtR f) k r.s.nd.length (r.kidNode i k).adv
      if k = 14 ∨ k = 15 then q else takeR [59] q
/-- A statement is asked for only where there is no error. -/
def LiveA (st : Nat → Pm Unit) (ST : Nat → Rs → Rs) : Prop := ∀ i s, s.deep ≤ 64 → FitsU s (st i s) (ST i ⟨s, 0⟩)
theorem untilR_dead {ST : Nat → Rs → Rs} (i : Nat) : ∀ (f : Nat) (r : Rs), r.e ≠ 0 → untilR ST i f r = r
  | 0, r, _ => rfl
  | f + 1, r, h => by unfold untilR; rw [beq_eq_false_iff_ne.2 h, Bool.false_and, if_neg (by decide)]
theorem until_live {st : Nat → Pm Unit} {ST : Nat → Rs → Rs} (h : LiveA st ST) (i : Nat) : ∀ (f : Nat) (s : Ps), s.deep ≤ 64 → FitsU s (untilP st i f s) (untilR ST i f ⟨s, 0⟩)
  | 0, s, _ => fun he => absurd rfl he
  | f + 1, s, hs => by
    unfold untilP untilR
    rw [is_live]
    by_cases hp : isP [125] s = true
    · rw [if_pos hp, hp, if_neg (by simp)]
      exact ⟨rfl, rfl, trivial⟩
    · rw [if_neg hp, if_pos (by simp [hp])]
      refine Fits.bind (N := untilR ST i f) (h i s hs) (fun hr => ?_) fun _ t _ hd hr => ?_
      · rw [untilR_dead i f _ hr]; exact ⟨rfl, rfl⟩
      · rw [hr]; exact until_live h i f t (by rw [hd]; exact hs)
theorem agree_block {st : Nat → Pm Unit} {ST : Nat → Rs → Rs} (h : LiveA st ST) (i : Nat) : Agree (blockOf st i) (blockR ST i) := by
  refine ⟨fun r hr => ?_, fun s hs => ?_⟩
  · unfold blockR
    have hq : (r.kidNode i 6).e ≠ 0 := hr
    dsimp only
    rw [if_neg (by rw [is_dead hq]; decide)]
    exact dead_fail 50 (r.kidNode i 6) hq
  · unfold blockR blockOf
    have eq : (⟨s, 0⟩ : Rs).kidNode i 6 = ⟨s.kidNode i 6, 0⟩ := rfl
    dsimp only
    rw [eq, is_live]
    have hs' : (s.kidNode i 6).deep ≤ 64 := hs
    have hd' : (s.kidNode i 6).deep = s.deep := rfl
    have key : ∀ u : Ps, u.deep ≤ 64 → FitsU u (withinP [123] [125] (fun t => untilP st s.nd.length (t.ts.length + 1) t) u) (if isP [123] u = true then (if (⟨u, 0⟩ : Rs).inn.e = 0 then (takeR [125] (untilR ST s.nd.length ((⟨u, 0⟩ : Rs).inn.adv.s.ts.length + 1) (⟨u, 0⟩ : Rs).inn.adv)).out else (⟨u, 0⟩ : Rs).inn.fail 50) else (⟨u, 0⟩ : Rs).fail 50) := by
      intro u hu
      by_cases hb : isP [123] u = true
      · rw [if_pos hb]
        refine fits_in hb (fun hd => ?_) (fun hd => ?_)
        · rw [inn_full hd, if_neg (show ¬ ((51 : Int) = 0) by decide)]
          exact ⟨rfl, rfl⟩
        · rw [inn_live hu hd, if_pos rfl]
          have ea : (⟨{ u with deep := u.deep + 1 }, 0⟩ : Rs).adv = ⟨{ u.adv with deep := u.deep + 1 }, 0⟩ := rfl
          rw [ea]
          exact ⟨_, until_live h s.nd.length _ { u.adv with deep := u.deep + 1 } (by show u.deep + 1 ≤ 64; omega), by rw [if_neg (by decide)]⟩
      · rw [if_neg hb]
        unfold withinP
        rw [if_neg hb]
        exact fun _ => ⟨rfl, rfl⟩
    exact key (s.kidNode i 6) hs'
theorem agree_else {st : Nat → Pm Unit} {ST : Nat → Rs → Rs} (h : LiveA st ST) (i : Nat) : Agree (elseOf st i) (elseR ST i) :=
  agree_if (a := fun s => blockOf st i s.adv) (A := fun r => blockR ST i r.adv) [101, 108, 115, 101] (fun s hs _ => (agree_block h i).live s.adv hs) agree_id
theorem agree_branch {st : Nat → Pm Unit} {ST : Nat → Rs → Rs} (h : LiveA st ST) (i : Nat) : Agree (branchOf st i) (branchR ST i) := (agree_expr i).bind ((agree_less i).bind ((agree_expr i).bind ((agree_block h i).bind (agree_else h i))))
theorem agree_loop {st : Nat → Pm Unit} {ST : Nat → Rs → Rs} (h : LiveA st ST) (i : Nat) : Agree (loopOf st i) (loopR ST i) := (agree_named i).bind ((agree_take _).bind ((agree_number i).bind ((agree_take _).bind ((agree_number i).bind (agree_block h i)))))
theorem agree_ite {c : Prop} [Decidable c] {a b : Pm Unit} {A B : Rs → Rs} (ha : Agree a A) (hb : Agree b B) : Agree (if c then a else b) (if c then A else B) := by
  by_cases h : c
  · rw [if_pos h, if_pos h]; exact ha
  · rw [if_neg h, if_neg h]; exact hb
theorem agree_reads {st : Nat → Pm Unit} {ST : Nat → Rs → Rs} (h : LiveA st ST) (k i : Nat) : Agree (readsOf st k i) (readsR ST k i) :=
  agree_ite (agree_read i) (agree_ite (agree_set i) (agree_ite (agree_upsert i) (agree_ite (agree_row i) (agree_ite (agree_scan i) (agree_ite (agree_lock i) (agree_ite (agree_release i)
    (agree_ite (agree_branch h i) (agree_ite (agree_loop h i) (agree_ite (agree_let i) (agree_ite (agree_expr i) agree_id))))))))))
theorem stmt_live : ∀ f, LiveA (stmtP f) (stmtR f)
  | 0 => fun i s _ he => absurd rfl he
  | f + 1 => fun i s hs => by
    have ih := stmt_live f
    unfold stmtP stmtR
    show FitsU s (match (if s.hd.kind = 1 then formOf s.hd.text else none) with
      | none => .err 50 s.hd.at_
      | some k => (readsOf (stmtP f) k s.nd.length (s.kidNode i k).adv).bind fun _ s => if k = 14 ∨ k = 15 then .ok () s else takeP [59] s) (match (if s.hd.kind = 1 then formOf s.hd.text else none) with
      | none => (⟨s, 0⟩ : Rs).fail 50
      | some k => let q := readsR (stmtR f) k s.nd.length ((⟨s, 0⟩ : Rs).kidNode i k).adv; if k = 14 ∨ k = 15 then q else takeR [59] q)
    cases (if s.hd.kind = 1 then formOf s.hd.text else none) with
    | none => exact fun _ => ⟨rfl, rfl⟩
    | some k =>
      have h1 := (agree_reads ih k s.nd.length).live (s.kidNode i k).adv hs
      by_cases hk : k = 14 ∨ k = 15
      · have h2 := Fits.bind (N := fun r => r) (f := fun _ s => .ok () s) (B := fun _ => True) h1 (fun _ => ⟨rfl, rfl⟩) fun _ t _ hd hr => by rw [hr]; exact ⟨rfl, rfl, trivial⟩
        simp only [if_pos hk]
        exact h2
      · have h2 := Fits.bind (N := takeR [59]) (f := fun _ s => takeP [59] s) (B := fun _ => True) h1 (fun hr => (agree_take [59]).dead _ hr) fun _ t _ hd hr => by rw [hr]; exact (agree_take [59]).live t (by rw [hd]; exact hs)
        simp only [if_neg hk]
        exact h2
/-! ### Programs -/
def blockRR (i : Nat) (r : Rs) : Rs := blockR (stmtR r.s.ts.length) i r
def tableR (i : Nat) (r : Rs) : Rs := takeR [59] (takeR [41] (listR (wordR r.s.nd.length) (takeR [40] (namedR r.s.nd.length (r.kidNode i 2).adv))))
def namesR (i : Nat) (r : Rs) : Rs := let q := r.kidNode i 4; if q.is [41] = true then q else listR (wordR r.s.nd.length) q
def singleR (i : Nat) (r : Rs) : Rs := if r.is [115, 105, 110, 103, 108, 101] = true then (r.num i 1).adv else r
def procR (i : Nat) (r : Rs) : Rs := blockRR r.s.nd.length (singleR r.s.nd.length (takeR [41] (namesR r.s.nd.length (takeR [40] (namedR r.s.nd.length (r.kidNode i 3).adv)))))
def wholeR : Nat → Rs → Rs
  | 0, r => r
  | f + 1, r => if (r.e == 0 && r.s.hd.kind != 4) = true then
      (if r.is [116, 97, 98, 108, 101] = true then wholeR f (tableR 0 r) else if r.is [112, 114, 111, 99] = true then wholeR f (procR 0 r) else wholeR f (r.fail 50))
    else r
theorem agree_blockP (i : Nat) : Agree (blockP i) (blockRR i) := by
  refine ⟨fun r hr => ?_, fun s hs => ?_⟩
  · exact (agree_block (stmt_live r.s.ts.length) i).dead r hr
  · exact (agree_block (stmt_live s.ts.length) i).live s hs
theorem agree_single (i : Nat) : Agree (singleP i) (singleR i) := agree_if (a := fun s => .ok () (s.adv.num i 1)) (A := fun r => (r.num i 1).adv) [115, 105, 110, 103, 108, 101] (fun s hs _ => ⟨rfl, rfl, trivial⟩) agree_id
theorem agree_names (i : Nat) : Agree (namesP i) (namesR i) := by
  have h : ∀ n, Agree (fun t => if isP [41] t = true then .ok () t else listP (wordP n) t) (fun q => if q.is [41] = true then q else listR (wordR n) q) := fun n =>
    agree_if (a := fun s => .ok () s) (A := fun r => r) [41] (fun s hs _ => ⟨rfl, rfl, trivial⟩) (agree_list (agree_word n))
  refine ⟨fun r hr => ?_, fun s hs => ?_⟩
  · exact (h r.s.nd.length).dead (r.kidNode i 4) hr
  · exact (h s.nd.length).live (s.kidNode i 4) hs
theorem table_live (i : Nat) (s : Ps) (hs : s.deep ≤ 64) (hw : isP [116, 97, 98, 108, 101] s = true) : FitsU s (tableP i s) (tableR i ⟨s, 0⟩) := by
  unfold tableP
  have ht : takeP [116, 97, 98, 108, 101] (s.kidNode i 2) = .ok () (s.kidNode i 2).adv := by unfold takeP; rw [if_pos]; exact hw
  rw [ht, bind_ok]
  exact ((agree_named s.nd.length).bind ((agree_take _).bind ((agree_list (agree_word s.nd.length)).bind ((agree_take _).bind (agree_take _))))).live (s.kidNode i 2).adv hs
theorem proc_live (i : Nat) (s : Ps) (hs : s.deep ≤ 64) (hw : isP [112, 114, 111, 99] s = true) : FitsU s (procP i s) (procR i ⟨s, 0⟩) := by
  unfold procP
  have ht : takeP [112, 114, 111, 99] (s.kidNode i 3) = .ok () (s.kidNode i 3).adv := by unfold takeP; rw [if_pos]; exact hw
  rw [ht, bind_ok]
  exact ((agree_named s.nd.length).bind ((agree_take _).bind ((agree_names s.nd.length).bind ((agree_take _).bind ((agree_single s.nd.length).bind (agree_blockP s.nd.length)))))).live (s.kidNode i 3).adv hs
theorem wholeR_dead : ∀ (f : Nat) (r : Rs), r.e ≠ 0 → wholeR f r = r
  | 0, r, _ => rfl
  | f + 1, r, h => by unfold wholeR; rw [beq_eq_false_iff_ne.2 h, Bool.false_and, if_neg (by decide)]
theorem whole_live : ∀ (f : Nat) (s : Ps), s.deep ≤ 64 → FitsU s (wholeL f s) (wholeR f ⟨s, 0⟩)
  | 0, s, _ => fun he => absurd rfl he
  | f + 1, s, hs => by
    unfold wholeL wholeR
    rw [is_live, is_live]
    have e0 : ((⟨s, 0⟩ : Rs).e == 0 && (⟨s, 0⟩ : Rs).s.hd.kind != 4) = (s.hd.kind != 4) := rfl
    rw [e0]
    by_cases hk : s.hd.kind = 4
    · rw [if_pos hk, if_neg (by rw [hk]; decide)]
      exact ⟨rfl, rfl, trivial⟩
    · rw [if_neg hk, if_pos (bne_iff_ne.2 hk)]
      by_cases ht : isP [116, 97, 98, 108, 101] s = true
      · rw [if_pos ht, if_pos ht]
        refine Fits.bind (N := wholeR f) (table_live 0 s hs ht) (fun hr => by rw [wholeR_dead f _ hr]; exact ⟨rfl, rfl⟩) fun _ t _ hd hr => ?_
        rw [hr]
        exact whole_live f t (by rw [hd]; exact hs)
      · rw [if_neg ht, if_neg ht]
        by_cases hp : isP [112, 114, 111, 99] s = true
        · rw [if_pos hp, if_pos hp]
          refine Fits.bind (N := wholeR f) (proc_live 0 s hs hp) (fun hr => by rw [wholeR_dead f _ hr]; exact ⟨rfl, rfl⟩) fun _ t _ hd hr => ?_
          rw [hr]
          exact whole_live f t (by rw [hd]; exact hs)
        · rw [if_neg hp, if_neg hp, wholeR_dead f _ (show ((50 : Int) ≠ 0) by decide)]
          exact fun _ => ⟨rfl, rfl⟩
/-- What the document answers. -/
def parseRT (ts : List Tok) : ParseR := let r := wholeR (ts.length + 1) ⟨(⟨ts, [], 0⟩ : Ps).node 1, 0⟩
  if r.e = 0 then .ok r.s.nd else .err r.s.hd.at_ r.e
theorem parseRT_eq {ts : List Tok} (h : Lst ⟨ts, [], 0⟩) : parseRT ts = parseT ts := by
  unfold parseRT parseT programP
  have h1 := whole_live (ts.length + 1) ((⟨ts, [], 0⟩ : Ps).node 1) (Nat.zero_le _)
  have h2 := sub_whole (ts.length + 1) ((⟨ts, [], 0⟩ : Ps).node 1) h (Nat.lt_succ_self _)
  dsimp only
  cases hw : wholeL (ts.length + 1) ((⟨ts, [], 0⟩ : Ps).node 1) with
  | ok a s =>
    rw [hw] at h1
    obtain ⟨a1, _, _⟩ := h1
    rw [a1, if_pos rfl]
  | err e p =>
    rw [hw] at h1 h2
    have he : e ≠ 0 := by
      obtain ⟨h3, _⟩ := h2
      rcases h3 with rfl | rfl <;> decide
    obtain ⟨a1, a2⟩ := h1 he
    rw [a1, a2, if_neg he]
end Go.Proofs.YtcccnicldbpieaaGreatDoor
namespace Go.Proofs.YtcccnicldbpieaaGreatDoor
set_option linter.unusedVariables false
set_option linter.unusedSimpArgs false
structure RGood (r : Rs) : Prop where
  last : Lst r.s
  deep : r.s.deep ≤ 65
  live : r.e = 0 → r.s.deep ≤ 64
  few : ∀ n ∈ r.s.nd, n.kids.length ≤ r.s.nd.length
def Rs.phi (r : Rs) : Int := (r.s.nd.length : Int) + 16 * (r.s.ts.length : Int)
structure RLater (c : Int) (r q : Rs) : Prop where
  good : RGood q
  phi : q.phi ≤ r.phi + c
  ts : q.s.ts.length ≤ r.s.ts.length
  nd : r.s.nd.length ≤ q.s.nd.length
def RGro (c : Int) (M : Rs → Rs) : Prop := ∀ r, RGood r → RLater c r (M r)
theorem RLater.refl {r : Rs} (h : RGood r) : RLater 0 r r := ⟨h, by omega, Nat.le_refl _, Nat.le_refl _⟩
theorem RLater.trans {a b : Int} {r q u : Rs} (h : RLater a r q) (k : RLater b q u) : RLater (a + b) r u := ⟨k.good, by have := h.phi; have := k.phi; omega, Nat.le_trans k.ts h.ts, Nat.le_trans h.nd k.nd⟩
theorem RLater.le {a b : Int} {r q : Rs} (h : RLater a r q) (hab : a ≤ b) : RLater b r q := ⟨h.good, by have := h.phi; omega, h.ts, h.nd⟩
theorem RGro.comp {a b : Int} {M N : Rs → Rs} (h : RGro a M) (k : RGro b N) : RGro (a + b) fun r => N (M r) := fun r g => (h r g).trans (k _ (h r g).good)
theorem RGro.le {a b : Int} {M : Rs → Rs} (h : RGro a M) (hab : a ≤ b) : RGro b M := fun r g => (h r g).le hab
theorem rl_adv {r : Rs} (g : RGood r) (hk : r.s.hd.kind ≠ 4) : RLater (-16) r r.adv := by
  have h := g.last.len hk
  refine ⟨⟨g.last.adv hk, g.deep, g.live, g.few⟩, ?_, Nat.le_of_lt h, Nat.le_refl _⟩
  unfold Rs.phi
  show (r.s.nd.length : Int) + 16 * (r.s.adv.ts.length : Int) ≤ _
  omega
theorem rl_fail {r : Rs} (g : RGood r) (e : Int) : RLater 0 r (r.fail e) := by
  unfold Rs.fail
  split
  · rename_i h
    exact ⟨⟨g.last, g.deep, fun _ => g.live h, g.few⟩, by show r.phi ≤ _; omega, Nat.le_refl _, Nat.le_refl _⟩
  · exact RLater.refl g
theorem ris_kind {t : Bs} {r : Rs} (h : r.is t = true) : r.s.hd.kind ≠ 4 ∧ r.e = 0 := by
  unfold Rs.is at h
  rw [Bool.and_eq_true] at h
  exact ⟨(isP_kind h.2).1, by simpa using h.1⟩
theorem gro_take (t : Bs) : RGro 0 (takeR t) := fun r g => by
  unfold takeR
  split
  · rename_i h
    exact (rl_adv g (ris_kind h).1).le (by decide)
  · exact rl_fail g 50
theorem rl_on {r : Rs} (g : RGood r) (i : Nat) (f : Nd → Nd) (hf : ∀ n, (f n).kids = n.kids) : RLater 0 r { r with s := r.s.on i f } := by
  have hl : (r.s.on i f).nd.length = r.s.nd.length := on_len
  refine ⟨⟨g.last, g.deep, g.live, ?_⟩, by unfold Rs.phi; show ((r.s.on i f).nd.length : Int) + _ ≤ _; rw [hl]; show (r.s.nd.length : Int) + 16 * (r.s.ts.length : Int) ≤ _; omega, Nat.le_refl _, by show _ ≤ (r.s.on i f).nd.length; omega⟩
  show ∀ n ∈ (r.s.on i f).nd, n.kids.length ≤ (r.s.on i f).nd.length
  rw [hl]
  exact on_few _ (fun n hn => by rw [hf]; exact g.few n hn) g.few
theorem gro_named (i : Nat) : RGro 0 (namedR i) := fun r g => by
  have h : RLater 0 r (nameR r) := by
    unfold nameR
    split
    · rename_i h
      unfold Rs.nameB at h
      rw [Bool.and_eq_true] at h
      have hk : r.s.hd.kind = 1 := by simpa using h.2
      exact (rl_adv g (by omega)).le (by decide)
    · exact rl_fail g 50
  have h2 := rl_on h.good i (fun n => { n with text := r.nameT }) fun _ => rfl
  exact (h.trans h2).le (show (0 : Int) + 0 ≤ 0 by decide)
theorem rl_kidNode {r : Rs} (g : RGood r) (i k : Nat) : RLater 1 r (r.kidNode i k) := by
  have hl := kidNode_len r.s i k
  refine ⟨⟨g.last, g.deep, g.live, kid_add_few g.few i _ rfl⟩, ?_, Nat.le_refl _, by show _ ≤ (r.s.kidNode i k).nd.length; omega⟩
  unfold Rs.phi
  show ((r.s.kidNode i k).nd.length : Int) + 16 * (r.s.ts.length : Int) ≤ _
  rw [hl]
  omega
theorem gro_word (i : Nat) : RGro 1 (wordR i) := fun r g => ((rl_kidNode g i 5).trans (gro_named _ _ (rl_kidNode g i 5).good)).le (by decide)
theorem gro_number (i : Nat) : RGro 1 (numberR i) := fun r g => by
  unfold numberR
  have h := rl_kidNode g i 21
  dsimp only
  split
  · rename_i hk
    rw [Bool.and_eq_true] at hk
    have hk2 : (r.kidNode i 21).s.hd.kind = 2 := by simpa using hk.2
    have h2 := rl_on h.good r.s.nd.length (fun n => { n with num := (r.kidNode i 21).s.hd.n }) fun _ => rfl
    have h3 := rl_adv h2.good (by show (r.kidNode i 21).s.hd.kind ≠ 4; omega)
    exact ((h.trans h2).trans h3).le (by decide)
  · exact (h.trans (rl_fail h.good 50)).le (by decide)
/-! ### Within -/
theorem rl_inn {r : Rs} (g : RGood r) (h0 : r.e = 0) : RLater 0 r r.inn := by
  unfold Rs.inn
  have hd := g.live h0
  by_cases h : r.e = 0 ∧ 64 ≤ r.s.deep
  · rw [if_pos h]
    exact ⟨⟨g.last, by show r.s.deep + 1 ≤ 65; omega, fun h => absurd h (by show (51 : Int) ≠ 0; decide), g.few⟩, by show r.phi ≤ _; omega, Nat.le_refl _, Nat.le_refl _⟩
  · rw [if_neg h]
    have : r.s.deep < 64 := by
      rcases Nat.lt_or_ge r.s.deep 64 with h2 | h2
      · exact h2
      · exact absurd ⟨h0, h2⟩ h
    exact ⟨⟨g.last, by show r.s.deep + 1 ≤ 65; omega, fun _ => by show r.s.deep + 1 ≤ 64; omega, g.few⟩, by show r.phi ≤ _; omega, Nat.le_refl _, Nat.le_refl _⟩
theorem rl_out {r : Rs} (g : RGood r) : RLater 0 r r.out := ⟨⟨g.last, by have := g.deep; show r.s.deep - 1 ≤ 65; omega, fun h => by have := g.live h; show r.s.deep - 1 ≤ 64; omega, g.few⟩, by show r.phi ≤ _; omega, Nat.le_refl _, Nat.le_refl _⟩
/-! ### Expressions -/
/-- No nodes; as many tokens as the expression has nodes, where there is no error. -/
structure RExpr (r : Rs) (x : Ex × Rs) : Prop where
  good : RGood x.2
  ts : x.2.s.ts.length ≤ r.s.ts.length
  nd : x.2.s.nd = r.s.nd
  size : x.2.e = 0 → x.1.size + x.2.s.ts.length ≤ r.s.ts.length
  err : r.e ≠ 0 → x.2.e ≠ 0
theorem markR_kind {ms : List (Bs × Nat)} {r : Rs} {k : Nat} (h : markR ms r = some k) : r.s.hd.kind ≠ 4 ∧ r.e = 0 := by
  unfold markR at h
  cases hf : ms.find? fun m => r.is m.1 with
  | none => rw [hf] at h; cases h
  | some m => exact ris_kind (t := m.1) (List.find?_some (p := fun m : Bs × Nat => r.is m.1) hf)
theorem chainR_keeps {ms : List (Bs × Nat)} {P : Rs → Ex × Rs} {n : Nat} (hP : ∀ r, RGood r → r.s.ts.length ≤ n → RExpr r (P r)) (r : Rs) (hn : r.s.ts.length ≤ n) : ∀ (f : Nat) (e : Ex) (q : Rs), RExpr r (e, q) → RExpr r (chainR ms P f e q)
  | 0, e, q, h => h
  | f + 1, e, q, h => by
    unfold chainR
    cases hm : markR ms q with
    | none => exact h
    | some k =>
      obtain ⟨hk, h0⟩ := markR_kind hm
      have ha := rl_adv h.good hk
      have hl : q.adv.s.ts.length < q.s.ts.length := h.good.last.len hk
      have h1 : q.s.ts.length ≤ r.s.ts.length := h.ts
      have hp := hP q.adv ha.good (by omega)
      have h2 := hp.ts
      have h3 : q.e = 0 → e.size + q.s.ts.length ≤ r.s.ts.length := h.size
      have h3 := h3 h0
      refine chainR_keeps hP r hn f _ _ ⟨hp.good, ?_, hp.nd.trans h.nd, fun he => ?_, fun he => ?_⟩
      · have h1' : q.s.ts.length ≤ r.s.ts.length := h1
        show (P q.adv).2.s.ts.length ≤ _
        omega
      · have h4 := hp.size he
        show e.size + (P q.adv).1.size + 1 + (P q.adv).2.s.ts.length ≤ _
        omega
      · exact absurd h0 (h.err he)
theorem chainsR_keeps {ms : List (Bs × Nat)} {P : Rs → Ex × Rs} {n : Nat} (hP : ∀ r, RGood r → r.s.ts.length ≤ n → RExpr r (P r)) (r : Rs) (g : RGood r) (hn : r.s.ts.length ≤ n) : RExpr r (chainsR ms P r) := chainR_keeps hP r hn _ _ _ (hP r g hn)
theorem take_nd (t : Bs) (r : Rs) : (takeR t r).s.nd = r.s.nd := by
  unfold takeR Rs.fail
  split
  · rfl
  · split <;> rfl
theorem take_err (t : Bs) (r : Rs) (h : r.e ≠ 0) : (takeR t r).e ≠ 0 := by
  rw [((agree_take t).dead r h).1]
  exact h
theorem fail_err (r : Rs) : (r.fail 50).e ≠ 0 := by
  unfold Rs.fail
  split
  · show (50 : Int) ≠ 0; decide
  · assumption
theorem fail_nd (e : Int) (r : Rs) : (r.fail e).s = r.s := by unfold Rs.fail; split <;> rfl
theorem inn_s (r : Rs) : r.inn.s.ts = r.s.ts ∧ r.inn.s.nd = r.s.nd := by unfold Rs.inn; split <;> exact ⟨rfl, rfl⟩
theorem inn_err {r : Rs} (h : r.e ≠ 0) : r.inn.e ≠ 0 := by unfold Rs.inn; rw [if_neg (fun hh => h hh.1)]; exact h
theorem rl_leaf {r : Rs} (g : RGood r) (hk : r.s.hd.kind ≠ 4) (h0 : r.e = 0) (k p : Nat) (tx : Bs) (x : Int) : RExpr r (.leaf k p tx x, r.adv) := by
  have h := g.last.len hk
  have ha := rl_adv g hk
  refine ⟨ha.good, ha.ts, rfl, fun _ => ?_, fun h => absurd h0 h⟩
  show 1 + r.s.adv.ts.length ≤ _
  omega
theorem rl_gone {r q : Rs} (h : RLater 0 r q) (hn : q.s.nd = r.s.nd) (he : q.e ≠ 0) (e : Ex) : RExpr r (e, q) := ⟨h.good, h.ts, hn, fun h => absurd h he, fun _ => he⟩
theorem factorR_keeps : ∀ (f : Nat) (r : Rs), RGood r → r.s.ts.length ≤ f → RExpr r (factorR f r)
  | 0, r, g, h => absurd g.last.pos (by omega)
  | f + 1, r, g, hl => by
    unfold factorR
    by_cases h0 : r.e ≠ 0
    · rw [if_pos h0]
      exact rl_gone (RLater.refl g) rfl h0 _
    · rw [if_neg h0]
      have h0 : r.e = 0 := Decidable.not_not.1 h0
      by_cases h1 : r.s.hd.kind = 1
      · rw [if_pos h1]
        exact rl_leaf g (by omega) h0 _ _ _ _
      · rw [if_neg h1]
        by_cases h2 : r.s.hd.kind = 2
        · rw [if_pos h2]
          exact rl_leaf g (by omega) h0 _ _ _ _
        · rw [if_neg h2]
          have hin : r.s.hd.kind ≠ 4 → RLater 0 r r.inn ∧ RLater (-16) r.inn r.inn.adv ∧ r.inn.adv.s.ts.length < r.s.ts.length ∧ r.inn.adv.s.nd = r.s.nd := fun hk => by
            have a := rl_inn g h0
            have hk' : r.inn.s.hd.kind ≠ 4 := by rw [hd_ts (inn_s r).1]; exact hk
            have b := rl_adv a.good hk'
            have c := a.good.last.len hk'
            refine ⟨a, b, ?_, (inn_s r).2⟩
            have d : r.inn.s.ts.length = r.s.ts.length := by rw [(inn_s r).1]
            show r.inn.s.adv.ts.length < _
            omega
          by_cases h3 : r.is [40] = true
          · rw [if_pos h3]
            obtain ⟨a, b, c, d⟩ := hin (ris_kind h3).1
            by_cases h4 : r.inn.e = 0
            · rw [if_pos h4]
              have hx := chainsR_keeps (ms := plusM) (n := f) (fun q gq hq => chainsR_keeps (ms := starM) (n := f) (fun u gu hu => factorR_keeps f u gu hu) q gq hq) r.inn.adv b.good (by omega)
              generalize chainsR plusM (chainsR starM (factorR f)) r.inn.adv = x at *
              dsimp only
              have ht := gro_take [41] x.2 hx.good
              have ho := rl_out ht.good
              have e1 := hx.ts
              have e2 := ht.ts
              refine ⟨ho.good, ?_, ?_, fun he => ?_, fun h => absurd h0 h⟩
              · show (takeR [41] x.2).s.ts.length ≤ _
                omega
              · show (takeR [41] x.2).s.nd = _
                rw [take_nd, hx.nd, d]
              · have hq : x.2.e = 0 := by
                  by_cases hq : x.2.e = 0
                  · exact hq
                  · exact absurd he (take_err [41] x.2 hq)
                have e3 := hx.size hq
                show x.1.size + (takeR [41] x.2).s.ts.length ≤ _
                omega
            · rw [if_neg h4]
              exact rl_gone ((a.trans (rl_out a.good)).le (by decide)) (inn_s r).2 h4 _
          · rw [if_neg h3]
            by_cases h5 : r.is [45] = true
            · rw [if_pos h5]
              obtain ⟨a, b, c, d⟩ := hin (ris_kind h5).1
              by_cases h4 : r.inn.e = 0
              · rw [if_pos h4]
                have hx := factorR_keeps f r.inn.adv b.good (by omega)
                generalize factorR f r.inn.adv = x at *
                dsimp only
                have ho := rl_out hx.good
                have e1 := hx.ts
                refine ⟨ho.good, ?_, ?_, fun he => ?_, fun h => absurd h0 h⟩
                · show x.2.s.ts.length ≤ _
                  omega
                · exact hx.nd.trans d
                · have e3 := hx.size he
                  show x.1.size + 1 + x.2.s.ts.length ≤ _
                  omega
              · rw [if_neg h4]
                exact rl_gone ((a.trans (rl_out a.good)).le (by decide)) (inn_s r).2 h4 _
            · rw [if_neg h5]
              exact rl_gone (rl_fail g 50) (by rw [fail_nd]) (fail_err r) _
theorem sumR_keeps (r : Rs) (g : RGood r) : RExpr r (sumR r) := chainsR_keeps (n := r.s.ts.length) (fun q gq hq => chainsR_keeps (n := r.s.ts.length) (fun u gu hu => factorR_keeps _ u gu hu) q gq hq) r g (Nat.le_refl _)
theorem gro_expr (i : Nat) : RGro 0 (exprR i) := fun r g => by
  unfold exprR
  have h := sumR_keeps r g
  generalize sumR r = x at *
  obtain ⟨e, q⟩ := x
  have hnd : q.s.nd = r.s.nd := h.nd
  have hts : q.s.ts.length ≤ r.s.ts.length := h.ts
  dsimp only
  by_cases h0 : q.e = 0
  · rw [if_pos h0]
    have hs : e.size + q.s.ts.length ≤ r.s.ts.length := h.size h0
    obtain ⟨p1, p2, p3⟩ := put_len e i q.s
    refine ⟨⟨h.good.last.of p2, by show (putP i e q.s).deep ≤ 65; rw [p3]; exact h.good.deep, fun hh => by show (putP i e q.s).deep ≤ 64; rw [p3]; exact h.good.live hh, put_few e i q.s h.good.few⟩, ?_, ?_, ?_⟩
    · unfold Rs.phi
      show ((putP i e q.s).nd.length : Int) + 16 * ((putP i e q.s).ts.length : Int) ≤ _
      rw [p1, p2, hnd]
      omega
    · show (putP i e q.s).ts.length ≤ _
      rw [p2]
      exact hts
    · show _ ≤ (putP i e q.s).nd.length
      rw [p1, hnd]
      omega
  · rw [if_neg h0]
    refine ⟨h.good, ?_, hts, by show _ ≤ q.s.nd.length; rw [hnd]; exact Nat.le_refl _⟩
    unfold Rs.phi
    show (q.s.nd.length : Int) + 16 * (q.s.ts.length : Int) ≤ _
    rw [hnd]
    omega
end Go.Proofs.YtcccnicldbpieaaGreatDoor
namespace Go.Proofs.YtcccnicldbpieaaGreatDoor
set_option linter.unusedVariables false
set_option linter.unusedSimpArgs false
theorem rl_within {r : Rs} (g : RGood r) {t z : Bs} {c : Int} (ht : r.is t = true) {B : Rs → Rs} (hB : RGro c B) (hc : c ≤ 16) : RLater 0 r (if r.inn.e = 0 then (takeR z (B r.inn.adv)).out else r.inn.fail 50) := by
  obtain ⟨hk, h0⟩ := ris_kind ht
  have a := rl_inn g h0
  split
  · have b := rl_adv a.good (by rw [hd_ts (inn_s r).1]; exact hk)
    have d := hB _ b.good
    have e := gro_take z _ d.good
    exact ((((a.trans b).trans d).trans e).trans (rl_out e.good)).le (by omega)
  · exact (a.trans (rl_fail a.good 50)).le (by decide)
theorem gro_bracket (i : Nat) : RGro 0 (bracketR i) := fun r g => by
  unfold bracketR
  split
  · rename_i h
    exact rl_within g h (gro_expr i) (by decide)
  · exact rl_fail g 50
theorem gro_row (i : Nat) : RGro 1 (rowR i) := fun r g => by
  have a := rl_kidNode g i 20
  have b := gro_named r.s.nd.length _ a.good
  have c := gro_bracket r.s.nd.length _ b.good
  exact ((a.trans b).trans c).le (by decide)
theorem gro_more {one : Rs → Rs} {c : Int} (h : RGro c one) (hc : c ≤ 16) : ∀ f, RGro 0 (moreR one f)
  | 0 => fun r g => RLater.refl g
  | f + 1 => fun r g => by
    unfold moreR
    split
    · rename_i hi
      have a := rl_adv g (ris_kind hi).1
      have b := h _ a.good
      exact ((a.trans b).trans (gro_more h hc f _ b.good)).le (by omega)
    · exact RLater.refl g
theorem gro_list {one : Rs → Rs} {c : Int} (h : RGro c one) (hc : c ≤ 16) : RGro c (listR one) := fun r g => by
  have a := h r g
  exact (a.trans (gro_more h hc _ _ a.good)).le (by omega)
theorem gro_cell (i : Nat) : RGro 2 (cellR i) := ((gro_row i).comp ((gro_take _).comp (gro_word i))).le (by decide)
theorem gro_num (i : Nat) (x : Int) : RGro 0 (fun r => r.num i x) := fun r g => rl_on g i (fun n => { n with num := x }) fun _ => rfl
theorem rl_numAdv {r : Rs} (g : RGood r) (i : Nat) (x : Int) (hk : r.s.hd.kind ≠ 4) : RLater 0 r (r.num i x).adv := by
  have a := gro_num i x r g
  exact (a.trans (rl_adv a.good hk)).le (by decide)
theorem gro_read (i : Nat) : RGro 2 (readR i) := fun r g => by
  have a := ((gro_named i).comp ((gro_take [61]).comp (gro_cell i))) r g
  unfold readR
  dsimp only
  split
  · rename_i h
    have b := rl_adv a.good (ris_kind h).1
    have c := gro_take [117, 112, 100, 97, 116, 101] _ b.good
    exact (((a.trans b).trans c).trans (gro_num i 1 _ c.good)).le (by decide)
  · exact a.le (by decide)
theorem gro_set (i : Nat) : RGro 2 (setR i) := ((gro_cell i).comp ((gro_take _).comp (gro_expr i))).le (by decide)
theorem gro_upsert (i : Nat) : RGro 1 (upsertR i) := ((gro_row i).comp ((gro_take _).comp ((gro_list (gro_expr i) (by decide)).comp (gro_take _)))).le (by decide)
theorem gro_scan (i : Nat) : RGro 2 (scanR i) := ((gro_named i).comp ((gro_take _).comp ((gro_word i).comp ((gro_take _).comp (gro_word i))))).le (by decide)
theorem gro_lock (i : Nat) : RGro 1 (lockR i) := fun r g => by
  have a := gro_word i r g
  unfold lockR
  dsimp only
  split
  · rename_i h
    exact (a.trans (rl_numAdv a.good i 1 (ris_kind h).1)).le (by decide)
  · exact (a.trans (gro_take _ _ a.good)).le (by decide)
theorem gro_release (i : Nat) : RGro 1 (releaseR i) := fun r g => by
  have a := rl_kidNode g i 5
  have b := gro_named r.s.nd.length _ a.good
  unfold releaseR
  dsimp only
  split
  · have c := rl_on b.good r.s.nd.length (fun n => { n with kind := 20 }) fun _ => rfl
    exact (((a.trans b).trans c).trans (gro_bracket r.s.nd.length _ c.good)).le (by decide)
  · exact (a.trans b).le (by decide)
theorem gro_less (i : Nat) : RGro 0 (lessR i) := fun r g => by
  unfold lessR
  split
  · rename_i h
    exact rl_numAdv g i 1 (ris_kind h).1
  · exact gro_take _ r g
theorem gro_let (i : Nat) : RGro 0 (letR i) := ((gro_named i).comp ((gro_take _).comp (gro_expr i))).le (by decide)
theorem gro_until {ST : Nat → Rs → Rs} (h : ∀ i, RGro 0 (ST i)) (i : Nat) : ∀ f, RGro 0 (untilR ST i f)
  | 0 => fun r g => RLater.refl g
  | f + 1 => fun r g => by
    unfold untilR
    split
    · have a := h i r g
      exact (a.trans (gro_until h i f _ a.good)).le (by decide)
    · exact RLater.refl g
theorem gro_block {ST : Nat → Rs → Rs} (h : ∀ i, RGro 0 (ST i)) (i : Nat) : RGro 1 (blockR ST i) := fun r g => by
  have a := rl_kidNode g i 6
  unfold blockR
  dsimp only
  split
  · rename_i hi
    exact (a.trans (rl_within (c := 0) a.good hi (B := fun q => untilR ST r.s.nd.length (q.s.ts.length + 1) q) (fun q gq => gro_until h _ _ q gq) (by decide))).le (by decide)
  · exact (a.trans (rl_fail a.good 50)).le (by decide)
theorem gro_else {ST : Nat → Rs → Rs} (h : ∀ i, RGro 0 (ST i)) (i : Nat) : RGro 0 (elseR ST i) := fun r g => by
  unfold elseR
  split
  · rename_i hi
    have a := rl_adv g (ris_kind hi).1
    exact (a.trans (gro_block h i _ a.good)).le (by decide)
  · exact RLater.refl g
theorem gro_branch {ST : Nat → Rs → Rs} (h : ∀ i, RGro 0 (ST i)) (i : Nat) : RGro 1 (branchR ST i) := ((gro_expr i).comp ((gro_less i).comp ((gro_expr i).comp ((gro_block h i).comp (gro_else h i))))).le (by decide)
theorem gro_loop {ST : Nat → Rs → Rs} (h : ∀ i, RGro 0 (ST i)) (i : Nat) : RGro 3 (loopR ST i) := ((gro_named i).comp ((gro_take _).comp ((gro_number i).comp ((gro_take _).comp ((gro_number i).comp (gro_block h i)))))).le (by decide)
theorem gro_id : RGro 0 (fun r => r) := fun r g => RLater.refl g
theorem gro_ite {c : Prop} [Decidable c] {a : Int} {A B : Rs → Rs} (ha : RGro a A) (hb : RGro a B) : RGro a (if c then A else B) := by
  by_cases h : c
  · rw [if_pos h]; exact ha
  · rw [if_neg h]; exact hb
theorem gro_reads {ST : Nat → Rs → Rs} (h : ∀ i, RGro 0 (ST i)) (k i : Nat) : RGro 3 (readsR ST k i) :=
  gro_ite ((gro_read i).le (by decide)) (gro_ite ((gro_set i).le (by decide)) (gro_ite ((gro_upsert i).le (by decide)) (gro_ite ((gro_row i).le (by decide)) (gro_ite ((gro_scan i).le (by decide)) (gro_ite ((gro_lock i).le (by decide)) (gro_ite ((gro_release i).le (by decide))
    (gro_ite ((gro_branch h i).le (by decide)) (gro_ite (gro_loop h i) (gro_ite ((gro_let i).le (by decide)) (gro_ite ((gro_expr i).le (by decide)) (gro_id.le (by decide))))))))))))
theorem gro_stmt : ∀ f i, RGro 0 (stmtR f i)
  | 0, i => gro_id
  | f + 1, i => fun r g => by
    have ih := gro_stmt f
    unfold stmtR
    by_cases hk : r.s.hd.kind = 1
    · rw [if_pos hk]
      cases formOf r.s.hd.text with
      | none => exact rl_fail g 50
      | some k =>
        have a := rl_kidNode g i k
        have b := rl_adv a.good (by show r.s.hd.kind ≠ 4; omega)
        have c := gro_reads ih k r.s.nd.length _ b.good
        dsimp only
        split
        · exact ((a.trans b).trans c).le (by decide)
        · exact (((a.trans b).trans c).trans (gro_take _ _ c.good)).le (by decide)
    · rw [if_neg hk]
      exact rl_fail g 50
theorem gro_blockRR (i : Nat) : RGro 1 (blockRR i) := fun r g => gro_block (gro_stmt r.s.ts.length) i r g
theorem gro_single (i : Nat) : RGro 0 (singleR i) := fun r g => by
  unfold singleR
  split
  · rename_i h
    exact rl_numAdv g i 1 (ris_kind h).1
  · exact RLater.refl g
theorem gro_names (i : Nat) : RGro 2 (namesR i) := fun r g => by
  have a := rl_kidNode g i 4
  unfold namesR
  dsimp only
  split
  · exact a.le (by decide)
  · exact (a.trans (gro_list (gro_word r.s.nd.length) (by decide) _ a.good)).le (by decide)
theorem rl_table {r : Rs} (g : RGood r) (i : Nat) (hk : r.s.hd.kind ≠ 4) : RLater 0 r (tableR i r) := by
  have a := rl_kidNode g i 2
  have b := rl_adv a.good (by exact hk)
  exact ((a.trans b).trans (((gro_named r.s.nd.length).comp ((gro_take _).comp ((gro_list (gro_word r.s.nd.length) (by decide)).comp ((gro_take _).comp (gro_take _))))) _ b.good)).le (by decide)
theorem rl_proc {r : Rs} (g : RGood r) (i : Nat) (hk : r.s.hd.kind ≠ 4) : RLater 0 r (procR i r) := by
  have a := rl_kidNode g i 3
  have b := rl_adv a.good (by exact hk)
  exact ((a.trans b).trans (((gro_named r.s.nd.length).comp ((gro_take _).comp ((gro_names r.s.nd.length).comp ((gro_take _).comp ((gro_single r.s.nd.length).comp (gro_blockRR r.s.nd.length)))))) _ b.good)).le (by decide)
end Go.Proofs.YtcccnicldbpieaaGreatDoor
namespace Go.Proofs.YtcccnicldbpieaaGreatDoor
set_option linter.unusedVariables false
set_option linter.unusedSimpArgs false
def Up (M : Rs → Rs) : Prop := ∀ r, r.s.deep ≤ (M r).s.deep
def UpE (P : Rs → Ex × Rs) : Prop := ∀ r, r.s.deep ≤ (P r).2.s.deep
theorem Up.comp {M N : Rs → Rs} (h : Up M) (k : Up N) : Up fun r => N (M r) := fun r => Nat.le_trans (h r) (k (M r))
theorem inn_deep (r : Rs) : r.inn.s.deep = r.s.deep + 1 := by unfold Rs.inn; split <;> rfl
theorem up_fail (e : Int) : Up (Rs.fail e) := fun r => by unfold Rs.fail; split <;> exact Nat.le_refl _
theorem up_take (t : Bs) : Up (takeR t) := fun r => by
  unfold takeR
  split
  · exact Nat.le_refl _
  · exact up_fail 50 r
theorem up_named (i : Nat) : Up (namedR i) := fun r => by
  show r.s.deep ≤ (nameR r).s.deep
  unfold nameR
  split
  · exact Nat.le_refl _
  · exact up_fail 50 r
theorem up_word (i : Nat) : Up (wordR i) := fun r => up_named r.s.nd.length (r.kidNode i 5)
theorem up_number (i : Nat) : Up (numberR i) := fun r => by
  unfold numberR
  dsimp only
  split
  · exact Nat.le_refl _
  · exact up_fail 50 (r.kidNode i 21)
theorem up_chainR {ms : List (Bs × Nat)} {P : Rs → Ex × Rs} (h : UpE P) : ∀ f e r, r.s.deep ≤ (chainR ms P f e r).2.s.deep
  | 0, e, r => Nat.le_refl _
  | f + 1, e, r => by
    unfold chainR
    split
    · exact Nat.le_refl _
    · exact Nat.le_trans (h r.adv) (up_chainR h f _ _)
theorem up_chains {ms : List (Bs × Nat)} {P : Rs → Ex × Rs} (h : UpE P) : UpE (chainsR ms P) := fun r => Nat.le_trans (h r) (up_chainR h _ _ _)
theorem up_factor : ∀ f, UpE (factorR f)
  | 0 => fun r => Nat.le_refl _
  | f + 1 => fun r => by
    have ih := up_factor f
    have hi := inn_deep r
    unfold factorR
    split
    · exact Nat.le_refl _
    · split
      · exact Nat.le_refl _
      · split
        · exact Nat.le_refl _
        · split
          · split
            · have h1 := up_chains (ms := plusM) (up_chains (ms := starM) ih) r.inn.adv
              have h2 := up_take [41] (chainsR plusM (chainsR starM (factorR f)) r.inn.adv).2
              show r.s.deep ≤ (takeR [41] (chainsR plusM (chainsR starM (factorR f)) r.inn.adv).2).s.deep - 1
              have h3 : r.inn.adv.s.deep = r.inn.s.deep := rfl
              omega
            · show r.s.deep ≤ r.inn.s.deep - 1
              omega
          · split
            · split
              · have h1 := ih r.inn.adv
                show r.s.deep ≤ (factorR f r.inn.adv).2.s.deep - 1
                have h3 : r.inn.adv.s.deep = r.inn.s.deep := rfl
                omega
              · show r.s.deep ≤ r.inn.s.deep - 1
                omega
            · exact up_fail 50 r
theorem up_sum : UpE sumR := fun r => up_chains (up_chains (up_factor _)) r
theorem up_expr (i : Nat) : Up (exprR i) := fun r => by
  unfold exprR
  have h := up_sum r
  split
  · show _ ≤ (putP i (sumR r).1 (sumR r).2.s).deep
    rw [putP_deep]
    exact h
  · exact h
theorem up_bracket (i : Nat) : Up (bracketR i) := fun r => by
  unfold bracketR
  have hi := inn_deep r
  split
  · split
    · have h1 := up_expr i r.inn.adv
      have h2 := up_take [93] (exprR i r.inn.adv)
      show r.s.deep ≤ (takeR [93] (exprR i r.inn.adv)).s.deep - 1
      have h3 : r.inn.adv.s.deep = r.inn.s.deep := rfl
      omega
    · have := up_fail 50 r.inn
      omega
  · exact up_fail 50 r
theorem up_row (i : Nat) : Up (rowR i) := fun r => Nat.le_trans (up_named r.s.nd.length (r.kidNode i 20)) (up_bracket r.s.nd.length _)
theorem up_more {one : Rs → Rs} (h : Up one) : ∀ f, Up (moreR one f)
  | 0 => fun r => Nat.le_refl _
  | f + 1 => fun r => by
    unfold moreR
    split
    · exact Nat.le_trans (h r.adv) (up_more h f _)
    · exact Nat.le_refl _
theorem up_list {one : Rs → Rs} (h : Up one) : Up (listR one) := fun r => Nat.le_trans (h r) (up_more h _ _)
theorem up_cell (i : Nat) : Up (cellR i) := (up_row i).comp ((up_take _).comp (up_word i))
theorem up_read (i : Nat) : Up (readR i) := fun r => by
  have h := ((up_named i).comp ((up_take [61]).comp (up_cell i))) r
  unfold readR
  dsimp only
  split
  · exact Nat.le_trans h (up_take [117, 112, 100, 97, 116, 101] (cellR i (takeR [61] (namedR i r))).adv)
  · exact h
theorem up_set (i : Nat) : Up (setR i) := (up_cell i).comp ((up_take _).comp (up_expr i))
theorem up_upsert (i : Nat) : Up (upsertR i) := (up_row i).comp ((up_take _).comp ((up_list (up_expr i)).comp (up_take _)))
theorem up_scan (i : Nat) : Up (scanR i) := (up_named i).comp ((up_take _).comp ((up_word i).comp ((up_take _).comp (up_word i))))
theorem up_lock (i : Nat) : Up (lockR i) := fun r => by
  have h := up_word i r
  unfold lockR
  dsimp only
  split
  · exact h
  · exact Nat.le_trans h (up_take _ _)
theorem up_release (i : Nat) : Up (releaseR i) := fun r => by
  have h := up_named r.s.nd.length (r.kidNode i 5)
  unfold releaseR
  dsimp only
  split
  · exact Nat.le_trans h (up_bracket r.s.nd.length ((namedR r.s.nd.length (r.kidNode i 5)).kind r.s.nd.length 20))
  · exact h
theorem up_less (i : Nat) : Up (lessR i) := fun r => by
  unfold lessR
  split
  · exact Nat.le_refl _
  · exact up_take _ r
theorem up_let (i : Nat) : Up (letR i) := (up_named i).comp ((up_take _).comp (up_expr i))
theorem up_until {ST : Nat → Rs → Rs} (h : ∀ i, Up (ST i)) (i : Nat) : ∀ f, Up (untilR ST i f)
  | 0 => fun r => Nat.le_refl _
  | f + 1 => fun r => by
    unfold untilR
    split
    · exact Nat.le_trans (h i r) (up_until h i f _)
    · exact Nat.le_refl _
theorem up_block {ST : Nat → Rs → Rs} (h : ∀ i, Up (ST i)) (i : Nat) : Up (blockR ST i) := fun r => by
  unfold blockR
  dsimp only
  have hi := inn_deep (r.kidNode i 6)
  have h0 : (r.kidNode i 6).s.deep = r.s.deep := rfl
  split
  · split
    · have h1 := up_until h r.s.nd.length ((r.kidNode i 6).inn.adv.s.ts.length + 1) (r.kidNode i 6).inn.adv
      have h2 := up_take [125] (untilR ST r.s.nd.length ((r.kidNode i 6).inn.adv.s.ts.length + 1) (r.kidNode i 6).inn.adv)
      show r.s.deep ≤ (takeR [125] (untilR ST r.s.nd.length ((r.kidNode i 6).inn.adv.s.ts.length + 1) (r.kidNode i 6).inn.adv)).s.deep - 1
      have h3 : (r.kidNode i 6).inn.adv.s.deep = (r.kidNode i 6).inn.s.deep := rfl
      omega
    · have := up_fail 50 (r.kidNode i 6).inn
      omega
  · exact up_fail 50 (r.kidNode i 6)
theorem up_else {ST : Nat → Rs → Rs} (h : ∀ i, Up (ST i)) (i : Nat) : Up (elseR ST i) := fun r => by
  unfold elseR
  split
  · exact up_block h i r.adv
  · exact Nat.le_refl _
theorem up_branch {ST : Nat → Rs → Rs} (h : ∀ i, Up (ST i)) (i : Nat) : Up (branchR ST i) := (up_expr i).comp ((up_less i).comp ((up_expr i).comp ((up_block h i).comp (up_else h i))))
theorem up_loop {ST : Nat → Rs → Rs} (h : ∀ i, Up (ST i)) (i : Nat) : Up (loopR ST i) := (up_named i).comp ((up_take _).comp ((up_number i).comp ((up_take _).comp ((up_number i).comp (up_block h i)))))
theorem up_ite {c : Prop} [Decidable c] {A B : Rs → Rs} (ha : Up A) (hb : Up B) : Up (if c then A else B) := by
  by_cases h : c
  · rw [if_pos h]; exact ha
  · rw [if_neg h]; exact hb
theorem up_id : Up (fun r => r) := fun r => Nat.le_refl _
theorem up_reads {ST : Nat → Rs → Rs} (h : ∀ i, Up (ST i)) (k i : Nat) : Up (readsR ST k i) :=
  up_ite (up_read i) (up_ite (up_set i) (up_ite (up_upsert i) (up_ite (up_row i) (up_ite (up_scan i) (up_ite (up_lock i) (up_ite (up_release i)
    (up_ite (up_branch h i) (up_ite (up_loop h i) (up_ite (up_let i) (up_ite (up_expr i) up_id))))))))))
theorem up_stmt : ∀ f i, Up (stmtR f i)
  | 0, i => up_id
  | f + 1, i => fun r => by
    have ih := up_stmt f
    unfold stmtR
    split
    · exact up_fail 50 r
    · rename_i k hk
      have h := up_reads ih k r.s.nd.length (r.kidNode i k).adv
      dsimp only
      split
      · exact h
      · exact Nat.le_trans h (up_take _ _)
end Go.Proofs.YtcccnicldbpieaaGreatDoor
namespace Go.Proofs.YtcccnicldbpieaaGreatDoor
open Go Go.RowKit
set_option linter.unusedVariables false
set_option linter.unusedSimpArgs false
structure QRep where
  bt : Nat
  o0 : Nat
  I : Nat
  ct : Nat
  A : Option Addr
  c : Nat
  nh : List (Nd × Hd2)
structure QS (w : World) (p B : Nat) (r : Rs) (R : QRep) : Prop where
  blk : Blk w p 65 #[.slice (some ⟨R.bt, R.o0, none⟩) (R.I + r.s.ts.length) R.ct, .int .i64 (R.I : Int), .int .i64 (r.s.deep : Int), .slice R.A R.nh.length R.c, .int .i64 r.e]
  toks : ∀ k, k < r.s.ts.length * 5 → w.cell? ⟨R.bt, R.o0 + R.I * 5 + k, none⟩ = (kcells r.s.ts)[k]?
  few : R.I + r.s.ts.length ≤ 1000000
  tlow : R.bt < B
  nodes : r.s.nd = R.nh.map Prod.fst
  ns : NS w B 76 3 R.A R.c R.nh
  pB : B ≤ p
  good : RGood r
theorem QS.tok {w : World} {p B : Nat} {r : Rs} {R : QRep} (h : QS w p B r R) (j : Nat) (hj : j < 5) : w.cell? ⟨R.bt, R.o0 + R.I * 5 + j, none⟩ = (kcell r.s.hd)[j]? := by
  have hp := h.good.last.pos
  rw [h.toks j (by omega)]
  unfold Ps.hd
  cases hs : r.s.ts with
  | nil => rw [hs] at hp; simp at hp
  | cons t l =>
    show (kcell t ++ kcells l)[j]? = _
    rw [List.getElem?_append_left (by show j < 5; exact hj)]
    rfl
set_option maxHeartbeats 1000000 in
theorem qtext_any (w : World) (p B : Nat) (r : Rs) (R : QRep) (h : QS w p B r R) :
    Calls Tryz.prog 52 #[.pointer (some ⟨p, 0, none⟩)] w fun e w' => e = .returned (.string (bstr r.s.hd.text)) ∧ ∃ m, w' = w.drewN m := by
  have x0 : w.cell? ⟨p, 0, none⟩ = some (.slice (some ⟨R.bt, R.o0, none⟩) (R.I + r.s.ts.length) R.ct) := h.blk.cell 0
  have x1 : w.cell? ⟨p, 1, none⟩ = some (.int .i64 (R.I : Int)) := h.blk.cell 1
  have t3 : w.cell? ⟨R.bt, R.o0 + R.I * 5 + 3, none⟩ = some (.string (bstr r.s.hd.text)) := h.tok 3 (by decide)
  have hpos := h.good.last.pos
  have hfew := h.few
  have q0 : (R.I : Int) < (R.I : Int) + (r.s.ts.length : Int) := by omega
  clear h
  generalize r.s.hd.text = tx at *
  generalize r.s.ts.length = n at *
  obtain ⟨bt, o0, I, ct, A, c, nh⟩ := R
  dsimp only at *
  go_enter Tryz.func52, Tryz.ntmps52
  go_wp2
  go_quiet (fail)
  go_wp2
  go_ret
  exact ⟨rfl, nq, rfl⟩
theorem QS.drewN {w : World} {p B : Nat} {r : Rs} {R : QRep} (h : QS w p B r R) (n : Nat) : QS (w.drewN n) p B r R := ⟨h.blk, h.toks, h.few, h.tlow, h.nodes, ⟨h.ns.row, h.ns.kids, h.ns.apart, h.ns.rz, h.ns.kz⟩, h.pB, h.good⟩
set_option maxHeartbeats 4000000 in
theorem qis_any (w : World) (p B : Nat) (r : Rs) (R : QRep) (t : Bs) (b : Bool) (hb : Hid (r.is t = b)) (h : QS w p B r R) :
    Calls Tryz.prog 26 #[.pointer (some ⟨p, 0, none⟩), .string (bstr t)] w fun e w' => e = .returned (.bool b) ∧ ∃ m, w' = w.drewN m := by
  have HP := Lib.hid h
  have HT := Lib.hid fun W hW => qtext_any W p B r R hW
  have x0 : w.cell? ⟨p, 0, none⟩ = some (.slice (some ⟨R.bt, R.o0, none⟩) (R.I + r.s.ts.length) R.ct) := h.blk.cell 0
  have x1 : w.cell? ⟨p, 1, none⟩ = some (.int .i64 (R.I : Int)) := h.blk.cell 1
  have x4 : w.cell? ⟨p, 4, none⟩ = some (.int .i64 r.e) := h.blk.cell 4
  have t0 : w.cell? ⟨R.bt, R.o0 + R.I * 5, none⟩ = some (.int .u8 (r.s.hd.kind : Int)) := h.tok 0 (by decide)
  have hpos := h.good.last.pos
  have hfew := h.few
  have q0 : (R.I : Int) < (R.I : Int) + (r.s.ts.length : Int) := by omega
  clear h
  have HB : Hid ((r.e == 0 && ((r.s.hd.kind != 4 && r.s.hd.kind != 2) && r.s.hd.text == t)) = b) := hb
  clear hb
  generalize r.s.hd.text = tx at *
  generalize r.s.hd.kind = k at *
  obtain ⟨ee, hee⟩ : ∃ x, x = r.e := ⟨_, rfl⟩
  rw [← hee] at x4 HB
  by_cases h0 : ee = 0
  · subst h0
    clear hee
    by_cases h4 : k = 4
    · subst h4
      have e : b = false := by rw [← HB.out]; rfl
      clear HB
      go_enter Tryz.func26, Tryz.ntmps26
      go_wp2_with fail
      go_quiet (fail)
      go_wp2_with fail
      go_ret
      exact ⟨by rw [e]; rfl, nq, rfl⟩
    · by_cases h2 : k = 2
      · subst h2
        have e : b = false := by rw [← HB.out]; rfl
        clear HB
        go_enter Tryz.func26, Tryz.ntmps26
        go_wp2_with fail
        go_quiet (fail)
        go_wp2_with fail
        go_ret
        exact ⟨by rw [e]; rfl, nq, rfl⟩
      · have i4 : ¬ (k : Int) = 4 := by omega
        have i2 : ¬ (k : Int) = 2 := by omega
        have j4 : ((k : Int) != 4) = true := by rw [bne_iff_ne]; omega
        have j2 : ((k : Int) != 2) = true := by rw [bne_iff_ne]; omega
        have e : (tx == t) = b := by
          rw [← HB.out]
          have b4 : (k != 4) = true := by rw [bne_iff_ne]; omega
          have b2 : (k != 2) = true := by rw [bne_iff_ne]; omega
          rw [b4, b2]
          rfl
        have HE := Lib.hid e
        clear HB h4 h2 e
        go_enter Tryz.func26, Tryz.ntmps26
        go_wp2_with fail
        go_quiet (refine Calls.quiet_of (HT.out _ (HP.out.drewN _)))
        go_wp2_with fail
        go_ret
        exact ⟨ret_bool (by simp only [bstr_toList]; exact HE.out), nq, rfl⟩
  · have e : b = false := by rw [← HB.out, beq_eq_false_iff_ne.2 h0]; rfl
    have g0 : (ee == 0) = false := beq_eq_false_iff_ne.2 h0
    clear HB hee
    go_enter Tryz.func26, Tryz.ntmps26
    go_wp2_with fail
    go_quiet (fail)
    go_wp2_with fail
    go_ret
    exact ⟨by rw [e]; rfl, nq, rfl⟩
theorem QS.set4 {w : World} {p B : Nat} {r : Rs} {R : QRep} (h : QS w p B r R) (e : Int) (he : e ≠ 0) : QS (w.setCell ⟨p, 4, none⟩ (.int .i64 e)) p B { r with e := e } R := by
  refine ⟨?_, fun k hk => ?_, h.few, h.tlow, h.nodes, ?_, h.pB, ⟨h.good.last, h.good.deep, fun h0 => absurd h0 he, h.good.few⟩⟩
  · have := h.blk.put 4 (.int .i64 e)
    simpa using this
  · have hne : R.bt ≠ p := by have := h.tlow; have := h.pB; omega
    rw [World.cell?_of_block (w := w) (Below.heap_setCell w ⟨p, 4, none⟩ _ R.bt hne)]
    exact h.toks k hk
  · refine h.ns.keep fun b hb => Below.heap_setCell w ⟨p, 4, none⟩ _ b fun e => ?_
    rw [e] at hb
    exact h.ns.not_mine h.blk (by decide) (by decide) hb
def MineQ (p : Nat) (R : QRep) (b : Nat) : Prop := b = p ∨ MineN R.A R.nh b
def PostQ (w : World) (p B : Nat) (R : QRep) (r' : Rs) (w' : World) : Prop := ∃ R', QS w' p B r' R' ∧ Moves w (MineQ p R) w' (MineQ p R')
/-- .. where the rows stay. -/
def PostT (w : World) (p B : Nat) (R : QRep) (r' : Rs) (w' : World) : Prop := ∃ I', QS w' p B r' { R with I := I' } ∧ Moves w (MineQ p R) w' (MineQ p R)
theorem PostT.toQ {w : World} {p B : Nat} {R : QRep} {r : Rs} {w' : World} (h : PostT w p B R r w') : PostQ w p B R r w' := let ⟨_, a, b⟩ := h; ⟨_, a, b⟩
theorem PostT.trans {w w1 w2 : World} {p B : Nat} {R : QRep} {r : Rs} (h : Moves w (MineQ p R) w1 (MineQ p R)) (k : PostT w1 p B R r w2) : PostT w p B R r w2 := let ⟨_, a, b⟩ := k; ⟨_, a, h.trans b⟩
set_option maxHeartbeats 1000000 in
theorem qfail_t (w : World) (p B : Nat) (r : Rs) (R : QRep) (er : Int) (he : er ≠ 0) (h : QS w p B r R) :
    Calls Tryz.prog 29 #[.pointer (some ⟨p, 0, none⟩), .int .i64 er] w fun e w' => e = .returned (.tuple #[]) ∧ PostT w p B R (r.fail er) w' := by
  have HP := Lib.hid h
  have x4 : w.cell? ⟨p, 4, none⟩ = some (.int .i64 r.e) := h.blk.cell 4
  have hf := h.blk.frozen 4
  clear h
  by_cases h0 : r.e = 0
  · have HF : Hid (r.fail er = { r with e := er }) := Lib.hid (by unfold Rs.fail; rw [if_pos h0])
    rw [h0] at x4
    clear h0
    go_enter Tryz.func29, Tryz.ntmps29
    go_wp2_with fail
    go_end0
    rw [HF.out]
    exact ⟨rfl, R.I, HP.out.set4 er he, Moves.set (.inl rfl)⟩
  · have HF : Hid (r.fail er = r) := Lib.hid (by unfold Rs.fail; rw [if_neg h0])
    have g0 : (r.e == 0) = false := beq_eq_false_iff_ne.2 h0
    go_enter Tryz.func29, Tryz.ntmps29
    go_wp2_with fail
    go_end0
    rw [HF.out]
    exact ⟨rfl, R.I, HP.out, Moves.refl _ _⟩
theorem qfail_any (w : World) (p B : Nat) (r : Rs) (R : QRep) (er : Int) (he : er ≠ 0) (h : QS w p B r R) :
    Calls Tryz.prog 29 #[.pointer (some ⟨p, 0, none⟩), .int .i64 er] w fun e w' => e = .returned (.tuple #[]) ∧ PostQ w p B R (r.fail er) w' := (qfail_t w p B r R er he h).mono fun _ _ h => ⟨h.1, h.2.toQ⟩
end Go.Proofs.YtcccnicldbpieaaGreatDoor
namespace Go.Proofs.YtcccnicldbpieaaGreatDoor
open Go Go.RowKit
set_option linter.unusedVariables false
set_option linter.unusedSimpArgs false
/-- One token on. -/
theorem QS.set1 {w : World} {p B : Nat} {r : Rs} {R : QRep} (h : QS w p B r R) (hk : r.s.hd.kind ≠ 4) : QS (w.setCell ⟨p, 1, none⟩ (.int .i64 ((R.I : Int) + 1))) p B r.adv { R with I := R.I + 1 } := by
  have hpos := h.good.last.pos
  have hg := (rl_adv h.good hk).good
  cases hs : r.s.ts with
  | nil => rw [hs] at hpos; simp at hpos
  | cons t l =>
    have hkt : r.adv.s.ts = l := by show r.s.ts.tail = l; rw [hs]; rfl
    have hn : R.I + r.s.ts.length = R.I + 1 + l.length := by rw [hs, List.length_cons]; omega
    refine ⟨?_, fun k hk' => ?_, ?_, h.tlow, h.nodes, ?_, h.pB, hg⟩
    · have := h.blk.put 1 (.int .i64 ((R.I : Int) + 1))
      rw [hkt]
      rw [hn] at this
      show Blk _ p 65 #[_, .int .i64 ((R.I + 1 : Nat) : Int), .int .i64 (r.s.deep : Int), .slice R.A R.nh.length R.c, .int .i64 r.e]
      rw [Int.natCast_add]
      simpa using this
    · rw [hkt] at hk' ⊢
      have hne : R.bt ≠ p := by have := h.tlow; have := h.pB; omega
      rw [World.cell?_of_block (w := w) (Below.heap_setCell w ⟨p, 1, none⟩ _ R.bt hne)]
      show w.cell? ⟨R.bt, R.o0 + (R.I + 1) * 5 + k, none⟩ = _
      rw [show R.o0 + (R.I + 1) * 5 + k = R.o0 + R.I * 5 + (5 + k) by omega, h.toks (5 + k) (by rw [hs]; simp only [List.length_cons]; omega), hs]
      show (kcell t ++ kcells l)[5 + k]? = _
      rw [List.getElem?_append_right (by show 5 ≤ _; omega)]
      show (kcells l)[5 + k - 5]? = _
      rw [show 5 + k - 5 = k by omega]
    · rw [hkt]
      have := h.few
      show R.I + 1 + l.length ≤ _
      omega
    · refine h.ns.keep fun b hb => Below.heap_setCell w ⟨p, 1, none⟩ _ b fun e => ?_
      rw [e] at hb
      exact h.ns.not_mine h.blk (by decide) (by decide) hb
theorem PostQ.trans {w w1 w2 : World} {p B : Nat} {R R1 : QRep} {r : Rs} (h : Moves w (MineQ p R) w1 (MineQ p R1)) (k : PostQ w1 p B R1 r w2) : PostQ w p B R r w2 := let ⟨R2, a, b⟩ := k; ⟨R2, a, h.trans b⟩
theorem moves_drew {w : World} {M : Nat → Prop} (n : Nat) : Moves w M (w.drewN n) M := ⟨rfl, rfl, rfl, Nat.le_refl _, fun _ _ _ => rfl, fun _ h => .inl h⟩
set_option maxHeartbeats 2000000 in
theorem qtake_any (w : World) (p B : Nat) (r : Rs) (R : QRep) (t : Bs) (h : QS w p B r R) :
    Calls Tryz.prog 55 #[.pointer (some ⟨p, 0, none⟩), .string (bstr t)] w fun e w' => e = .returned (.tuple #[]) ∧ PostQ w p B R (takeR t r) w' := by
  have HP := Lib.hid h
  have hfew := h.few
  have hpos := h.good.last.pos
  clear h
  cases hi : r.is t with
  | true =>
    have HI := Lib.hid hi
    have HT : Hid (takeR t r = r.adv) := Lib.hid (by unfold takeR; rw [if_pos hi])
    have HK := Lib.hid (ris_kind hi).1
    clear hi
    go_enter Tryz.func55, Tryz.ntmps55
    go_wp2_with fail
    refine (qis_any w p B r R t true HI HP.out).mono ?_
    rintro e w1 ⟨rfl, m, rfl⟩
    have HP1 := Lib.hid (HP.out.drewN m)
    have HM : Hid (Moves w (MineQ p R) (w.drewN m) (MineQ p R)) := Lib.hid (moves_drew m)
    generalize w.drewN m = w1 at *
    have x1 : w1.cell? ⟨p, 1, none⟩ = some (.int .i64 (R.I : Int)) := HP1.out.blk.cell 1
    have hf := HP1.out.blk.frozen 1
    go_wp2_with fail
    go_end0
    rw [HT.out]
    exact ⟨rfl, _, HP1.out.set1 HK.out, HM.out.trans (Moves.set (.inl rfl))⟩
  | false =>
    have HI := Lib.hid hi
    have HT : Hid (takeR t r = r.fail 50) := Lib.hid (by unfold takeR; rw [hi]; rfl)
    clear hi
    go_enter Tryz.func55, Tryz.ntmps55
    go_wp2_with fail
    refine (qis_any w p B r R t false HI HP.out).mono ?_
    rintro e w1 ⟨rfl, m, rfl⟩
    have HP1 := Lib.hid (HP.out.drewN m)
    have HM : Hid (Moves w (MineQ p R) (w.drewN m) (MineQ p R)) := Lib.hid (moves_drew m)
    generalize w.drewN m = w1 at *
    go_wp2_with fail
    refine (qfail_any w1 p B r R 50 (by decide) HP1.out).mono ?_
    rintro e w2 ⟨rfl, ho⟩
    have HO := Lib.hid ho
    clear ho
    go_wp2_with fail
    refine bodyPost_ret (results_none rfl _ _ _) rfl ?_
    rw [HT.out]
    exact ⟨rfl, PostQ.trans HM.out HO.out⟩
set_option maxHeartbeats 4000000 in
theorem qname_t (w : World) (p B : Nat) (r : Rs) (R : QRep) (h : QS w p B r R) :
    Calls Tryz.prog 54 #[.pointer (some ⟨p, 0, none⟩)] w fun e w' => e = .returned (.string (bstr r.nameT)) ∧ PostT w p B R (nameR r) w' := by
  have HP := Lib.hid h
  have x0 : w.cell? ⟨p, 0, none⟩ = some (.slice (some ⟨R.bt, R.o0, none⟩) (R.I + r.s.ts.length) R.ct) := h.blk.cell 0
  have x1 : w.cell? ⟨p, 1, none⟩ = some (.int .i64 (R.I : Int)) := h.blk.cell 1
  have x4 : w.cell? ⟨p, 4, none⟩ = some (.int .i64 r.e) := h.blk.cell 4
  have t0 : w.cell? ⟨R.bt, R.o0 + R.I * 5, none⟩ = some (.int .u8 (r.s.hd.kind : Int)) := h.tok 0 (by decide)
  have hpos := h.good.last.pos
  have hfew := h.few
  have q0 : (R.I : Int) < (R.I : Int) + (r.s.ts.length : Int) := by omega
  clear h
  obtain ⟨ee, hee⟩ : ∃ x, x = r.e := ⟨_, rfl⟩
  obtain ⟨k, hkk⟩ : ∃ x, x = r.s.hd.kind := ⟨_, rfl⟩
  rw [← hee] at x4
  rw [← hkk] at t0
  have HN : Hid (r.nameB = (ee == 0 && k == 1)) := Lib.hid (by rw [hee, hkk]; rfl)
  by_cases hb : ee = 0 ∧ k = 1
  · obtain ⟨rfl, rfl⟩ := hb
    have HT : Hid (r.nameT = r.s.hd.text ∧ nameR r = r.adv) := Lib.hid ⟨by unfold Rs.nameT; rw [if_pos (by rw [HN.out]; rfl)], by unfold nameR; rw [if_pos (by rw [HN.out]; rfl)]⟩
    have HK : Hid (r.s.hd.kind ≠ 4) := Lib.hid (by rw [← hkk]; decide)
    clear hkk hee HN
    rw [HT.out.1]
    go_enter Tryz.func54, Tryz.ntmps54
    go_wp2_with fail
    go_quiet (fail)
    rename_i nq
    have HP1 := Lib.hid (HP.out.drewN nq)
    have HM : Hid (Moves w (MineQ p R) (w.drewN nq) (MineQ p R)) := Lib.hid (moves_drew nq)
    have hf := HP1.out.blk.frozen 1
    clear x0 x1 x4 t0
    generalize w.drewN nq = w1 at *
    have x1 : w1.cell? ⟨p, 1, none⟩ = some (.int .i64 (R.I : Int)) := HP1.out.blk.cell 1
    go_upto_region 5 with fail
    have HP2 := Lib.hid (HP1.out.set1 HK.out)
    have HM2 : Hid (Moves w (MineQ p R) (w1.setCell ⟨p, 1, none⟩ (.int .i64 ((R.I : Int) + 1))) (MineQ p R)) := Lib.hid (HM.out.trans (Moves.set (.inl rfl)))
    have hne : R.bt ≠ p := by have := HP1.out.tlow; have := HP1.out.pB; omega
    have t3 : (w1.setCell ⟨p, 1, none⟩ (.int .i64 ((R.I : Int) + 1))).cell? ⟨R.bt, R.o0 + R.I * 5 + 3, none⟩ = some (.string (bstr r.s.hd.text)) := (World.cell?_of_block (w := w1) (Below.heap_setCell w1 ⟨p, 1, none⟩ _ R.bt hne)).trans (HP1.out.tok 3 (by decide))
    have hl : R.I + 1 + r.adv.s.ts.length = R.I + r.s.ts.length := by
      have : r.adv.s.ts.length = r.s.ts.length - 1 := adv_len (s := r.s)
      omega
    clear x1 hf hne
    generalize w1.setCell ⟨p, 1, none⟩ (.int .i64 ((R.I : Int) + 1)) = w2 at *
    have x0 : w2.cell? ⟨p, 0, none⟩ = some (.slice (some ⟨R.bt, R.o0, none⟩) (R.I + r.s.ts.length) R.ct) := by rw [← hl]; exact HP2.out.blk.cell 0
    have x1 : w2.cell? ⟨p, 1, none⟩ = some (.int .i64 ((R.I : Int) + 1)) := HP2.out.blk.cell 1
    clear hl
    go_quiet (fail)
    go_wp2_with fail
    go_ret
    rw [HT.out.2]
    exact ⟨rfl, R.I + 1, HP2.out.drewN _, HM2.out.trans (moves_drew _)⟩
  · have HT : Hid (r.nameT = [] ∧ nameR r = r.fail 50) := Lib.hid (by
      have e : r.nameB = false := by
        rw [HN.out]
        cases h1 : (ee == 0 && k == 1) with
        | false => rfl
        | true =>
          rw [Bool.and_eq_true, beq_iff_eq, beq_iff_eq] at h1
          exact absurd h1 hb
      exact ⟨by unfold Rs.nameT; rw [e]; rfl, by unfold nameR; rw [e]; rfl⟩)
    have fin : ∀ nq, Hid (QS (w.drewN nq) p B r R) ∧ Hid (Moves w (MineQ p R) (w.drewN nq) (MineQ p R)) := fun nq => ⟨Lib.hid (HP.out.drewN nq), Lib.hid (moves_drew nq)⟩
    clear HN hee hkk
    rw [HT.out.1]
    by_cases h0 : ee = 0
    · subst h0
      have hk1 : ¬ k = 1 := fun h => hb ⟨rfl, h⟩
      have i1 : ¬ (k : Int) = 1 := by omega
      have j1 : ((k : Int) != 1) = true := by rw [bne_iff_ne]; omega
      clear hb hk1
      go_enter Tryz.func54, Tryz.ntmps54
      go_wp2_with fail
      go_quiet (fail)
      rename_i nq
      obtain ⟨HP1, HM⟩ := fin nq
      clear x0 x1 x4 t0
      generalize w.drewN nq = w1 at *
      go_wp2_with fail
      refine (qfail_t w1 p B r R 50 (by decide) HP1.out).mono ?_
      rintro e w2 ⟨rfl, ho⟩
      have HO := Lib.hid ho
      clear ho
      go_wp2_with fail
      go_ret
      rw [HT.out.2]
      exact ⟨rfl, PostT.trans HM.out HO.out⟩
    · have g0 : (ee == 0) = false := beq_eq_false_iff_ne.2 h0
      have g1 : (ee != 0) = true := by rw [bne_iff_ne]; exact h0
      clear hb
      go_enter Tryz.func54, Tryz.ntmps54
      go_wp2_with fail
      go_quiet (fail)
      rename_i nq
      obtain ⟨HP1, HM⟩ := fin nq
      clear x0 x1 x4 t0
      generalize w.drewN nq = w1 at *
      go_wp2_with fail
      refine (qfail_t w1 p B r R 50 (by decide) HP1.out).mono ?_
      rintro e w2 ⟨rfl, ho⟩
      have HO := Lib.hid ho
      clear ho
      go_wp2_with fail
      go_ret
      rw [HT.out.2]
      exact ⟨rfl, PostT.trans HM.out HO.out⟩
theorem qname_any (w : World) (p B : Nat) (r : Rs) (R : QRep) (h : QS w p B r R) :
    Calls Tryz.prog 54 #[.pointer (some ⟨p, 0, none⟩)] w fun e w' => e = .returned (.string (bstr r.nameT)) ∧ PostQ w p B R (nameR r) w' := (qname_t w p B r R h).mono fun _ _ h => ⟨h.1, h.2.toQ⟩
end Go.Proofs.YtcccnicldbpieaaGreatDoor
namespace Go.Proofs.YtcccnicldbpieaaGreatDoor
open Go Go.RowKit
set_option linter.unusedVariables false
set_option linter.unusedSimpArgs false
theorem QS.set2 {w : World} {p B : Nat} {r : Rs} {R : QRep} (h : QS w p B r R) (d : Nat) (g : RGood { r with s := { r.s with deep := d } }) : QS (w.setCell ⟨p, 2, none⟩ (.int .i64 (d : Int))) p B { r with s := { r.s with deep := d } } R := by
  refine ⟨?_, fun k hk => ?_, h.few, h.tlow, h.nodes, ?_, h.pB, g⟩
  · have := h.blk.put 2 (.int .i64 (d : Int))
    simpa using this
  · have hne : R.bt ≠ p := by have := h.tlow; have := h.pB; omega
    rw [World.cell?_of_block (w := w) (Below.heap_setCell w ⟨p, 2, none⟩ _ R.bt hne)]
    exact h.toks k hk
  · refine h.ns.keep fun b hb => Below.heap_setCell w ⟨p, 2, none⟩ _ b fun e => ?_
    rw [e] at hb
    exact h.ns.not_mine h.blk (by decide) (by decide) hb
set_option maxHeartbeats 2000000 in
theorem qinn_any (w : World) (p B : Nat) (r : Rs) (R : QRep) (h0 : r.e = 0) (b : Bool) (hb : Hid ((r.inn.e == 0) = b)) (h : QS w p B r R) :
    Calls Tryz.prog 86 #[.pointer (some ⟨p, 0, none⟩)] w fun e w' => e = .returned (.bool b) ∧ PostQ w p B R r.inn w' := by
  have HP := Lib.hid h
  have hl := h.good.live h0
  have hg := (rl_inn h.good h0).good
  have x2 : w.cell? ⟨p, 2, none⟩ = some (.int .i64 (r.s.deep : Int)) := h.blk.cell 2
  have x4 : w.cell? ⟨p, 4, none⟩ = some (.int .i64 0) := by rw [← h0]; exact h.blk.cell 4
  have hf2 := h.blk.frozen 2
  clear h
  by_cases hd : 64 ≤ r.s.deep
  · have HI : Hid (r.inn = { s := { r.s with deep := r.s.deep + 1 }, e := 51 }) := Lib.hid (by unfold Rs.inn; rw [if_pos ⟨h0, hd⟩])
    have HF : Hid (r.fail 51 = { r with e := 51 }) := Lib.hid (by unfold Rs.fail; rw [if_pos h0])
    rw [HI.out] at hg
    have HGG := Lib.hid hg
    have e : b = false := by rw [← hb.out, HI.out]; rfl
    have d0 : decide ((64 : Int) ≤ (r.s.deep : Int)) = true := decide_eq_true (by omega)
    have d1 : (64 : Int) ≤ (r.s.deep : Int) := by omega
    clear hg hb
    subst e
    go_enter Tryz.func86, Tryz.ntmps86
    go_wp2_with fail
    refine (qfail_any w p B r R 51 (by decide) HP.out).mono ?_
    rintro e w1 ⟨rfl, R1, hq, hm⟩
    rw [HF.out] at hq
    have HQ := Lib.hid hq
    have HM := Lib.hid hm
    clear hq hm x2 x4 hf2
    have x2 : w1.cell? ⟨p, 2, none⟩ = some (.int .i64 (r.s.deep : Int)) := HQ.out.blk.cell 2
    have x4 : w1.cell? ⟨p, 4, none⟩ = some (.int .i64 51) := HQ.out.blk.cell 4
    have hf2 := HQ.out.blk.frozen 2
    have hs : QS (w1.setCell ⟨p, 2, none⟩ (.int .i64 ((r.s.deep : Int) + 1))) p B r.inn R1 := by rw [HI.out]; exact HQ.out.set2 (r.s.deep + 1) HGG.out
    have HS := Lib.hid hs
    clear hs
    go_wp2_with fail
    go_ret
    exact ⟨rfl, R1, HS.out, HM.out.trans (Moves.set (.inl rfl))⟩
  · have HI : Hid (r.inn = { s := { r.s with deep := r.s.deep + 1 }, e := r.e }) := Lib.hid (by unfold Rs.inn; rw [if_neg (fun hh => hd hh.2)])
    rw [HI.out] at hg
    have HGG := Lib.hid hg
    have e : b = true := by rw [← hb.out, HI.out]; show (r.e == 0) = true; rw [h0]; rfl
    have d0 : decide ((64 : Int) ≤ (r.s.deep : Int)) = false := decide_eq_false (by omega)
    have d1 : ¬ (64 : Int) ≤ (r.s.deep : Int) := by omega
    have hs : QS (w.setCell ⟨p, 2, none⟩ (.int .i64 ((r.s.deep : Int) + 1))) p B r.inn R := by rw [HI.out]; exact HP.out.set2 (r.s.deep + 1) HGG.out
    have HS := Lib.hid hs
    clear hg hb hs
    subst e
    go_enter Tryz.func86, Tryz.ntmps86
    go_wp2_with fail
    go_ret
    exact ⟨rfl, R, HS.out, Moves.set (.inl rfl)⟩
end Go.Proofs.YtcccnicldbpieaaGreatDoor
namespace Go.Proofs.YtcccnicldbpieaaGreatDoor
open Go Go.RowKit
set_option linter.unusedVariables false
set_option linter.unusedSimpArgs false
theorem infoNodeR : (Tryz.prog.info? 76).map (fun i => (i.zero, i.size, i.bytes)) = some (some (.agg #[.int .u8 0, .int .i64 0, .string ⟨#[]⟩, .int .i64 0, .slice none 0 0]), 5, 64) := by kernel_rfl
/-- Behind a kid's number, ahead of its node: one kid too many. -/
structure QK (w : World) (p B : Nat) (r : Rs) (R : QRep) : Prop where
  blk : Blk w p 65 #[.slice (some ⟨R.bt, R.o0, none⟩) (R.I + r.s.ts.length) R.ct, .int .i64 (R.I : Int), .int .i64 (r.s.deep : Int), .slice R.A R.nh.length R.c, .int .i64 r.e]
  toks : ∀ k, k < r.s.ts.length * 5 → w.cell? ⟨R.bt, R.o0 + R.I * 5 + k, none⟩ = (kcells r.s.ts)[k]?
  few : R.I + r.s.ts.length ≤ 1000000
  tlow : R.bt < B
  nodes : r.s.nd = R.nh.map Prod.fst
  ns : NS w B 76 3 R.A R.c R.nh
  pB : B ≤ p
  last : Lst r.s
  deep : r.s.deep ≤ 65
  live : r.e = 0 → r.s.deep ≤ 64
  kids : ∀ n ∈ r.s.nd, n.kids.length ≤ r.s.nd.length + 1
theorem QS.toK {w : World} {p B : Nat} {r : Rs} {R : QRep} (h : QS w p B r R) : QK w p B r R := ⟨h.blk, h.toks, h.few, h.tlow, h.nodes, h.ns, h.pB, h.good.last, h.good.deep, h.good.live, fun n hn => Nat.le_succ_of_le (h.good.few n hn)⟩
theorem QK.tok {w : World} {p B : Nat} {r : Rs} {R : QRep} (h : QK w p B r R) (j : Nat) (hj : j < 5) : w.cell? ⟨R.bt, R.o0 + R.I * 5 + j, none⟩ = (kcell r.s.hd)[j]? := by
  have hp := h.last.pos
  rw [h.toks j (by omega)]
  unfold Ps.hd
  cases hs : r.s.ts with
  | nil => rw [hs] at hp; simp at hp
  | cons t l =>
    show (kcell t ++ kcells l)[j]? = _
    rw [List.getElem?_append_left (by show j < 5; exact hj)]
    rfl
/-- A node more: the row grown, its head stored. -/
theorem QK.snoc {w W w1 : World} {p B : Nat} {r : Rs} {R : QRep} (h : QK W p B r R) (hw : Ext w W) (x : Nd) (hx : x.kids = []) {g cap : Nat}
    (ho : w1.ownsRow B 76 5 (.slice (some ⟨g, 0, none⟩) (R.nh.length + 1) cap) (R.nh.length + 1) (ncs R.nh ++ ncell (x, (none, 0)))) (hg : W.grownBy w1 (Value.slice R.A R.nh.length R.c).ownBlock)
    (hf : (Value.slice R.A R.nh.length R.c).ownBlock = some g ∨ w.heap.size ≤ g) :
    QS (w1.setCell ⟨p, 3, none⟩ (.slice (some ⟨g, 0, none⟩) (R.nh.length + 1) cap)) p B { r with s := r.s.add x } { R with A := some ⟨g, 0, none⟩, c := cap, nh := R.nh ++ [(x, (none, 0))] } ∧
      Moves w (MineQ p R) (w1.setCell ⟨p, 3, none⟩ (.slice (some ⟨g, 0, none⟩) (R.nh.length + 1) cap)) (MineQ p { R with A := some ⟨g, 0, none⟩, c := cap, nh := R.nh ++ [(x, (none, 0))] }) := by
  have hpne : (Value.slice R.A R.nh.length R.c).ownBlock ≠ some p := fun e => by
    obtain ⟨cur, hc⟩ := own_type h.ns.row (own_block h.ns.row e)
    exact Blk.differ h.blk hc (by decide) rfl
  have hb1 : Blk w1 p 65 _ := (hg.block p h.blk.lt (fun e => hpne e.symm)).trans h.blk
  have hpB := h.pB
  have hpl := h.blk.lt
  have hns := (h.ns.snoc (by decide) x hx ho hg)
  have hln : (r.s.add x).nd.length = r.s.nd.length + 1 := by show (r.s.nd ++ [x]).length = _; simp
  refine ⟨⟨?_, fun k hk => ?_, h.few, h.tlow, ?_, ?_, h.pB, ⟨h.last, h.deep, h.live, ?_⟩⟩, ?_⟩
  · have := hb1.put 3 (.slice (some ⟨g, 0, none⟩) (R.nh.length + 1) cap)
    show Blk _ p 65 #[.slice _ (R.I + r.s.ts.length) _, .int .i64 (R.I : Int), .int .i64 (r.s.deep : Int), .slice _ (R.nh ++ [(x, (none, 0))]).length _, .int .i64 r.e]
    rw [List.length_append]
    simpa using this
  · have hlt := h.tlow
    have hne : R.bt ≠ p := by omega
    show (w1.setCell _ _).cell? ⟨R.bt, R.o0 + R.I * 5 + k, none⟩ = _
    have hbl : R.bt < W.heap.size := by omega
    have e1 : w1.heap[R.bt]? = W.heap[R.bt]? := hg.block R.bt hbl fun e => by
      have := (own_lt h.ns.row (own_block h.ns.row e.symm)).1
      omega
    have e2 := World.cell?_of_block (w := W) (w' := w1.setCell ⟨p, 3, none⟩ (.slice (some ⟨g, 0, none⟩) (R.nh.length + 1) cap)) (a := ⟨R.bt, R.o0 + R.I * 5 + k, none⟩) ((Below.heap_setCell w1 ⟨p, 3, none⟩ _ R.bt hne).trans e1)
    exact e2.trans (h.toks k hk)
  · show r.s.nd ++ [x] = _
    rw [h.nodes, List.map_append]
    rfl
  · refine hns.keep fun b hb => Below.heap_setCell w1 ⟨p, 3, none⟩ _ b fun e => ?_
    rw [e] at hb
    exact hns.not_mine hb1 (by decide) (by decide) hb
  · show ∀ n ∈ (r.s.add x).nd, n.kids.length ≤ (r.s.add x).nd.length
    rw [hln]
    intro n hn
    rcases List.mem_append.1 hn with hn | hn
    · have := h.kids n hn
      omega
    · rw [List.mem_singleton.1 hn, hx]
      simp
  · refine ⟨hg.os.trans hw.os, hg.tape.trans hw.tape, hg.output.trans hw.output, ?_, fun b hb hM => ?_, fun b hb => ?_⟩
    · have h1 := hw.size
      have h2 := hg.size
      simp [World.setCell]
      omega
    · have h1 := hw.size
      have hnp : b ≠ p := fun e => hM (.inl e)
      rw [Below.heap_setCell w1 ⟨p, 3, none⟩ _ b hnp, hg.block b (by omega) (fun e => hM (.inr (.inl (own_block h.ns.row e.symm))))]
      exact hw.block b hb
    · have h1 := hw.size
      rcases hb with rfl | hb | hb
      · exact .inl (.inl rfl)
      · injection hb with hb
        injection hb with hb
        subst hb
        rcases hf with hf | hf
        · exact .inl (.inr (.inl (own_block h.ns.row hf)))
        · exact .inr hf
      · simp only [List.map_append] at hb
        rcases List.mem_append.1 hb with hb | hb
        · exact .inl (.inr (.inr hb))
        · simp at hb
set_option maxRecDepth 100000 in
set_option maxHeartbeats 4000000 in
theorem qnode_k (w : World) (p B : Nat) (r : Rs) (R : QRep) (kind : Nat) (h : QK w p B r R) (hbig : r.s.nd.length ≤ 2000000) :
    Calls Tryz.prog 25 #[.pointer (some ⟨p, 0, none⟩), .int .u8 (kind : Int)] w fun e w' => e = .returned (.int .i64 (r.s.nd.length : Int)) ∧ PostQ w p B R { r with s := r.s.node kind } w' := by
  obtain ⟨i0, hi, hz0, hz1, hz2⟩ := info_parts infoNodeR
  have HP := Lib.hid h
  have hlen : r.s.nd.length = R.nh.length := by rw [h.nodes, List.length_map]
  have hpl := h.blk.lt
  have hbl : R.bt < w.heap.size := by have := h.tlow; have := h.pB; omega
  have HLN := Lib.hid hlen
  have hpos := h.last.pos
  have hfew := h.few
  have q0 : (R.I : Int) < (R.I : Int) + (r.s.ts.length : Int) := by omega
  rw [hlen] at hbig
  obtain ⟨o, HO⟩ : ∃ o, Hid ((Value.slice R.A R.nh.length R.c).ownBlock = o) := ⟨_, Lib.hid rfl⟩
  have HPN : Hid (some p ≠ o) := Lib.hid fun e => by
    rw [← HO.out] at e
    obtain ⟨cur, hc⟩ := own_type h.ns.row (own_block h.ns.row e.symm)
    exact Blk.differ h.blk hc (by decide) rfl
  have HBN : Hid (some R.bt ≠ o) := Lib.hid fun e => by
    rw [← HO.out] at e
    have h1 := (own_lt h.ns.row (own_block h.ns.row e.symm)).1
    have h2 := h.tlow
    omega
  have HOG : Hid (∀ g, o = some g → g < w.heap.size) := Lib.hid fun g e => by
    rw [← HO.out] at e
    exact (own_lt h.ns.row (own_block h.ns.row e)).2
  have HBW : Hid (B ≤ w.heap.size) := Lib.hid (Nat.le_trans h.pB (Nat.le_of_lt hpl))
  obtain ⟨Fs, HFS⟩ : ∃ Fs, Hid (FsK B 76 (.slice R.A R.nh.length R.c) w.heap.size R.nh.length (ncs R.nh) (ncell (⟨kind, r.s.hd.at_, [], 0, []⟩, (none, 0))) = Fs) := ⟨_, Lib.hid rfl⟩
  have hE : ∀ F ∈ Fs, ∀ v w w', F v w → Ext w w' → F v w' := by rw [← HFS.out]; exact FsK_ext _ _ _ _ _ _ _
  have m0 : (fun (_ : Value) w => RowFK B 76 R.nh.length (ncs R.nh) (.slice R.A R.nh.length R.c) w) ∈ Fs := by rw [← HFS.out]; simp only [FsK, List.mem_cons, true_or]
  have m1 : LitN 76 w.heap.size (ncell (⟨kind, r.s.hd.at_, [], 0, []⟩, (none, 0))).toArray ∈ Fs := by rw [← HFS.out]; simp only [FsK, List.mem_cons, true_or, or_true]
  have m2 : ResK B 76 o w.heap.size (R.nh.length + 1) (ncs R.nh ++ ncell (⟨kind, r.s.hd.at_, [], 0, []⟩, (none, 0))) ∈ Fs := by rw [← HFS.out, ← HO.out]; simp only [FsK, List.mem_cons, true_or, or_true]
  have HE2 := Lib.hid hE
  have M0 := Lib.hid m0
  have M1 := Lib.hid m1
  have M2 := Lib.hid m2
  clear h hlen hE m0 m1 m2
  go_enter Tryz.func25, Tryz.ntmps25
  go_upto_region 1 with fail
  apply region_app o Fs 22 (by kernel_rfl) (by kernel_rfl) (by kernel_rfl) HE2.out
  dsimp only [List.take_succ_cons, List.take_zero, List.drop_succ_cons, List.drop_zero]
  apply step_det (.pointer (some ⟨p, 0, none⟩)) rfl rfl rfl
  · intro w' hw' hH
    clear hH hw'
    simp [YieldsF, go_sem]
    exact AppR.refl _
  apply step_det (.pointer (some ⟨p, 0, none⟩)) rfl rfl rfl
  · intro w' hw' hH
    clear hH hw'
    simp [YieldsF, go_sem]
    exact AppR.refl _
  apply step_det (.pointer (some ⟨p, 0, none⟩)) rfl rfl rfl
  · intro w' hw' hH
    clear hH hw'
    simp [YieldsF, go_sem]
    exact AppR.refl _
  apply step_det (.pointer (some ⟨p, 3, none⟩)) rfl rfl rfl
  · intro w' hw' hH
    clear hH hw'
    simp [YieldsF, go_sem]
    exact AppR.refl _
  simp only [Act.put, List.setIfInBounds_toArray, List.set_cons_succ, List.set_cons_zero]
  apply step_det (.slice R.A R.nh.length R.c) rfl rfl rfl
  · intro w' hw' hH
    have hR := AppR.refl (o := o) (Fs := Fs) w'
    have cc := Blk.cell ((hw'.1.block p hpl HPN.out).trans HP.out.blk) 3
    clear hH hw'
    simp [YieldsF, go_sem, cc]
    exact hR
  apply step_det (.int .u8 (kind : Int)) rfl rfl rfl
  · intro w' hw' hH
    clear hH hw'
    simp [YieldsF, go_sem]
    exact AppR.refl _
  apply step_det (.pointer (some ⟨p, 0, none⟩)) rfl rfl rfl
  · intro w' hw' hH
    clear hH hw'
    simp [YieldsF, go_sem]
    exact AppR.refl _
  apply step_det (.pointer (some ⟨p, 0, none⟩)) rfl rfl rfl
  · intro w' hw' hH
    clear hH hw'
    simp [YieldsF, go_sem]
    exact AppR.refl _
  apply step_det (.pointer (some ⟨p, 0, none⟩)) rfl rfl rfl
  · intro w' hw' hH
    clear hH hw'
    simp [YieldsF, go_sem]
    exact AppR.refl _
  simp only [Act.put, List.setIfInBounds_toArray, List.set_cons_succ, List.set_cons_zero]
  apply step_det (.slice (some ⟨R.bt, R.o0, none⟩) (R.I + r.s.ts.length) R.ct) rfl rfl rfl
  · intro w' hw' hH
    have hR := AppR.refl (o := o) (Fs := Fs) w'
    have cc := Blk.cell ((hw'.1.block p hpl HPN.out).trans HP.out.blk) 0
    clear hH hw'
    simp [YieldsF, go_sem, cc]
    exact hR
  apply step_det (.pointer (some ⟨p, 0, none⟩)) rfl rfl rfl
  · intro w' hw' hH
    clear hH hw'
    simp [YieldsF, go_sem]
    exact AppR.refl _
  apply step_det (.pointer (some ⟨p, 0, none⟩)) rfl rfl rfl
  · intro w' hw' hH
    clear hH hw'
    simp [YieldsF, go_sem]
    exact AppR.refl _
  apply step_det (.pointer (some ⟨p, 1, none⟩)) rfl rfl rfl
  · intro w' hw' hH
    clear hH hw'
    simp [YieldsF, go_sem]
    exact AppR.refl _
  simp only [Act.put, List.setIfInBounds_toArray, List.set_cons_succ, List.set_cons_zero]
  apply step_det (.int .i64 (R.I : Int)) rfl rfl rfl
  · intro w' hw' hH
    have hR := AppR.refl (o := o) (Fs := Fs) w'
    have cc := Blk.cell ((hw'.1.block p hpl HPN.out).trans HP.out.blk) 1
    clear hH hw'
    simp [YieldsF, go_sem, cc]
    exact hR
  apply step_det (.pointer (some ⟨R.bt, R.o0 + R.I * 5, none⟩)) rfl rfl rfl
  · intro w' hw' hH
    have hR := AppR.refl (o := o) (Fs := Fs) w'
    clear hH hw'
    simp [YieldsF, go_sem, q0]
    exact hR
  apply step_det (.pointer (some ⟨R.bt, R.o0 + R.I * 5 + 1, none⟩)) rfl rfl rfl
  · intro w' hw' hH
    clear hH hw'
    simp [YieldsF, go_sem]
    exact AppR.refl _
  simp only [Act.put, List.setIfInBounds_toArray, List.set_cons_succ, List.set_cons_zero]
  apply step_det (.int .i64 (r.s.hd.at_ : Int)) rfl rfl rfl
  · intro w' hw' hH
    have hR := AppR.refl (o := o) (Fs := Fs) w'
    have cc : w'.cell? ⟨R.bt, R.o0 + R.I * 5 + 1, none⟩ = some (.int .i64 (r.s.hd.at_ : Int)) := (World.cell?_of_block (w := w) (hw'.1.block R.bt hbl HBN.out)).trans (HP.out.tok 1 (by decide))
    clear hH hw'
    simp [YieldsF, go_sem, cc]
    exact hR
  apply step_det (.agg #[.int .u8 (kind : Int), .int .i64 (r.s.hd.at_ : Int), .string ⟨#[]⟩, .int .i64 0, .slice none 0 0]) rfl rfl rfl
  · intro w' hw' hH
    clear hH hw'
    simp [YieldsF, go_sem]
    exact AppR.refl _
  apply step_fact (LitN 76 w.heap.size (ncell (⟨kind, r.s.hd.at_, [], 0, []⟩, (none, 0))).toArray) (fun v w w' h hx => hx.2 _ M1.out v h) rfl rfl rfl
  · intro w' hw' hH
    have hz := hw'.1.size
    clear hH hw'
    simp [YieldsF, go_sem]
    exact ⟨⟨_, rfl, Blk.new _ _ _, hz⟩, AppR.ext HE2.out (Ext.alloc _ _)⟩
  intro v25
  simp only [Act.put, List.setIfInBounds_toArray, List.set_cons_succ, List.set_cons_zero]
  apply step_fact (ResK B 76 o w.heap.size (R.nh.length + 1) (ncs R.nh ++ ncell (⟨kind, r.s.hd.at_, [], 0, []⟩, (none, 0)))) (fun v w w' h hx => hx.2 _ M2.out v h) rfl rfl rfl
  · intro w' hw' hH
    have hlit := hH _ (List.mem_cons_self ..) ⟨_, rfl, by decide⟩
    have hrow := hw'.2 _ M0.out undef HP.out.ns.rowK
    have hz := hw'.1.size
    clear hH hw'
    rw [← HFS.out, ← HO.out]
    exact yields_appK B w.heap.size (.tmp 9) (.tmp 23) 31 rfl 76 i0 _ 64 Tryz.underlying31 hi hz0 hz1 hz2 rfl (.slice R.A R.nh.length R.c) R.nh.length (ncs R.nh) (ncell (⟨kind, r.s.hd.at_, [], 0, []⟩, (none, 0))) (by kernel_rfl) hrow v25 (by kernel_rfl) hlit rfl (ncell_one _) (by unfold maxLen; omega) (by omega) (Nat.le_trans HBW.out hz) hz (fun g e => HOG.out g (by rw [← HO.out]; exact e))
  intro v26
  apply step_det (.pointer (some ⟨p, 0, none⟩)) rfl rfl rfl
  · intro w' hw' hH
    clear hH hw'
    simp [YieldsF, go_sem]
    exact AppR.refl _
  apply step_det (.pointer (some ⟨p, 3, none⟩)) rfl rfl rfl
  · intro w' hw' hH
    clear hH hw'
    simp [YieldsF, go_sem]
    exact AppR.refl _
  apply WalkF_nil
  intro w2 hw2 hH
  have h26 := hH _ (List.mem_cons_self ..)
  clear hH
  obtain ⟨g, cap, rfl⟩ := h26.1.at
  have hgr := hw2.1
  rw [← HO.out] at hgr
  have hb3 : Blk w2 p 65 _ := (hw2.1.block p hpl HPN.out).trans HP.out.blk
  obtain ⟨hs1, hs2⟩ := QK.snoc (w := w) HP.out (Ext.refl w) ⟨kind, r.s.hd.at_, [], 0, []⟩ rfl h26.1.1 hgr (by
    rcases h26.2 with e | ⟨g', e, hg'⟩
    · left; rw [HO.out, ← e]; rfl
    · right; have : g = g' := by simpa [Value.ownBlock] using e
      omega)
  have y1 : w2.cell? ⟨p, 3, none⟩ = some (.slice R.A R.nh.length R.c) := hb3.cell 3
  have z1 := hb3.frozen 3
  have HS : Hid (PostQ w p B R { r with s := r.s.node kind } (w2.setCell ⟨p, 3, none⟩ (.slice (some ⟨g, 0, none⟩) (R.nh.length + 1) cap))) := Lib.hid ⟨_, hs1, hs2⟩
  clear h26 hgr hb3 hs1 hs2 hw2
  simp only [Act.put, List.setIfInBounds_toArray, List.set_cons_zero, List.set_cons_succ]
  go_wp2_with fail
  go_ret
  rw [HLN.out]
  exact ⟨rfl, HS.out⟩
theorem qnode_any (w : World) (p B : Nat) (r : Rs) (R : QRep) (kind : Nat) (h : QS w p B r R) (hbig : r.s.nd.length ≤ 2000000) :
    Calls Tryz.prog 25 #[.pointer (some ⟨p, 0, none⟩), .int .u8 (kind : Int)] w fun e w' => e = .returned (.int .i64 (r.s.nd.length : Int)) ∧ PostQ w p B R { r with s := r.s.node kind } w' := qnode_k w p B r R kind h.toK hbig
end Go.Proofs.YtcccnicldbpieaaGreatDoor
namespace Go.Proofs.YtcccnicldbpieaaGreatDoor
open Go Go.RowKit
set_option linter.unusedVariables false
set_option linter.unusedSimpArgs false
theorem QS.len {w : World} {p B : Nat} {r : Rs} {R : QRep} (h : QS w p B r R) : r.s.nd.length = R.nh.length := by rw [h.nodes, List.length_map]
theorem QS.nodeCell {w : World} {p B : Nat} {r : Rs} {R : QRep} (h : QS w p B r R) (i : Nat) (hi : i < R.nh.length) {g : Nat} (hA : R.A = some ⟨g, 0, none⟩) (j : Nat) (hj : j < 5) : w.cell? ⟨g, i * 5 + j, none⟩ = (ncell R.nh[i])[j]? := by
  have hr := h.ns.row
  rw [hA] at hr
  rw [hr.cellAt (i * 5 + j) (by omega)]
  exact ncs_at R.nh i hi j hj
theorem QS.nthaw {w : World} {p B : Nat} {r : Rs} {R : QRep} (h : QS w p B r R) (k : Nat) {g : Nat} (hA : R.A = some ⟨g, 0, none⟩) : w.frozen? ⟨g, k, none⟩ = false := by
  obtain ⟨cur, hc⟩ := own_type h.ns.row hA
  exact hc.frozen k
theorem QS.nslot {w : World} {p B : Nat} {r : Rs} {R : QRep} (h : QS w p B r R) (hn : 0 < R.nh.length) : ∃ g, R.A = some ⟨g, 0, none⟩ := by
  rcases own_zero h.ns.row with e | e
  · have hr := h.ns.row
    rw [e] at hr
    rcases hr.2 with ⟨_, h0⟩ | ⟨g, _, _, hv, _⟩
    · omega
    · cases hv
  · exact e
def PostK (w : World) (p B : Nat) (R : QRep) (r' : Rs) (w' : World) : Prop := ∃ R', QK w' p B r' R' ∧ Moves w (MineQ p R) w' (MineQ p R')
/-- A kid more: its number appended, the head stored. -/
theorem QS.kid {W w1 : World} {p B : Nat} {r : Rs} {R : QRep} (h : QS W p B r R) (i : Nat) (hi : i < R.nh.length) {g gk cap : Nat} (hA : R.A = some ⟨g, 0, none⟩)
    (ho : w1.ownsRow B 3 1 (.slice (some ⟨gk, 0, none⟩) (R.nh[i].1.kids.length + 1) cap) (R.nh[i].1.kids.length + 1) (ints R.nh[i].1.kids ++ [Value.int .i64 (R.nh.length : Int)])) (hg : W.grownBy w1 (Value.slice R.nh[i].2.1 R.nh[i].1.kids.length R.nh[i].2.2).ownBlock)
    (hf : (Value.slice R.nh[i].2.1 R.nh[i].1.kids.length R.nh[i].2.2).ownBlock = some gk ∨ W.heap.size ≤ gk) :
    PostK W p B R { r with s := r.s.kid i } (w1.setCell ⟨g, i * 5 + 4, none⟩ (.slice (some ⟨gk, 0, none⟩) (R.nh[i].1.kids.length + 1) cap)) := by
  have hlen := h.len
  have hns := h.ns.kid (by decide) i hi R.nh.length hA ho hg hf
  have hpo : (Value.slice R.nh[i].2.1 R.nh[i].1.kids.length R.nh[i].2.2).ownBlock ≠ some p := fun e => by
    obtain ⟨cur, hc⟩ := own_type (h.ns.kids _ (List.getElem_mem hi)) (own_block (h.ns.kids _ (List.getElem_mem hi)) e)
    exact Blk.differ h.blk hc (by decide) rfl
  have hpg : p ≠ g := fun e => by
    obtain ⟨cur, hc⟩ := own_type h.ns.row hA
    rw [← e] at hc
    exact Blk.differ h.blk hc (by decide) rfl
  have hgB := (own_lt h.ns.row hA).1
  have hgl := (own_lt h.ns.row hA).2
  have hln : (r.s.kid i).nd.length = r.s.nd.length := on_len
  have hnd : (r.s.kid i).nd = (R.nh.modify i fun x => ({ x.1 with kids := x.1.kids ++ [R.nh.length] }, (some ⟨gk, 0, none⟩, cap))).map Prod.fst := by
    rw [map_modify Prod.fst _ (fun n : Nd => { n with kids := n.kids ++ [R.nh.length] }) (fun x => rfl), ← h.nodes, ← hlen]
    rfl
  refine ⟨{ R with nh := R.nh.modify i fun x => ({ x.1 with kids := x.1.kids ++ [R.nh.length] }, (some ⟨gk, 0, none⟩, cap)) }, ⟨?_, fun k hk => ?_, h.few, h.tlow, hnd, hns, h.pB, h.good.last, h.good.deep, h.good.live, ?_⟩, ?_⟩
  · have hb1 : Blk w1 p 65 _ := (hg.block p h.blk.lt (fun e => hpo e.symm)).trans h.blk
    have := hb1.far (p := ⟨g, i * 5 + 4, none⟩) hpg (.slice (some ⟨gk, 0, none⟩) (R.nh[i].1.kids.length + 1) cap)
    show Blk _ p 65 #[.slice _ (R.I + r.s.ts.length) _, .int .i64 (R.I : Int), .int .i64 (r.s.deep : Int), .slice _ (R.nh.modify i _).length _, .int .i64 r.e]
    rw [List.length_modify]
    exact this
  · have hlt := h.tlow
    have hpB := h.pB
    have hpl := h.blk.lt
    have hne : R.bt ≠ g := by omega
    have e1 : w1.heap[R.bt]? = W.heap[R.bt]? := hg.block R.bt (by omega) fun e => by
      have := (own_lt (h.ns.kids _ (List.getElem_mem hi)) (own_block (h.ns.kids _ (List.getElem_mem hi)) e.symm)).1
      omega
    have e2 := World.cell?_of_block (w := W) (w' := w1.setCell ⟨g, i * 5 + 4, none⟩ (.slice (some ⟨gk, 0, none⟩) (R.nh[i].1.kids.length + 1) cap)) (a := ⟨R.bt, R.o0 + R.I * 5 + k, none⟩) ((Below.heap_setCell w1 ⟨g, i * 5 + 4, none⟩ _ R.bt hne).trans e1)
    exact e2.trans (h.toks k hk)
  · show ∀ n ∈ (r.s.kid i).nd, n.kids.length ≤ (r.s.kid i).nd.length + 1
    rw [hln]
    refine on_few (r.s.nd.length + 1) (fun n hn => ?_) (fun n hn => Nat.le_succ_of_le (h.good.few n hn))
    have := h.good.few n hn
    show (n.kids ++ [r.s.nd.length]).length ≤ _
    rw [List.length_append]
    simp
    omega
  · refine ⟨hg.os, hg.tape, hg.output, by have := hg.size; simp [World.setCell]; omega, fun b hb hM => ?_, fun b hb => ?_⟩
    · have hbg : b ≠ g := fun e => hM (.inr (.inl (by rw [e]; exact hA)))
      rw [Below.heap_setCell w1 ⟨g, i * 5 + 4, none⟩ _ b hbg]
      exact hg.block b hb fun e => hM (.inr (.inr (List.mem_map.2 ⟨_, List.getElem_mem hi, own_block (h.ns.kids _ (List.getElem_mem hi)) e.symm⟩)))
    · rcases hb with hb | hb
      · exact .inl (.inl hb)
      · rcases kid_mine h.ns hi (fun n => { n with kids := n.kids ++ [R.nh.length] }) hf b hb with h1 | h1
        · exact .inl (.inr h1)
        · exact .inr h1
set_option maxRecDepth 100000 in
set_option maxHeartbeats 4000000 in
theorem qkid_any (w : World) (p B : Nat) (r : Rs) (R : QRep) (i : Nat) (h : QS w p B r R) (hi : i < r.s.nd.length) (hbig : r.s.nd.length ≤ 2000000) :
    Calls Tryz.prog 53 #[.pointer (some ⟨p, 0, none⟩), .int .i64 (i : Int)] w fun e w' => e = .returned (.tuple #[]) ∧ PostK w p B R { r with s := r.s.kid i } w' := by
  obtain ⟨i0, hi0, hz0, hz1, hz2⟩ := info_parts infoInt
  have hlen := h.len
  have hi' : i < R.nh.length := by omega
  obtain ⟨g, hA⟩ := h.nslot (by omega)
  obtain ⟨x, hxi⟩ : ∃ x, R.nh[i] = x := ⟨_, rfl⟩
  obtain ⟨⟨nk, np, nt, nn, kk⟩, kA, kc⟩ := x
  have c4 : w.cell? ⟨g, i * 5 + 4, none⟩ = some (.slice kA kk.length kc) := by rw [h.nodeCell i hi' hA 4 (by decide), hxi]; rfl
  have hkr := h.ns.rowH _ (List.getElem_mem hi')
  have hkk := h.ns.kids _ (List.getElem_mem hi')
  rw [hxi] at hkr hkk
  simp only at hkr hkk
  obtain ⟨o, HO⟩ : ∃ o, Hid ((Value.slice kA kk.length kc).ownBlock = o) := ⟨_, Lib.hid rfl⟩
  have HPN : Hid (some p ≠ o) := Lib.hid fun e => by
    rw [← HO.out] at e
    obtain ⟨cur, hc⟩ := own_type hkk (own_block hkk e.symm)
    exact Blk.differ h.blk hc (by decide) rfl
  have HGN : Hid (some g ≠ o) := Lib.hid fun e => by
    rw [← HO.out] at e
    obtain ⟨cur, hc⟩ := own_type hkk (own_block hkk e.symm)
    obtain ⟨cur2, hc2⟩ := own_type h.ns.row hA
    exact Blk.differ hc2 hc (by decide) rfl
  have HOG : Hid (∀ g, o = some g → g < w.heap.size) := Lib.hid fun g e => by
    rw [← HO.out] at e
    exact (own_lt hkk (own_block hkk e)).2
  have hgl := (own_lt h.ns.row hA).2
  have hpl := h.blk.lt
  have HBW : Hid (B ≤ w.heap.size) := Lib.hid (Nat.le_trans h.pB (Nat.le_of_lt hpl))
  have HXI := Lib.hid hxi
  have HP := Lib.hid h
  have HA := Lib.hid hA
  have HKR := Lib.hid hkr
  have HLN := Lib.hid hlen
  have HKB : Hid (kk.length ≤ 2000000) := Lib.hid (by
    have := h.good.few (R.nh[i].1) (by rw [h.nodes]; exact List.mem_map.2 ⟨_, List.getElem_mem hi', rfl⟩)
    rw [HXI.out] at this
    simp only at this
    omega)
  rw [hlen] at hbig
  obtain ⟨Fs, HFS⟩ : ∃ Fs, Hid (FsH B 3 (.slice kA kk.length kc) w.heap.size kk.length (ints kk) [Value.int .i64 (R.nh.length : Int)] = Fs) := ⟨_, Lib.hid rfl⟩
  have hE : ∀ F ∈ Fs, ∀ v w w', F v w → Ext w w' → F v w' := by rw [← HFS.out]; exact FsH_ext _ _ _ _ _ _ _
  have m0 : (fun (_ : Value) w => RowFH B 3 kk.length (ints kk) (.slice kA kk.length kc) w) ∈ Fs := by rw [← HFS.out]; simp only [FsH, List.mem_cons, true_or]
  have m1 : LitN 3 w.heap.size #[Value.int .i64 (R.nh.length : Int)] ∈ Fs := by rw [← HFS.out]; simp only [FsH, List.mem_cons, true_or, or_true]
  have m2 : ResH B 3 o w.heap.size (kk.length + 1) (ints kk ++ [Value.int .i64 (R.nh.length : Int)]) ∈ Fs := by rw [← HFS.out, ← HO.out]; simp only [FsH, List.mem_cons, true_or, or_true]
  have HE2 := Lib.hid hE
  have M0 := Lib.hid m0
  have M1 := Lib.hid m1
  have M2 := Lib.hid m2
  have q0 : (i : Int) < (R.nh.length : Int) := by omega
  have C4 := Lib.hid c4
  clear h hlen hE m0 m1 m2 hxi hkr hkk hA c4 hi
  go_enter Tryz.func53, Tryz.ntmps53
  go_upto_region 1 with fail
  apply region_app o Fs 22 (by kernel_rfl) (by kernel_rfl) (by kernel_rfl) HE2.out
  dsimp only [List.take_succ_cons, List.take_zero, List.drop_succ_cons, List.drop_zero]
  apply step_det (.pointer (some ⟨p, 0, none⟩)) rfl rfl rfl
  · intro w' hw' hH
    clear hH hw'
    simp [YieldsF, go_sem]
    exact AppR.refl _
  apply step_det (.pointer (some ⟨p, 0, none⟩)) rfl rfl rfl
  · intro w' hw' hH
    clear hH hw'
    simp [YieldsF, go_sem]
    exact AppR.refl _
  apply step_det (.pointer (some ⟨p, 3, none⟩)) rfl rfl rfl
  · intro w' hw' hH
    clear hH hw'
    simp [YieldsF, go_sem]
    exact AppR.refl _
  simp only [Act.put, List.setIfInBounds_toArray, List.set_cons_succ, List.set_cons_zero]
  apply step_det (.slice (some ⟨g, 0, none⟩) R.nh.length R.c) rfl rfl rfl
  · intro w' hw' hH
    have hR := AppR.refl (o := o) (Fs := Fs) w'
    have cc := Blk.cell ((hw'.1.block p hpl HPN.out).trans HP.out.blk) 3
    rw [HA.out] at cc
    clear hH hw'
    simp [YieldsF, go_sem, cc, q0]
    exact hR
  apply step_det (.int .i64 (i : Int)) rfl rfl rfl
  · intro w' hw' hH
    clear hH hw'
    simp [YieldsF, go_sem]
    exact AppR.refl _
  apply step_det (.pointer (some ⟨p, 0, none⟩)) rfl rfl rfl
  · intro w' hw' hH
    clear hH hw'
    simp [YieldsF, go_sem]
    exact AppR.refl _
  apply step_det (.pointer (some ⟨p, 0, none⟩)) rfl rfl rfl
  · intro w' hw' hH
    clear hH hw'
    simp [YieldsF, go_sem]
    exact AppR.refl _
  apply step_det (.pointer (some ⟨p, 3, none⟩)) rfl rfl rfl
  · intro w' hw' hH
    clear hH hw'
    simp [YieldsF, go_sem]
    exact AppR.refl _
  simp only [Act.put, List.setIfInBounds_toArray, List.set_cons_succ, List.set_cons_zero]
  apply step_det (.slice (some ⟨g, 0, none⟩) R.nh.length R.c) rfl rfl rfl
  · intro w' hw' hH
    have hR := AppR.refl (o := o) (Fs := Fs) w'
    have cc := Blk.cell ((hw'.1.block p hpl HPN.out).trans HP.out.blk) 3
    rw [HA.out] at cc
    clear hH hw'
    simp [YieldsF, go_sem, cc, q0]
    exact hR
  apply step_det (.int .i64 (i : Int)) rfl rfl rfl
  · intro w' hw' hH
    clear hH hw'
    simp [YieldsF, go_sem]
    exact AppR.refl _
  simp only [Act.put, List.setIfInBounds_toArray, List.set_cons_succ, List.set_cons_zero]
  apply step_det (.pointer (some ⟨g, i * 5, none⟩)) rfl rfl rfl
  · intro w' hw' hH
    clear hH hw'
    simp [YieldsF, go_sem, q0]
    exact AppR.refl _
  apply step_det (.pointer (some ⟨g, i * 5 + 4, none⟩)) rfl rfl rfl
  · intro w' hw' hH
    clear hH hw'
    simp [YieldsF, go_sem, q0]
    exact AppR.refl _
  simp only [Act.put, List.setIfInBounds_toArray, List.set_cons_succ, List.set_cons_zero]
  apply step_det (.slice kA kk.length kc) rfl rfl rfl
  · intro w' hw' hH
    have hR := AppR.refl (o := o) (Fs := Fs) w'
    have cc := (World.cell?_of_block (w := w) (a := ⟨g, i * 5 + 4, none⟩) (hw'.1.block g hgl HGN.out)).trans C4.out
    clear hH hw'
    simp [YieldsF, go_sem, cc, q0]
    exact hR
  apply step_det (.pointer (some ⟨p, 0, none⟩)) rfl rfl rfl
  · intro w' hw' hH
    clear hH hw'
    simp [YieldsF, go_sem]
    exact AppR.refl _
  apply step_det (.pointer (some ⟨p, 0, none⟩)) rfl rfl rfl
  · intro w' hw' hH
    clear hH hw'
    simp [YieldsF, go_sem]
    exact AppR.refl _
  apply step_det (.pointer (some ⟨p, 3, none⟩)) rfl rfl rfl
  · intro w' hw' hH
    clear hH hw'
    simp [YieldsF, go_sem]
    exact AppR.refl _
  simp only [Act.put, List.setIfInBounds_toArray, List.set_cons_succ, List.set_cons_zero]
  apply step_det (.slice (some ⟨g, 0, none⟩) R.nh.length R.c) rfl rfl rfl
  · intro w' hw' hH
    have hR := AppR.refl (o := o) (Fs := Fs) w'
    have cc := Blk.cell ((hw'.1.block p hpl HPN.out).trans HP.out.blk) 3
    rw [HA.out] at cc
    clear hH hw'
    simp [YieldsF, go_sem, cc, q0]
    exact hR
  simp only [Act.put, List.setIfInBounds_toArray, List.set_cons_succ, List.set_cons_zero]
  apply step_det (.int .i64 (R.nh.length : Int)) rfl rfl rfl
  · intro w' hw' hH
    clear hH hw'
    simp [YieldsF, go_sem]
    exact AppR.refl _
  apply step_fact (LitN 3 w.heap.size #[Value.int .i64 (R.nh.length : Int)]) (fun v w w' h hx => hx.2 _ M1.out v h) rfl rfl rfl
  · intro w' hw' hH
    have hz := hw'.1.size
    clear hH hw'
    simp [YieldsF, go_sem]
    exact ⟨⟨_, rfl, Blk.new _ _ _, hz⟩, AppR.ext HE2.out (Ext.alloc _ _)⟩
  intro v27
  simp only [Act.put, List.setIfInBounds_toArray, List.set_cons_succ, List.set_cons_zero]
  apply step_fact (ResH B 3 o w.heap.size (kk.length + 1) (ints kk ++ [Value.int .i64 (R.nh.length : Int)])) (fun v w w' h hx => hx.2 _ M2.out v h) rfl rfl rfl
  · intro w' hw' hH
    have hlit := hH _ (List.mem_cons_self ..) ⟨_, rfl, by decide⟩
    have hrow := hw'.2 _ M0.out undef HKR.out
    have hz := hw'.1.size
    clear hH hw'
    rw [← HFS.out, ← HO.out]
    exact yields_appH B w.heap.size (.tmp 16) (.tmp 22) 48 rfl 3 i0 _ 8 Tryz.underlying48 hi0 hz0 hz1 hz2 rfl (.slice kA kk.length kc) kk.length (ints kk) [Value.int .i64 (R.nh.length : Int)] (by kernel_rfl) hrow v27 (by kernel_rfl) hlit rfl (by simp [Value.oneCell']) (by unfold maxLen; have := HKB.out; omega) (by have := HKB.out; omega) (Nat.le_trans HBW.out hz) hz (fun g e => HOG.out g (by rw [← HO.out]; exact e))
  intro v28
  simp only [Act.put, List.setIfInBounds_toArray, List.set_cons_succ, List.set_cons_zero]
  apply step_det (.pointer (some ⟨g, i * 5, none⟩)) rfl rfl rfl
  · intro w' hw' hH
    clear hH hw'
    simp [YieldsF, go_sem, q0]
    exact AppR.refl _
  apply step_det (.pointer (some ⟨g, i * 5 + 4, none⟩)) rfl rfl rfl
  · intro w' hw' hH
    clear hH hw'
    simp [YieldsF, go_sem, q0]
    exact AppR.refl _
  apply WalkF_nil
  intro w2 hw2 hH
  have h28 := hH _ (List.mem_cons_self ..)
  clear hH
  obtain ⟨gk, cap, rfl⟩ := h28.1.at
  have hgr := hw2.1
  have hgb := hw2.1.block g hgl HGN.out
  rw [← HO.out] at hgr
  have HS : Hid (PostK w p B R { r with s := r.s.kid i } (w2.setCell ⟨g, i * 5 + 4, none⟩ (.slice (some ⟨gk, 0, none⟩) (kk.length + 1) cap))) := Lib.hid (by
    have hh := QS.kid (gk := gk) (cap := cap) HP.out i hi' HA.out (w1 := w2) (by rw [HXI.out]; exact h28.1.1) (by rw [HXI.out]; exact hgr) (by
      rw [HXI.out]
      rcases h28.2 with e | ⟨g', e, hg'⟩
      · left; rw [HO.out, ← e]; rfl
      · right; have : gk = g' := by simpa [Value.ownBlock] using e
        omega)
    rw [HXI.out] at hh
    exact hh)
  have y1 : w2.cell? ⟨g, i * 5 + 4, none⟩ = some (.slice kA kk.length kc) := (World.cell?_of_block (w := w) (a := ⟨g, i * 5 + 4, none⟩) hgb).trans C4.out
  have z1 : w2.frozen? ⟨g, i * 5 + 4, none⟩ = false := (World.frozen?_of_block (w := w) (a := ⟨g, i * 5 + 4, none⟩) hgb).trans (HP.out.nthaw _ HA.out)
  clear h28 hgr hgb hw2
  simp only [Act.put, List.setIfInBounds_toArray, List.set_cons_succ, List.set_cons_zero]
  go_wp2_with fail
  go_end0
  exact ⟨rfl, HS.out⟩
end Go.Proofs.YtcccnicldbpieaaGreatDoor
namespace Go.Proofs.YtcccnicldbpieaaGreatDoor
open Go Go.RowKit
set_option linter.unusedVariables false
set_option linter.unusedSimpArgs false
structure RanQ (w : World) (p B : Nat) (R : QRep) (r : Rs) (w' : World) (R' : QRep) (r' : Rs) (c : Int) : Prop where
  qs : QS w' p B r' R'
  mv : Moves w (MineQ p R) w' (MineQ p R')
  lt : RLater c r r'
theorem RanQ.refl {w : World} {p B : Nat} {R : QRep} {r : Rs} (h : QS w p B r R) : RanQ w p B R r w R r 0 := ⟨h, Moves.refl _ _, RLater.refl h.good⟩
theorem RanQ.bound {w w' : World} {p B : Nat} {R R' : QRep} {r r' : Rs} {c n m : Int} (h : RanQ w p B R r w' R' r' c) (hb : r.phi ≤ n) (hm : n + c ≤ m) : r'.phi ≤ m := by have := h.lt.phi; omega
theorem nd_le {r : Rs} (h : r.phi ≤ 1900000) : r.s.nd.length ≤ 2000000 := by unfold Rs.phi at h; omega
theorem RanQ.idx {w w' : World} {p B : Nat} {R R' : QRep} {r r' : Rs} {c : Int} (h : RanQ w p B R r w' R' r' c) {i : Nat} (hi : i < r.s.nd.length) : i < r'.s.nd.length := Nat.lt_of_lt_of_le hi h.lt.nd
theorem RanQ.post {w w' : World} {p B : Nat} {R R' : QRep} {r r' : Rs} {c : Int} (h : RanQ w p B R r w' R' r' c) : PostQ w p B R r' w' := ⟨R', h.qs, h.mv⟩
theorem RanQ.drew {w w' : World} {p B : Nat} {R R' : QRep} {r r' : Rs} {c : Int} (h : Hid (RanQ w p B R r w' R' r' c)) (n : Nat) : Hid (RanQ w p B R r (w'.drewN n) R' r' c) := Lib.hid ⟨h.out.qs.drewN n, h.out.mv.trans (moves_drew n), h.out.lt⟩
/-- A call that reads on. -/
theorem RanQ.go {w w1 w2 : World} {p B : Nat} {R R1 : QRep} {r r1 : Rs} {c d : Int} {M : Rs → Rs} (h : Hid (RanQ w p B R r w1 R1 r1 c)) (hM : RGro d M) (hp : PostQ w1 p B R1 (M r1) w2) : ∃ R2, Hid (RanQ w p B R r w2 R2 (M r1) (c + d)) :=
  let ⟨R2, a, b⟩ := hp; ⟨R2, Lib.hid ⟨a, h.out.mv.trans b, h.out.lt.trans (hM r1 h.out.qs.good)⟩⟩
theorem RanQ.goL {w w1 w2 : World} {p B : Nat} {R R1 : QRep} {r r1 r2 : Rs} {c d : Int} (h : Hid (RanQ w p B R r w1 R1 r1 c)) (hM : RLater d r1 r2) (hp : PostQ w1 p B R1 r2 w2) : ∃ R2, Hid (RanQ w p B R r w2 R2 r2 (c + d)) :=
  let ⟨R2, a, b⟩ := hp; ⟨R2, Lib.hid ⟨a, h.out.mv.trans b, h.out.lt.trans hM⟩⟩
theorem RanQ.le {w w1 : World} {p B : Nat} {R R1 : QRep} {r r1 : Rs} {c d : Int} (h : Hid (RanQ w p B R r w1 R1 r1 c)) (hd : c ≤ d) : Hid (RanQ w p B R r w1 R1 r1 d) := Lib.hid ⟨h.out.qs, h.out.mv, h.out.lt.le hd⟩
/-- One token on. -/
theorem RanQ.adv {w w1 : World} {p B : Nat} {R R1 : QRep} {r r1 : Rs} {c : Int} (h : Hid (RanQ w p B R r w1 R1 r1 c)) (hk : r1.s.hd.kind ≠ 4) : Hid (RanQ w p B R r (w1.setCell ⟨p, 1, none⟩ (.int .i64 ((R1.I : Int) + 1))) { R1 with I := R1.I + 1 } r1.adv (c + -16)) :=
  Lib.hid ⟨h.out.qs.set1 hk, h.out.mv.trans (Moves.set (.inl rfl)), h.out.lt.trans (rl_adv h.out.qs.good hk)⟩
/-- A way out. -/
theorem RanQ.out {w w1 : World} {p B : Nat} {R R1 : QRep} {r r1 : Rs} {c : Int} (h : Hid (RanQ w p B R r w1 R1 r1 c)) {v : Value} (hv : v = .int .i64 ((r1.out.s.deep : Nat) : Int)) : Hid (RanQ w p B R r (w1.setCell ⟨p, 2, none⟩ v) R1 r1.out (c + 0)) := by
  subst hv
  exact Lib.hid ⟨h.out.qs.set2 (r1.s.deep - 1) (rl_out h.out.qs.good).good, h.out.mv.trans (Moves.set (.inl rfl)), h.out.lt.trans (rl_out h.out.qs.good)⟩
/-- A kid, its node. -/
theorem RanQ.kidNode {w w1 w2 w3 : World} {p B : Nat} {R R1 R2 : QRep} {r r1 : Rs} {c : Int} {i k : Nat} (h : Hid (RanQ w p B R r w1 R1 r1 c)) (h2 : Hid (QK w2 p B { r1 with s := r1.s.kid i } R2 ∧ Moves w1 (MineQ p R1) w2 (MineQ p R2))) (h3 : PostQ w2 p B R2 { r1 with s := (r1.s.kid i).node k } w3) : ∃ R3, Hid (RanQ w p B R r w3 R3 (r1.kidNode i k) (c + 1)) :=
  let ⟨R3, a, b⟩ := h3; ⟨R3, Lib.hid ⟨a, (h.out.mv.trans h2.out.2).trans b, h.out.lt.trans (rl_kidNode h.out.qs.good i k)⟩⟩
theorem kid_len {s : Ps} {i : Nat} : (s.kid i).nd.length = s.nd.length := on_len
/-- A node's kind, place, text or number set anew. -/
theorem QS.put {w : World} {p B : Nat} {r : Rs} {R : QRep} (h : QS w p B r R) (i : Nat) (hi : i < R.nh.length) (j : Nat) (hj : j < 5) (u : Value) (f : Nd → Nd) (hk : ∀ x, (f x).kids = x.kids) (hf : ncell (f R.nh[i].1, R.nh[i].2) = (ncell R.nh[i]).set j u) {g : Nat} (hA : R.A = some ⟨g, 0, none⟩) :
    PostQ w p B R { r with s := r.s.on i f } (w.setCell ⟨g, i * 5 + j, none⟩ u) := by
  have hns := h.ns.put (by decide) i hi j hj u f hk hf hA
  have hpg : p ≠ g := fun e => by
    obtain ⟨cur, hc⟩ := own_type h.ns.row hA
    rw [← e] at hc
    exact Blk.differ h.blk hc (by decide) rfl
  have hgB := (own_lt h.ns.row hA).1
  refine ⟨{ R with nh := R.nh.modify i fun x => (f x.1, x.2) }, ⟨?_, fun k hk => ?_, h.few, h.tlow, ?_, hns, h.pB, (rl_on h.good i f hk).good⟩, ?_⟩
  · have := h.blk.far (p := ⟨g, i * 5 + j, none⟩) hpg u
    show Blk _ p 65 #[.slice _ (R.I + r.s.ts.length) _, .int .i64 (R.I : Int), .int .i64 (r.s.deep : Int), .slice _ (R.nh.modify i _).length _, .int .i64 r.e]
    rw [List.length_modify]
    exact this
  · have hlt := h.tlow
    have hne : R.bt ≠ g := by omega
    have e2 := World.cell?_of_block (w := w) (w' := w.setCell ⟨g, i * 5 + j, none⟩ u) (a := ⟨R.bt, R.o0 + R.I * 5 + k, none⟩) (Below.heap_setCell w ⟨g, i * 5 + j, none⟩ _ R.bt hne)
    exact e2.trans (h.toks k hk)
  · show r.s.nd.modify i f = _
    rw [map_modify Prod.fst _ f (fun x => rfl), ← h.nodes]
  · refine ⟨rfl, rfl, rfl, by simp [World.setCell], fun b hb hM => Below.heap_setCell w ⟨g, i * 5 + j, none⟩ _ b (fun e => hM (.inr (.inl (by rw [e]; exact hA)))), fun b hb => ?_⟩
    rcases hb with hb | hb
    · exact .inl (.inl hb)
    · exact .inl (.inr (put_mine i f b hb))
theorem QS.node_at {w : World} {p B : Nat} {r : Rs} {R : QRep} (h : QS w p B r R) {i : Nat} (hi : i < r.s.nd.length) : ∃ g, ∃ hi' : i < R.nh.length, R.A = some ⟨g, 0, none⟩ ∧ g < w.heap.size ∧ g ≠ p := by
  have hlen := h.len
  have hi' : i < R.nh.length := by omega
  obtain ⟨g, hA⟩ := h.nslot (by omega)
  refine ⟨g, hi', hA, (own_lt h.ns.row hA).2, fun e => ?_⟩
  obtain ⟨cur, hc⟩ := own_type h.ns.row hA
  rw [e] at hc
  exact Blk.differ h.blk hc (by decide) rfl
theorem QS.x0 {w : World} {p B : Nat} {r : Rs} {R : QRep} (h : QS w p B r R) : w.cell? ⟨p, 0, none⟩ = some (.slice (some ⟨R.bt, R.o0, none⟩) (R.I + r.s.ts.length) R.ct) := h.blk.cell 0
theorem QS.x1 {w : World} {p B : Nat} {r : Rs} {R : QRep} (h : QS w p B r R) : w.cell? ⟨p, 1, none⟩ = some (.int .i64 (R.I : Int)) := h.blk.cell 1
theorem QS.x2 {w : World} {p B : Nat} {r : Rs} {R : QRep} (h : QS w p B r R) : w.cell? ⟨p, 2, none⟩ = some (.int .i64 (r.s.deep : Int)) := h.blk.cell 2
theorem QS.x3 {w : World} {p B : Nat} {r : Rs} {R : QRep} (h : QS w p B r R) {g : Nat} (hA : R.A = some ⟨g, 0, none⟩) : w.cell? ⟨p, 3, none⟩ = some (.slice (some ⟨g, 0, none⟩) R.nh.length R.c) := by rw [← hA]; exact h.blk.cell 3
theorem QS.x4 {w : World} {p B : Nat} {r : Rs} {R : QRep} (h : QS w p B r R) : w.cell? ⟨p, 4, none⟩ = some (.int .i64 r.e) := h.blk.cell 4
theorem QS.pos {w : World} {p B : Nat} {r : Rs} {R : QRep} (h : QS w p B r R) : (R.I : Int) < (R.I : Int) + (r.s.ts.length : Int) := by have := h.good.last.pos; omega
/-- A name read, laid into a node. -/
theorem RanQ.named {w w1 w2 : World} {p B : Nat} {R R1 R2 : QRep} {r r1 : Rs} {c : Int} {i : Nat} {g : Nat} (h : Hid (RanQ w p B R r w1 R1 r1 c)) (h2 : QS w2 p B (nameR r1) R2) (hm : Moves w1 (MineQ p R1) w2 (MineQ p R2)) (hi : i < R2.nh.length) (hA : R2.A = some ⟨g, 0, none⟩) :
    ∃ R3, Hid (RanQ w p B R r (w2.setCell ⟨g, i * 5 + 2, none⟩ (.string (bstr r1.nameT))) R3 (namedR i r1) (c + 0)) :=
  let ⟨R3, a, b⟩ := h2.put i hi 2 (by decide) (.string (bstr r1.nameT)) (fun n => { n with text := r1.nameT }) (fun _ => rfl) rfl hA
  ⟨R3, Lib.hid ⟨a, (h.out.mv.trans hm).trans b, h.out.lt.trans (gro_named i r1 h.out.qs.good)⟩⟩
/-- A number laid into a node. -/
theorem RanQ.num {w w1 : World} {p B : Nat} {R R1 : QRep} {r r1 : Rs} {c : Int} {i : Nat} {g : Nat} (h : Hid (RanQ w p B R r w1 R1 r1 c)) (x : Int) (hi : i < R1.nh.length) (hA : R1.A = some ⟨g, 0, none⟩) :
    ∃ R3, Hid (RanQ w p B R r (w1.setCell ⟨g, i * 5 + 3, none⟩ (.int .i64 x)) R3 (r1.num i x) (c + 0)) :=
  let ⟨R3, a, b⟩ := h.out.qs.put i hi 3 (by decide) (.int .i64 x) (fun n => { n with num := x }) (fun _ => rfl) rfl hA
  ⟨R3, Lib.hid ⟨a, h.out.mv.trans b, h.out.lt.trans (gro_num i x r1 h.out.qs.good)⟩⟩
/-- A node's kind set anew. -/
theorem RanQ.kind {w w1 : World} {p B : Nat} {R R1 : QRep} {r r1 : Rs} {c : Int} {i : Nat} {g : Nat} (h : Hid (RanQ w p B R r w1 R1 r1 c)) (k : Nat) (hi : i < R1.nh.length) (hA : R1.A = some ⟨g, 0, none⟩) :
    ∃ R3, Hid (RanQ w p B R r (w1.setCell ⟨g, i * 5, none⟩ (.int .u8 (k : Int))) R3 (r1.kind i k) (c + 0)) :=
  let ⟨R3, a, b⟩ := h.out.qs.put i hi 0 (by decide) (.int .u8 (k : Int)) (fun n => { n with kind := k }) (fun _ => rfl) rfl hA
  ⟨R3, Lib.hid ⟨a, h.out.mv.trans b, h.out.lt.trans (rl_on h.out.qs.good i _ fun _ => rfl)⟩⟩
theorem QS.ext {w w' : World} {p B : Nat} {r : Rs} {R : QRep} (h : QS w p B r R) (hx : Ext w w') : QS w' p B r R := by
  have hpl := h.blk.lt
  have hpB := h.pB
  have htl := h.tlow
  exact ⟨h.blk.ext hx, fun k hk => (hx.cell (p := ⟨R.bt, R.o0 + R.I * 5 + k, none⟩) (by show R.bt < _; omega)).trans (h.toks k hk), h.few, h.tlow, h.nodes, h.ns.ext hx, h.pB, h.good⟩
theorem qnode_kid (w : World) (p B : Nat) (r : Rs) (R : QRep) (i kind : Nat) (h : QK w p B { r with s := r.s.kid i } R) (hb : r.phi ≤ 1900000) :
    Calls Tryz.prog 25 #[.pointer (some ⟨p, 0, none⟩), .int .u8 (kind : Int)] w fun e w' => e = .returned (.int .i64 (r.s.nd.length : Int)) ∧ PostQ w p B R { r with s := (r.s.kid i).node kind } w' := by
  have hl : (r.s.kid i).nd.length = r.s.nd.length := kid_len
  refine (qnode_k w p B _ R kind h (by show (r.s.kid i).nd.length ≤ _; rw [hl]; exact nd_le hb)).mono ?_
  rintro e w' ⟨h1, h2⟩
  refine ⟨?_, h2⟩
  rw [h1]
  show Ending.returned (.int .i64 ((r.s.kid i).nd.length : Int)) = _
  rw [hl]
end Go.Proofs.YtcccnicldbpieaaGreatDoor
