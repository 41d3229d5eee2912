/- What the plain reading keeps: tokens are taken from the front, the last one stays; nodes are few. No condition. -/
import Derived.Test.YtcccnicldbpieaaGreatDoorPsL
namespace Go.Proofs.YtcccnicldbpieaaGreatDoor
set_option linter.unusedVariables false
set_option linter.unusedSimpArgs false
/-- Tokens, the last one an end. -/
structure Good0 (s : Ps) : Prop where
  last : ∃ l e, s.ts = l ++ [e] ∧ e.kind = 4
  deep : s.deep ≤ 64
/-- .. and no node has more kids than there are nodes. -/
structure Good (s : Ps) : Prop where
  last : ∃ l e, s.ts = l ++ [e] ∧ e.kind = 4
  deep : s.deep ≤ 64
  few : ∀ n ∈ s.nd, n.kids.length ≤ s.nd.length
theorem Good.base {s : Ps} (h : Good s) : Good0 s := ⟨h.last, h.deep⟩
theorem Good0.ne {s : Ps} (h : Good0 s) : s.ts ≠ [] := by
  obtain ⟨l, e, h, _⟩ := h.last
  rw [h]
  simp
theorem Good0.pos {s : Ps} (h : Good0 s) : 0 < s.ts.length := List.length_pos_iff.2 h.ne
theorem Good0.hd {s : Ps} (h : Good0 s) : ∃ t r, s.ts = t :: r ∧ s.hd = t := by
  cases hs : s.ts with
  | nil => exact absurd hs h.ne
  | cons t r => exact ⟨t, r, rfl, by unfold Ps.hd; rw [hs]; rfl⟩
theorem Good0.adv {s : Ps} (h : Good0 s) (hk : s.hd.kind ≠ 4) : Good0 s.adv := by
  refine ⟨?_, h.deep⟩
  obtain ⟨l, e, hl, he⟩ := h.last
  cases l with
  | nil =>
    exfalso
    apply hk
    unfold Ps.hd
    rw [hl]
    exact he
  | cons t r =>
    refine ⟨r, e, ?_, he⟩
    show s.ts.tail = _
    rw [hl]
    rfl
def Ps.phi (s : Ps) : Nat := s.nd.length + 2 * s.ts.length
structure Later (s s' : Ps) : Prop where
  good : Good s'
  phi : s'.phi ≤ s.phi
  ts : s'.ts.length ≤ s.ts.length
  nd : s.nd.length ≤ s'.nd.length
  deep : s'.deep = s.deep
theorem Later.refl {s : Ps} (h : Good s) : Later s s := ⟨h, Nat.le_refl _, Nat.le_refl _, Nat.le_refl _, rfl⟩
theorem Later.trans {a b c : Ps} (h : Later a b) (k : Later b c) : Later a c := ⟨k.good, Nat.le_trans k.phi h.phi, Nat.le_trans k.ts h.ts, Nat.le_trans h.nd k.nd, k.deep.trans h.deep⟩
def FineAt {α : Type} (s : Ps) : Res α → Prop
  | .ok _ s' => Later s s'
  | .err _ _ => True
def Fine {α : Type} (m : Pm α) : Prop := ∀ s, Good s → FineAt s (m s)
theorem Good.pos {s : Ps} (h : Good s) : 0 < s.ts.length := h.base.pos
theorem Good.adv {s : Ps} (h : Good s) (hk : s.hd.kind ≠ 4) : Good s.adv := ⟨(h.base.adv hk).last, h.deep, h.few⟩
theorem adv_len {s : Ps} : s.adv.ts.length = s.ts.length - 1 := by show s.ts.tail.length = _; simp
theorem later_adv {s : Ps} (h : Good s) (hk : s.hd.kind ≠ 4) : Later s s.adv := by
  have := h.pos
  have ht := adv_len (s := s)
  exact ⟨h.adv hk, by unfold Ps.phi; rw [ht]; show s.nd.length + _ ≤ _; omega, by omega, Nat.le_refl _, rfl⟩
theorem isP_kind {t : Bs} {s : Ps} (h : isP t s = true) : s.hd.kind ≠ 4 ∧ s.hd.kind ≠ 2 ∧ s.hd.text = t := by
  unfold isP at h
  simp only [Bool.and_eq_true, bne_iff_ne, beq_iff_eq] at h
  exact ⟨h.1.1, h.1.2, h.2⟩
theorem on_len {s : Ps} {i : Nat} {f : Nd → Nd} : (s.on i f).nd.length = s.nd.length := by unfold Ps.on; simp
theorem on_few {s : Ps} {i : Nat} {f : Nd → Nd} (m : Nat) (hk : ∀ n ∈ s.nd, (f n).kids.length ≤ m) (h : ∀ n ∈ s.nd, n.kids.length ≤ m) : ∀ n ∈ (s.on i f).nd, n.kids.length ≤ m := by
  intro n hn
  have hn' : n ∈ s.nd.modify i f := hn
  obtain ⟨a, ha, rfl⟩ := List.mem_iff_getElem.1 hn'
  have ha' : a < s.nd.length := by rw [List.length_modify] at ha; exact ha
  rw [List.getElem_modify]
  split
  · exact hk _ (List.getElem_mem ha')
  · exact h _ (List.getElem_mem ha')
theorem later_on {s : Ps} {i : Nat} {f : Nd → Nd} (h : Good s) (hk : ∀ n, (f n).kids = n.kids) : Later s (s.on i f) := ⟨⟨h.last, h.deep, by rw [on_len]; exact on_few _ (fun n hn => by rw [hk]; exact h.few n hn) h.few⟩, by unfold Ps.phi; rw [on_len]; exact Nat.le_refl _, Nat.le_refl _, by rw [on_len]; exact Nat.le_refl _, rfl⟩
theorem FineAt.trans {α : Type} {a b : Ps} {r : Res α} (h : Later a b) (k : FineAt b r) : FineAt a r := by
  cases r with
  | ok x s => exact h.trans k
  | err _ _ => trivial
theorem FineAt.bind {α β : Type} {s : Ps} {r : Res α} {f : α → Ps → Res β} (h : FineAt s r) (k : ∀ a s', r = .ok a s' → Good s' → FineAt s' (f a s')) : FineAt s (r.bind f) := by
  cases r with
  | ok a s' => exact FineAt.trans h (k a s' rfl h.good)
  | err e p => trivial
theorem fine_take (t : Bs) : Fine (takeP t) := by
  intro s h
  unfold takeP
  split
  · rename_i hi
    exact later_adv h (isP_kind hi).1
  · trivial
theorem fine_of (k : Nat) (hk : k ≠ 4) : Fine (ofP k) := by
  intro s h
  unfold ofP
  split
  · rename_i hi
    exact later_adv h (by rw [hi]; exact hk)
  · trivial
theorem fine_named (i : Nat) : Fine (namedP i) := fun s h => (fine_of 1 (by decide) s h).bind fun t s' _ h' => later_on h' (fun _ => rfl)
/-- A node ahead of tokens that are taken. -/
def FineN {α : Type} (s : Ps) : Res α → Prop
  | .ok _ s' => Good s' ∧ s'.phi + 2 ≤ s.phi ∧ s'.ts.length + 1 ≤ s.ts.length ∧ s.nd.length ≤ s'.nd.length ∧ s'.deep = s.deep
  | .err _ _ => True
theorem kidNode_len (s : Ps) (i k : Nat) : (s.kidNode i k).nd.length = s.nd.length + 1 := by
  show ((s.kid i).nd ++ [_]).length = _
  rw [List.length_append]
  show (s.on i _).nd.length + 1 = _
  rw [on_len]
theorem kid_add_few {s : Ps} (h : ∀ n ∈ s.nd, n.kids.length ≤ s.nd.length) (i : Nat) (x : Nd) (hx : x.kids = []) : ∀ n ∈ ((s.kid i).add x).nd, n.kids.length ≤ ((s.kid i).add x).nd.length := by
  have hl : ((s.kid i).add x).nd.length = s.nd.length + 1 := by
    show ((s.kid i).nd ++ [_]).length = _
    rw [List.length_append]
    show (s.on i _).nd.length + 1 = _
    rw [on_len]
  intro n hn
  rw [hl]
  rcases List.mem_append.1 hn with hn | hn
  · exact on_few (s.nd.length + 1) (fun n hn => by have := h n hn; simp; omega) (fun n hn => by have := h n hn; omega) n hn
  · rw [List.mem_singleton.1 hn, hx]
    simp
theorem kidNode_good {s : Ps} (h : Good s) (i k : Nat) : Good (s.kidNode i k) := ⟨h.last, h.deep, kid_add_few h.few i _ rfl⟩
theorem kidNode_ts (s : Ps) (i k : Nat) : (s.kidNode i k).ts = s.ts := rfl
theorem kidNode_deep (s : Ps) (i k : Nat) : (s.kidNode i k).deep = s.deep := rfl
theorem FineN.at {α : Type} {s : Ps} {i k : Nat} {r : Res α} (h : FineN (s.kidNode i k) r) : FineAt s r := by
  cases r with
  | ok a s' =>
    obtain ⟨h1, h2, h3, h4, h5⟩ := h
    have hl := kidNode_len s i k
    unfold Ps.phi at h2
    rw [hl, kidNode_ts] at h2
    rw [kidNode_ts] at h3
    rw [hl] at h4
    rw [kidNode_deep] at h5
    exact ⟨h1, by unfold Ps.phi; omega, by omega, by omega, h5⟩
  | err _ _ => trivial
theorem FineN.bind {α β : Type} {s : Ps} {r : Res α} {f : α → Ps → Res β} (h : FineN s r) (k : ∀ a s', r = .ok a s' → Good s' → FineAt s' (f a s')) : FineN s (r.bind f) := by
  cases r with
  | ok a s' =>
    have hk := k a s' rfl h.1
    show FineN s (f a s')
    obtain ⟨h1, h2, h3, h4, h5⟩ := h
    cases hr : f a s' with
    | ok b s2 =>
      rw [hr] at hk
      have := hk.phi
      have := hk.ts
      have := hk.nd
      exact ⟨hk.good, by omega, by omega, by omega, hk.deep.trans h5⟩
    | err _ _ => trivial
  | err e p => trivial
theorem fineN_adv {s : Ps} (h : Good s) (hk : s.hd.kind ≠ 4) : FineN s (.ok () s.adv : Res Unit) := by
  have := h.pos
  have ht := adv_len (s := s)
  exact ⟨h.adv hk, by unfold Ps.phi; rw [ht]; show s.nd.length + _ + 2 ≤ _; omega, by omega, Nat.le_refl _, rfl⟩
theorem fineN_of {s : Ps} (k : Nat) (hk : k ≠ 4) (h : Good s) : FineN s (ofP k s) := by
  unfold ofP
  split
  · rename_i hi
    have h0 : s.hd.kind ≠ 4 := by rw [hi]; exact hk
    exact fineN_adv h h0
  · trivial
theorem fineN_take {s : Ps} (t : Bs) (h : Good s) : FineN s (takeP t s) := by
  unfold takeP
  split
  · rename_i hi
    exact fineN_adv h (isP_kind hi).1
  · trivial
theorem fineN_named {s : Ps} (i : Nat) (h : Good s) : FineN s (namedP i s) := (fineN_of 1 (by decide) h).bind fun t s' _ h' => later_on h' (fun _ => rfl)
theorem fine_word (i : Nat) : Fine (wordP i) := fun s h => FineN.at (fineN_named _ (kidNode_good h i 5))
theorem fine_number (i : Nat) : Fine (numberP i) := fun s h => FineN.at ((fineN_of 2 (by decide) (kidNode_good h i 21)).bind fun t s' _ h' => later_on h' (fun _ => rfl))
theorem fineN_within {α : Type} {s : Ps} (a z : Bs) {body : Pm α} (hb : ∀ t, Good t → t.ts.length < s.ts.length → FineAt t (body t)) (h : Good s) : FineN s (withinP a z body s) := by
  unfold withinP
  split
  · rename_i hi
    split
    · trivial
    · rename_i hd
      have hk := (isP_kind hi).1
      have hdl := h.deep
      have hp := h.pos
      have g : Good { s.adv with deep := s.deep + 1 } := ⟨(h.adv hk).last, by show s.deep + 1 ≤ 64; omega, h.few⟩
      have hbt := hb _ g (by show s.adv.ts.length < _; rw [adv_len]; omega)
      cases hr : body { s.adv with deep := s.deep + 1 } with
      | err e p => trivial
      | ok x t =>
        rw [hr] at hbt
        have hl : t.ts.length ≤ s.adv.ts.length := hbt.ts
        have hn : s.nd.length ≤ t.nd.length := hbt.nd
        have hdp : t.deep = s.deep + 1 := hbt.deep
        have hph : t.phi ≤ s.nd.length + 2 * s.adv.ts.length := hbt.phi
        have hal := adv_len (s := s)
        have g2 : ∀ u : Ps, Good u → u.deep = s.deep + 1 → Good { u with deep := u.deep - 1 } := fun u gu hu => ⟨gu.last, by show u.deep - 1 ≤ 64; omega, gu.few⟩
        show FineN s (if z = [] then Res.ok x { t with deep := t.deep - 1 } else (takeP z t).bind fun _ s => .ok x { s with deep := s.deep - 1 })
        split
        · exact ⟨g2 t hbt.good hdp, by show t.phi + 2 ≤ s.phi; unfold Ps.phi at hph ⊢; omega, by show t.ts.length + 1 ≤ _; omega, hn, by show t.deep - 1 = s.deep; omega⟩
        · have ht := fine_take z t hbt.good
          cases hq : takeP z t with
          | err e p => trivial
          | ok y u =>
            rw [hq] at ht
            have h1 : u.ts.length ≤ t.ts.length := ht.ts
            have h2 : t.nd.length ≤ u.nd.length := ht.nd
            have h3 : u.deep = t.deep := ht.deep
            have h4 : u.phi ≤ t.phi := ht.phi
            exact ⟨g2 u ht.good (by omega), by show u.phi + 2 ≤ s.phi; unfold Ps.phi at hph h4 ⊢; omega, by show u.ts.length + 1 ≤ _; omega, by show s.nd.length ≤ u.nd.length; omega, by show u.deep - 1 = s.deep; omega⟩
  · trivial
theorem FineN.fine {α : Type} {s : Ps} {r : Res α} (h : FineN s r) : FineAt s r := by
  cases r with
  | ok a s' =>
    obtain ⟨h1, h2, h3, h4, h5⟩ := h
    exact ⟨h1, by omega, by omega, h4, h5⟩
  | err _ _ => trivial
/-! ### Expressions -/
def Ex.size : Ex → Nat
  | .leaf .. => 1
  | .neg _ a => a.size + 1
  | .bin _ _ a b => a.size + b.size + 1
/-- An expression was read: as many tokens as it has nodes, or more, were taken; no nodes came. -/
def FineE (s : Ps) : Res Ex → Prop
  | .ok e s' => Good s' ∧ s'.ts.length + e.size ≤ s.ts.length ∧ s'.nd = s.nd ∧ s'.deep = s.deep
  | .err _ _ => True
theorem markM_kind {ms : List (Bs × Nat)} {s : Ps} {k : Nat} (h : markM ms s = some k) : s.hd.kind ≠ 4 := by
  unfold markM at h
  cases hf : ms.find? fun m => isP m.1 s with
  | none => rw [hf] at h; cases h
  | some m => exact (isP_kind (t := m.1) (List.find?_some (p := fun m : Bs × Nat => isP m.1 s) hf)).1
theorem fineE_loop {ms : List (Bs × Nat)} {part : Pm Ex} (n : Nat) (hp : ∀ t, Good t → t.ts.length ≤ n → FineE t (part t)) (s : Ps) : ∀ (f : Nat) (e : Ex) (t : Ps), Good t → t.ts.length ≤ n → t.ts.length + e.size ≤ s.ts.length → t.nd = s.nd → t.deep = s.deep → FineE s (chainL ms part f e t)
  | 0, _, _, _, _, _, _, _ => trivial
  | f + 1, e, t, g, hl, hs, hn, hd => by
    unfold chainL
    split
    · exact ⟨g, hs, hn, hd⟩
    · rename_i k hk
      have h4 := markM_kind hk
      have hpos := g.pos
      have hal := adv_len (s := t)
      have hpt := hp t.adv (g.adv h4) (by omega)
      cases hr : part t.adv with
      | err e p => trivial
      | ok r u =>
        rw [hr] at hpt
        obtain ⟨h1, h2, h3, h5⟩ := hpt
        exact fineE_loop n hp s f (.bin k e.pos e r) u h1 (by omega) (by show u.ts.length + (e.size + r.size + 1) ≤ _; omega) (h3.trans hn) (h5.trans hd)
theorem fineE_chain {ms : List (Bs × Nat)} {part : Pm Ex} (n : Nat) (hp : ∀ t, Good t → t.ts.length ≤ n → FineE t (part t)) : ∀ s, Good s → s.ts.length ≤ n → FineE s (chainP ms part s) := by
  intro s g hl
  have hpt := hp s g hl
  unfold chainP
  cases hr : part s with
  | err e p => trivial
  | ok e u =>
    rw [hr] at hpt
    obtain ⟨h1, h2, h3, h5⟩ := hpt
    exact fineE_loop n hp s _ e u h1 (by omega) h2 h3 h5
theorem fineE_sum {part : Pm Ex} (n : Nat) (hp : ∀ t, Good t → t.ts.length ≤ n → FineE t (part t)) : ∀ s, Good s → s.ts.length ≤ n → FineE s (sumOf part s) := fineE_chain n (fineE_chain n hp)
def FineEW (s : Ps) : Res Ex → Prop
  | .ok e s' => Good s' ∧ s'.ts.length + e.size + 1 ≤ s.ts.length ∧ s'.nd = s.nd ∧ s'.deep = s.deep
  | .err _ _ => True
theorem fineE_within {s : Ps} (a z : Bs) {body : Pm Ex} (hb : ∀ t, Good t → t.ts.length < s.ts.length → FineE t (body t)) (h : Good s) : FineEW s (withinP a z body s) := by
  unfold withinP
  split
  · rename_i hi
    split
    · trivial
    · rename_i hd
      have hk := (isP_kind hi).1
      have hdl := h.deep
      have hp := h.pos
      have g : Good { s.adv with deep := s.deep + 1 } := ⟨(h.adv hk).last, by show s.deep + 1 ≤ 64; omega, h.few⟩
      have hal := adv_len (s := s)
      have hbt := hb _ g (by show s.adv.ts.length < _; omega)
      cases hr : body { s.adv with deep := s.deep + 1 } with
      | err e p => trivial
      | ok x t =>
        rw [hr] at hbt
        obtain ⟨h1, h2, h3, h4⟩ := hbt
        have h2' : t.ts.length + x.size ≤ s.adv.ts.length := h2
        have h4' : t.deep = s.deep + 1 := h4
        have g2 : ∀ u : Ps, Good u → u.deep = s.deep + 1 → Good { u with deep := u.deep - 1 } := fun u gu hu => ⟨gu.last, by show u.deep - 1 ≤ 64; omega, gu.few⟩
        simp only [bind_ok]
        split
        · exact ⟨g2 t h1 h4', by show t.ts.length + _ + 1 ≤ _; omega, h3, by show t.deep - 1 = s.deep; omega⟩
        · have ht := fine_take z t h1
          cases hq : takeP z t with
          | err e p => trivial
          | ok y u =>
            rw [hq] at ht
            have h1' : u.ts.length ≤ t.ts.length := ht.ts
            have h3' : u.deep = t.deep := ht.deep
            have hnd : u.nd = t.nd := by
              unfold takeP at hq
              split at hq
              · injection hq with _ e2
                rw [← e2]; rfl
              · cases hq
            exact ⟨g2 u ht.good (by omega), by show u.ts.length + _ + 1 ≤ _; omega, hnd.trans h3, by show u.deep - 1 = s.deep; omega⟩
  · trivial
theorem fineE_factor : ∀ (f : Nat) (s : Ps), Good s → s.ts.length ≤ f → FineE s (factorP f s)
  | 0, s, g, hl => absurd g.pos (by omega)
  | f + 1, s, g, hl => by
    have hp := g.pos
    have hal := adv_len (s := s)
    unfold factorP
    split
    · rename_i hk
      exact ⟨g.adv (by omega), by show s.adv.ts.length + 1 ≤ _; omega, rfl, rfl⟩
    · split
      · rename_i hk
        exact ⟨g.adv (by omega), by show s.adv.ts.length + 1 ≤ _; omega, rfl, rfl⟩
      · split
        · have h := fineE_within [45] [] (body := factorP f) (fun t gt ht => fineE_factor f t gt (by omega)) g
          cases hr : withinP [45] [] (factorP f) s with
          | err e p => trivial
          | ok a t =>
            rw [hr] at h
            obtain ⟨h1, h2, h3, h4⟩ := h
            exact ⟨h1, by show t.ts.length + (a.size + 1) ≤ _; omega, h3, h4⟩
        · have h := fineE_within [40] [41] (body := sumOf (factorP f)) (fun t gt ht => fineE_sum f (fun t gt ht => fineE_factor f t gt ht) t gt (by omega)) g
          cases hr : withinP [40] [41] (sumOf (factorP f)) s with
          | err e p => trivial
          | ok a t =>
            rw [hr] at h
            obtain ⟨h1, h2, h3, h4⟩ := h
            exact ⟨h1, by omega, h3, h4⟩
theorem fineE_sumP (s : Ps) (g : Good s) : FineE s (sumP s) := fineE_sum _ (fun t gt ht => fineE_factor _ t gt ht) s g (Nat.le_refl _)
theorem kid_add_len (s : Ps) (i : Nat) (n : Nd) : ((s.kid i).add n).nd.length = s.nd.length + 1 := by
  show ((s.kid i).nd ++ [_]).length = _
  rw [List.length_append]
  show (s.on i _).nd.length + 1 = _
  rw [on_len]
theorem put_len : ∀ (e : Ex) (i : Nat) (s : Ps), (putP i e s).nd.length = s.nd.length + e.size ∧ (putP i e s).ts = s.ts ∧ (putP i e s).deep = s.deep
  | .leaf k p t n, i, s => ⟨kid_add_len s i _, rfl, rfl⟩
  | .neg p a, i, s => by
    obtain ⟨h1, h2, h3⟩ := put_len a s.nd.length ((s.kid i).add ⟨26, p, [], 0, []⟩)
    refine ⟨?_, h2, h3⟩
    show (putP s.nd.length a _).nd.length = s.nd.length + (a.size + 1)
    rw [h1, kid_add_len]
    omega
  | .bin k p a b, i, s => by
    obtain ⟨h1, h2, h3⟩ := put_len a s.nd.length ((s.kid i).add ⟨k, p, [], 0, []⟩)
    obtain ⟨h4, h5, h6⟩ := put_len b s.nd.length (putP s.nd.length a ((s.kid i).add ⟨k, p, [], 0, []⟩))
    refine ⟨?_, h5.trans h2, h6.trans h3⟩
    show (putP s.nd.length b _).nd.length = s.nd.length + (a.size + b.size + 1)
    rw [h4, h1, kid_add_len]
    omega
theorem put_few : ∀ (e : Ex) (i : Nat) (s : Ps), (∀ n ∈ s.nd, n.kids.length ≤ s.nd.length) → ∀ n ∈ (putP i e s).nd, n.kids.length ≤ (putP i e s).nd.length
  | .leaf k p t n, i, s, h => kid_add_few h i _ rfl
  | .neg p a, i, s, h => put_few a _ _ (kid_add_few h i _ rfl)
  | .bin k p a b, i, s, h => put_few b _ _ (put_few a _ _ (kid_add_few h i _ rfl))
theorem fine_expr (i : Nat) : Fine (exprP i) := by
  intro s g
  unfold exprP
  have h := fineE_sumP s g
  cases hr : sumP s with
  | err e p => trivial
  | ok e t =>
    rw [hr] at h
    obtain ⟨h1, h2, h3, h4⟩ := h
    obtain ⟨p1, p2, p3⟩ := put_len e i t
    refine ⟨⟨by rw [p2]; exact h1.last, by rw [p3]; exact h1.deep, put_few e i t h1.few⟩, ?_, by rw [p2]; omega, by rw [p1, h3]; omega, by rw [p3, h4]⟩
    unfold Ps.phi
    rw [p1, p2, h3]
    omega
/-! ### Statements -/
theorem fine_more {one : Pm Unit} (h : Fine one) : ∀ f, Fine (moreP one f)
  | 0 => fun _ _ => trivial
  | f + 1 => fun s g => by
    unfold moreP
    split
    · rename_i hi
      have hk := (isP_kind hi).1
      exact FineAt.trans (later_adv g hk) ((h _ (g.adv hk)).bind fun _ t _ gt => fine_more h f t gt)
    · exact Later.refl g
theorem fine_list {one : Pm Unit} (h : Fine one) : Fine (listP one) := fun s g => (h s g).bind fun _ t _ gt => fine_more h _ t gt
theorem fine_key (i : Nat) : Fine (keyP i) := fun s g => (fineN_within [91] [93] (fun t gt _ => fine_expr i t gt) g).fine
theorem fine_row (i : Nat) : Fine (rowP i) := fun s g => FineN.at ((fineN_named _ (kidNode_good g i 20)).bind fun _ t _ gt => fine_key _ t gt)
theorem fine_cell (i : Nat) : Fine (cellP i) := fun s g => (fine_row i s g).bind fun _ t _ gt => (fine_take _ t gt).bind fun _ t _ gt => fine_word i t gt
theorem fine_read (i : Nat) : Fine (readP i) := fun s g => (fine_named i s g).bind fun _ t _ gt => (fine_take _ t gt).bind fun _ t _ gt => (fine_cell i t gt).bind fun _ t _ gt => by
  split
  · rename_i hi
    exact FineAt.trans (later_adv gt (isP_kind hi).1) ((fine_take _ _ (gt.adv (isP_kind hi).1)).bind fun _ t _ gt => later_on gt (fun _ => rfl))
  · exact Later.refl gt
theorem fine_set (i : Nat) : Fine (setP i) := fun s g => (fine_cell i s g).bind fun _ t _ gt => (fine_take _ t gt).bind fun _ t _ gt => fine_expr i t gt
theorem fine_upsert (i : Nat) : Fine (upsertP i) := fun s g => (fine_row i s g).bind fun _ t _ gt => (fine_take _ t gt).bind fun _ t _ gt => (fine_list (fine_expr i) t gt).bind fun _ t _ gt => fine_take _ t gt
theorem fine_scan (i : Nat) : Fine (scanP i) := fun s g => (fine_named i s g).bind fun _ t _ gt => (fine_take _ t gt).bind fun _ t _ gt => (fine_word i t gt).bind fun _ t _ gt => (fine_take _ t gt).bind fun _ t _ gt => fine_word i t gt
theorem fine_lock (i : Nat) : Fine (lockP i) := fun s g => (fine_word i s g).bind fun _ t _ gt => by
  split
  · rename_i hi
    exact (later_adv gt (isP_kind hi).1).trans (later_on (gt.adv (isP_kind hi).1) (fun _ => rfl))
  · exact fine_take _ t gt
theorem fine_release (i : Nat) : Fine (releaseP i) := fun s g => FineN.at ((fineN_named _ (kidNode_good g i 5)).bind fun _ t _ gt => by
  split
  · have l1 : Later t (t.kind s.nd.length 20) := later_on gt (fun _ => rfl)
    exact FineAt.trans l1 (fine_key _ _ l1.good)
  · exact Later.refl gt)
theorem fine_let (i : Nat) : Fine (letP i) := fun s g => (fine_named i s g).bind fun _ t _ gt => (fine_take _ t gt).bind fun _ t _ gt => fine_expr i t gt
theorem fine_less (i : Nat) : Fine (lessP i) := fun s g => by
  unfold lessP
  split
  · rename_i hi
    exact (later_adv g (isP_kind hi).1).trans (later_on (g.adv (isP_kind hi).1) (fun _ => rfl))
  · exact fine_take _ s g
def FineS (n : Nat) (st : Nat → Pm Unit) : Prop := ∀ i s, Good s → s.ts.length ≤ n → FineAt s (st i s)
theorem fine_until {n : Nat} {st : Nat → Pm Unit} (h : FineS n st) (i : Nat) : ∀ f s, Good s → s.ts.length ≤ n → FineAt s (untilP st i f s)
  | 0, _, _, _ => trivial
  | f + 1, s, g, hl => by
    unfold untilP
    split
    · exact Later.refl g
    · have h1 := h i s g hl
      cases hr : st i s with
      | err e p => trivial
      | ok a t =>
        rw [hr] at h1
        have := h1.ts
        exact FineAt.trans h1 (fine_until h i f t h1.good (by omega))
theorem fine_block {n : Nat} {st : Nat → Pm Unit} (h : FineS n st) (i : Nat) (s : Ps) (g : Good s) (hl : s.ts.length ≤ n + 1) : FineAt s (blockOf st i s) :=
  FineN.at (fineN_within [123] [125] (fun t gt ht => fine_until h _ _ t gt (by rw [kidNode_ts] at ht; omega)) (kidNode_good g i 6))
theorem fine_else {n : Nat} {st : Nat → Pm Unit} (h : FineS n st) (i : Nat) (s : Ps) (g : Good s) (hl : s.ts.length ≤ n + 1) : FineAt s (elseOf st i s) := by
  unfold elseOf
  split
  · rename_i hi
    have hk := (isP_kind hi).1
    have hal := adv_len (s := s)
    exact FineAt.trans (later_adv g hk) (fine_block h i _ (g.adv hk) (by omega))
  · exact Later.refl g
/-- Along a row of readings lengths shrink. -/
theorem FineAt.bindL {α β : Type} {s : Ps} {r : Res α} {f : α → Ps → Res β} (h : FineAt s r) (k : ∀ a s', Good s' → s'.ts.length ≤ s.ts.length → FineAt s' (f a s')) : FineAt s (r.bind f) := by
  cases r with
  | ok a s' => exact FineAt.trans h (k a s' h.good h.ts)
  | err e p => trivial
theorem fine_branch {n : Nat} {st : Nat → Pm Unit} (h : FineS n st) (i : Nat) (s : Ps) (g : Good s) (hl : s.ts.length ≤ n + 1) : FineAt s (branchOf st i s) :=
  (fine_expr i s g).bindL fun _ t gt l1 => (fine_less i t gt).bindL fun _ t gt l2 => (fine_expr i t gt).bindL fun _ t gt l3 => (fine_block h i t gt (by omega)).bindL fun _ t gt l4 => fine_else h i t gt (by omega)
theorem fine_loop {n : Nat} {st : Nat → Pm Unit} (h : FineS n st) (i : Nat) (s : Ps) (g : Good s) (hl : s.ts.length ≤ n + 1) : FineAt s (loopOf st i s) :=
  (fine_named i s g).bindL fun _ t gt l1 => (fine_take _ t gt).bindL fun _ t gt l2 => (fine_number i t gt).bindL fun _ t gt l3 => (fine_take _ t gt).bindL fun _ t gt l4 => (fine_number i t gt).bindL fun _ t gt l5 => fine_block h i t gt (by omega)
theorem fine_reads {n : Nat} {st : Nat → Pm Unit} (h : FineS n st) (k i : Nat) (s : Ps) (g : Good s) (hl : s.ts.length ≤ n + 1) : FineAt s (readsOf st k i s) := by
  unfold readsOf
  split
  · exact fine_read i s g
  split
  · exact fine_set i s g
  split
  · exact fine_upsert i s g
  split
  · exact fine_row i s g
  split
  · exact fine_scan i s g
  split
  · exact fine_lock i s g
  split
  · exact fine_release i s g
  split
  · exact fine_branch h i s g hl
  split
  · exact fine_loop h i s g hl
  split
  · exact fine_let i s g
  split
  · exact fine_expr i s g
  · exact Later.refl g
theorem fine_stmt : ∀ f, FineS f (stmtP f)
  | 0, _, _, _, _ => trivial
  | f + 1, i, s, g, hl => by
    unfold stmtP
    split
    · trivial
    · rename_i k hk
      have h1 : s.hd.kind = 1 := by
        split at hk
        · assumption
        · cases hk
      have h4 : (s.kidNode i k).hd.kind ≠ 4 := by show s.hd.kind ≠ 4; omega
      refine FineN.at (i := i) (k := k) ?_
      refine FineN.bind (r := .ok () (s.kidNode i k).adv) (fineN_adv (kidNode_good g i k) h4) (f := fun _ t => (readsOf (stmtP f) k s.nd.length t).bind fun _ s => if k = 14 ∨ k = 15 then .ok () s else takeP [59] s) ?_
      intro _ t ht gt
      injection ht with _ ht
      have hal := adv_len (s := s.kidNode i k)
      rw [kidNode_ts] at hal
      have := g.pos
      refine (fine_reads (fine_stmt f) k _ t gt (by rw [← ht, hal]; omega)).bind fun _ u _ gu => ?_
      split
      · exact Later.refl gu
      · exact fine_take _ u gu
theorem fine_blockP (i : Nat) : Fine (blockP i) := fun s g => fine_block (fine_stmt s.ts.length) i s g (by omega)
theorem fine_table (i : Nat) : Fine (tableP i) := fun s g => FineN.at ((fineN_take _ (kidNode_good g i 2)).bind fun _ t _ gt => (fine_named _ t gt).bind fun _ t _ gt => (fine_take _ t gt).bind fun _ t _ gt => (fine_list (fine_word _) t gt).bind fun _ t _ gt => (fine_take _ t gt).bind fun _ t _ gt => fine_take _ t gt)
theorem fine_single (i : Nat) : Fine (singleP i) := fun s g => by
  unfold singleP
  split
  · rename_i hi
    exact (later_adv g (isP_kind hi).1).trans (later_on (g.adv (isP_kind hi).1) (fun _ => rfl))
  · exact Later.refl g
end Go.Proofs.YtcccnicldbpieaaGreatDoor
