/- Two readings side by side: the same words, at other places, with other tokens behind, other nodes ahead. No condition. -/
import Derived.Test.YtcccnicldbpieaaGreatDoorPsN
namespace Go.Proofs.YtcccnicldbpieaaGreatDoor
set_option linter.unusedVariables false
set_option linter.unusedSimpArgs false
/-- How the second reading's places and nodes stand to the first's; what comes behind in each. -/
structure Cx where
  φ : Nat → Nat
  K : List Nat
  A : List Nd
  R0 : Nd
  V : List Tok
  V' : List Tok
def Cx.ι (c : Cx) (i : Nat) : Nat := if i = 0 then 0 else i + c.A.length
def Cx.mv (c : Cx) (n : Nd) : Nd := { n with pos := c.φ n.pos, kids := n.kids.map c.ι }
def Cx.emb (c : Cx) : List Nd → List Nd
  | [] => []
  | r :: X => { c.R0 with kids := c.K ++ r.kids.map c.ι } :: (c.A ++ X.map c.mv)
def Tw (c : Cx) (t t' : Tok) : Prop := t'.kind = t.kind ∧ t'.text = t.text ∧ t'.n = t.n ∧ t'.at_ = c.φ t.at_
inductive Pw (c : Cx) : List Tok → List Tok → Prop where
  | nil : Pw c [] []
  | cons {t t' : Tok} {r r' : List Tok} (h : Tw c t t') (k : Pw c r r') : Pw c (t :: r) (t' :: r')
theorem Cx.emb_len (c : Cx) {l : List Nd} (h : l ≠ []) : (c.emb l).length = c.ι l.length := by
  cases l with
  | nil => exact absurd rfl h
  | cons r X =>
    unfold Cx.emb Cx.ι
    simp
    omega
theorem Cx.emb_ne (c : Cx) {l : List Nd} (h : l ≠ []) : c.emb l ≠ [] := by
  cases l with
  | nil => exact absurd rfl h
  | cons r X => unfold Cx.emb; simp
theorem Cx.emb_add (c : Cx) {l : List Nd} (h : l ≠ []) (x : Nd) : c.emb (l ++ [x]) = c.emb l ++ [c.mv x] := by
  cases l with
  | nil => exact absurd rfl h
  | cons r X => simp [Cx.emb]
theorem map_modify2 {α β : Type} (f : α → β) (g : α → α) (k : β → β) (h : ∀ x, f (g x) = k (f x)) : ∀ (l : List α) (i : Nat), (l.modify i g).map f = (l.map f).modify i k
  | [], i => by simp
  | x :: l, 0 => by simp [h]
  | x :: l, i + 1 => by simp [map_modify2 f g k h l i]
/-- An update that looks at neither places nor kids. -/
theorem Cx.emb_on (c : Cx) (f f' : Nd → Nd) (i : Nat) (h0 : i = 0 → ∀ r : Nd, ({ c.R0 with kids := c.K ++ (f r).kids.map c.ι } : Nd) = f' { c.R0 with kids := c.K ++ r.kids.map c.ι }) (h1 : ∀ n : Nd, c.mv (f n) = f' (c.mv n)) (l : List Nd) : c.emb (l.modify i f) = (c.emb l).modify (c.ι i) f' := by
  cases l with
  | nil => simp [Cx.emb]
  | cons r X =>
    cases i with
    | zero =>
      have e : c.ι 0 = 0 := rfl
      rw [e]
      show (_ :: _ : List Nd) = List.modify (_ :: _) 0 f'
      rw [List.modify_zero_cons]
      rw [← h0 rfl r]
    | succ i =>
      have e : c.ι (i + 1) = (c.A.length + i) + 1 := by unfold Cx.ι; rw [if_neg (by omega)]; omega
      rw [e, List.modify_succ_cons]
      show (_ :: _ : List Nd) = List.modify (_ :: (c.A ++ X.map c.mv)) (c.A.length + i + 1) f'
      rw [List.modify_succ_cons]
      congr 1
      rw [map_modify2 c.mv f f' h1]
      apply List.ext_getElem
      · simp
      · intro j h2 h3
        simp only [List.getElem_append, List.getElem_modify]
        by_cases hj : j < c.A.length
        · rw [dif_pos hj, if_neg (by omega)]
          simp [hj]
        · rw [dif_neg hj]
          by_cases hij : i = j - c.A.length
          · rw [if_pos hij, if_pos (by omega)]
            simp [hj]
          · rw [if_neg hij, if_neg (by omega)]
            simp [hj]
structure Rel (c : Cx) (s s' : Ps) : Prop where
  toks : ∃ r r', s.ts = r ++ c.V ∧ s'.ts = r' ++ c.V' ∧ Pw c r r'
  ne : s.nd ≠ []
  nd : s'.nd = c.emb s.nd
  deep : s'.deep = s.deep
  lst : Lst s
  lst' : Lst s'
/-- From behind, not a token less than there. -/
def InV {α : Type} (V : List Tok) : Res α → Prop
  | .ok _ t => Lst t ∧ ∃ pre, V = pre ++ t.ts
  | .err e a => (e = 50 ∨ e = 51) ∧ ∃ t ∈ V, t.at_ = a ∧ (e = 51 → t.kind ≠ 4)
def InS {α : Type} (V : List Tok) : Res α → Prop
  | .ok _ t => Lst t ∧ ∃ pre, V = pre ++ t.ts ∧ t.ts.length < V.length
  | .err e a => (e = 50 ∨ e = 51) ∧ ∃ t ∈ V, t.at_ = a ∧ (e = 51 → t.kind ≠ 4)
theorem InS.in {α : Type} {V : List Tok} {r : Res α} (h : InS V r) : InV V r := by
  cases r with
  | ok a t => obtain ⟨h1, p, h2, _⟩ := h; exact ⟨h1, p, h2⟩
  | err e a => exact h
theorem SubAt.inV {α : Type} {s : Ps} {V : List Tok} {r : Res α} (h : SubAt s r) (e : s.ts = V) : InV V r := by
  subst e
  cases r with
  | ok a t => exact h
  | err e a => exact h
theorem SubLt.inS {α : Type} {s : Ps} {V : List Tok} {r : Res α} (h : SubLt s r) (e : s.ts = V) : InS V r := by
  subst e
  cases r with
  | ok a t => obtain ⟨h1, ⟨p, hp⟩, h2⟩ := h; exact ⟨h1, p, hp, h2⟩
  | err e a => exact h
inductive Out {α : Type} (c : Cx) (W : α → α → Prop) (I : List Tok → Res α → Prop) (x x' : Res α) : Prop where
  | both (a a' : α) (t t' : Ps) (h : x = .ok a t) (h' : x' = .ok a' t') (w : W a a') (r : Rel c t t')
  | fail (e : Int) (p : Nat) (h : x = .err e p) (h' : x' = .err e (c.φ p))
  | past (h : I c.V x) (h' : I c.V' x')
def EqU : Unit → Unit → Prop := fun _ _ => True
abbrev OutU (c : Cx) := @Out Unit c EqU InV
abbrev OutS (c : Cx) := @Out Unit c EqU InS
theorem OutS.u {c : Cx} {x x' : Res Unit} (h : OutS c x x') : OutU c x x' := by
  cases h with
  | both a a' t t' h h' w r => exact .both a a' t t' h h' w r
  | fail e p h h' => exact .fail e p h h'
  | past h h' => exact .past h.in h'.in
theorem InV.bind {α β : Type} {V : List Tok} {x : Res α} {f : α → Ps → Res β} (h : InV V x) (k : ∀ a t, x = .ok a t → Lst t → SubAt t (f a t)) : InV V (x.bind f) := by
  cases x with
  | ok a t =>
    obtain ⟨h1, p, h2⟩ := h
    have := k a t rfl h1
    show InV V (f a t)
    cases hr : f a t with
    | ok b u =>
      rw [hr] at this
      obtain ⟨q, hq⟩ := this.2
      exact ⟨this.1, p ++ q, by rw [h2, hq, List.append_assoc]⟩
    | err e q =>
      rw [hr] at this
      obtain ⟨he, u, hu, hua⟩ := this
      exact ⟨he, u, by rw [h2]; exact List.mem_append_right _ hu, hua⟩
  | err e a => exact h
theorem InV.bindS {α β : Type} {V : List Tok} {x : Res α} {f : α → Ps → Res β} (h : InV V x) (k : ∀ a t, x = .ok a t → Lst t → SubLt t (f a t)) : InS V (x.bind f) := by
  cases x with
  | ok a t =>
    obtain ⟨h1, p, h2⟩ := h
    have := k a t rfl h1
    show InS V (f a t)
    cases hr : f a t with
    | ok b u =>
      rw [hr] at this
      obtain ⟨l1, ⟨q, hq⟩, l2⟩ := this
      exact ⟨l1, p ++ q, by rw [h2, hq, List.append_assoc], by rw [h2, List.length_append]; omega⟩
    | err e q =>
      rw [hr] at this
      obtain ⟨he, u, hu, hua⟩ := this
      exact ⟨he, u, by rw [h2]; exact List.mem_append_right _ hu, hua⟩
  | err e a => exact h
theorem InS.bind {α β : Type} {V : List Tok} {x : Res α} {f : α → Ps → Res β} (h : InS V x) (k : ∀ a t, x = .ok a t → Lst t → SubAt t (f a t)) : InS V (x.bind f) := by
  cases x with
  | ok a t =>
    obtain ⟨h1, p, h2, h3⟩ := h
    have := k a t rfl h1
    show InS V (f a t)
    cases hr : f a t with
    | ok b u =>
      rw [hr] at this
      obtain ⟨l1, q, hq⟩ := this
      have hl : u.ts.length ≤ t.ts.length := by rw [hq, List.length_append]; omega
      exact ⟨l1, p ++ q, by rw [h2, hq, List.append_assoc], by omega⟩
    | err e q =>
      rw [hr] at this
      obtain ⟨he, u, hu, hua⟩ := this
      exact ⟨he, u, by rw [h2]; exact List.mem_append_right _ hu, hua⟩
  | err e a => exact h
theorem Out.bind {α β : Type} {c : Cx} {W : α → α → Prop} {W2 : β → β → Prop} {x x' : Res α} {f f' : α → Ps → Res β} (h : Out c W InV x x') (k : ∀ a a' t t', x = .ok a t → x' = .ok a' t' → W a a' → Rel c t t' → Out c W2 InV (f a t) (f' a' t'))
    (s1 : ∀ a t, x = .ok a t → Lst t → SubAt t (f a t)) (s2 : ∀ a t, x' = .ok a t → Lst t → SubAt t (f' a t)) : Out c W2 InV (x.bind f) (x'.bind f') := by
  cases h with
  | both a a' t t' h h' w r => subst h h'; exact k a a' t t' rfl rfl w r
  | fail e p h h' => subst h h'; exact .fail e p rfl rfl
  | past h h' => exact .past (h.bind s1) (h'.bind s2)
/-- .. if the second reading takes a token at least. -/
theorem Out.bindS {α β : Type} {c : Cx} {W : α → α → Prop} {W2 : β → β → Prop} {x x' : Res α} {f f' : α → Ps → Res β} (h : Out c W InV x x') (k : ∀ a a' t t', x = .ok a t → x' = .ok a' t' → W a a' → Rel c t t' → Out c W2 InS (f a t) (f' a' t'))
    (s1 : ∀ a t, x = .ok a t → Lst t → SubLt t (f a t)) (s2 : ∀ a t, x' = .ok a t → Lst t → SubLt t (f' a t)) : Out c W2 InS (x.bind f) (x'.bind f') := by
  cases h with
  | both a a' t t' h h' w r => subst h h'; exact k a a' t t' rfl rfl w r
  | fail e p h h' => subst h h'; exact .fail e p rfl rfl
  | past h h' => exact .past (h.bindS s1) (h'.bindS s2)
theorem Out.inV {α : Type} {c : Cx} {W : α → α → Prop} {x x' : Res α} (h : Out c W InS x x') : Out c W InV x x' := by
  cases h with
  | both a a' t t' h h' w r => exact .both a a' t t' h h' w r
  | fail e p h h' => exact .fail e p h h'
  | past h h' => exact .past h.in h'.in
/-! ### Heads and steps -/
/-- Tokens are left on this side of the seam, or none. -/
theorem Rel.cut {c : Cx} {s s' : Ps} (h : Rel c s s') : (s.ts = c.V ∧ s'.ts = c.V') ∨ (Tw c s.hd s'.hd ∧ (s.hd.kind ≠ 4 → Rel c s.adv s'.adv)) := by
  obtain ⟨r, r', h1, h2, h3⟩ := h.toks
  cases h3 with
  | nil => exact .inl ⟨h1, h2⟩
  | cons ht hr =>
    rename_i t t' r r'
    have e1 : s.hd = t := by unfold Ps.hd; rw [h1]; rfl
    have e2 : s'.hd = t' := by unfold Ps.hd; rw [h2]; rfl
    refine .inr ⟨by rw [e1, e2]; exact ht, fun hk => ⟨⟨r, r', ?_, ?_, hr⟩, h.ne, h.nd, h.deep, h.lst.adv hk, h.lst'.adv (by rw [e2, ht.1, ← e1]; exact hk)⟩⟩
    · show s.ts.tail = _; rw [h1]; rfl
    · show s'.ts.tail = _; rw [h2]; rfl
theorem Tw.isP {c : Cx} {s s' : Ps} (h : Tw c s.hd s'.hd) (t : Bs) : isP t s' = isP t s := by unfold Proofs.YtcccnicldbpieaaGreatDoor.isP; rw [h.1, h.2.1]
theorem Rel.nds {c : Cx} {s s' t t' : Ps} (h : Rel c s s') (e1 : t.ts = s.ts) (e2 : t'.ts = s'.ts) (hn : t.nd ≠ []) (he : t'.nd = c.emb t.nd) (hd : t'.deep = t.deep) : Rel c t t' :=
  ⟨by rw [e1, e2]; exact h.toks, hn, he, hd, h.lst.of e1, h.lst'.of e2⟩
theorem on_ne {s : Ps} {i : Nat} {f : Nd → Nd} (h : s.nd ≠ []) : (s.on i f).nd ≠ [] := by
  intro e
  have := congrArg List.length e
  rw [on_len] at this
  exact h (List.eq_nil_of_length_eq_zero (by simpa using this))
theorem Rel.text {c : Cx} {s s' : Ps} (h : Rel c s s') (i : Nat) (hi : i ≠ 0) (t : Bs) : Rel c (s.text i t) (s'.text (c.ι i) t) :=
  h.nds rfl rfl (on_ne h.ne) (by show s'.nd.modify _ _ = _; rw [h.nd]; exact (c.emb_on (fun n => { n with text := t }) (fun n => { n with text := t }) i (fun h => absurd h hi) (fun _ => rfl) s.nd).symm) h.deep
theorem Rel.num {c : Cx} {s s' : Ps} (h : Rel c s s') (i : Nat) (hi : i ≠ 0) (x : Int) : Rel c (s.num i x) (s'.num (c.ι i) x) :=
  h.nds rfl rfl (on_ne h.ne) (by show s'.nd.modify _ _ = _; rw [h.nd]; exact (c.emb_on (fun n => { n with num := x }) (fun n => { n with num := x }) i (fun h => absurd h hi) (fun _ => rfl) s.nd).symm) h.deep
theorem Rel.kind {c : Cx} {s s' : Ps} (h : Rel c s s') (i k : Nat) (hi : i ≠ 0) : Rel c (s.kind i k) (s'.kind (c.ι i) k) :=
  h.nds rfl rfl (on_ne h.ne) (by show s'.nd.modify _ _ = _; rw [h.nd]; exact (c.emb_on (fun n => { n with kind := k }) (fun n => { n with kind := k }) i (fun h => absurd h hi) (fun _ => rfl) s.nd).symm) h.deep
theorem Rel.len {c : Cx} {s s' : Ps} (h : Rel c s s') : s'.nd.length = c.ι s.nd.length := by rw [h.nd, c.emb_len h.ne]
theorem Rel.kid {c : Cx} {s s' : Ps} (h : Rel c s s') (i : Nat) : Rel c (s.kid i) (s'.kid (c.ι i)) :=
  h.nds rfl rfl (on_ne h.ne) (by
    show s'.nd.modify (c.ι i) (fun n => { n with kids := n.kids ++ [s'.nd.length] }) = c.emb (s.nd.modify i fun n => { n with kids := n.kids ++ [s.nd.length] })
    rw [h.len, h.nd]
    exact (c.emb_on (fun n => { n with kids := n.kids ++ [s.nd.length] }) (fun n => { n with kids := n.kids ++ [c.ι s.nd.length] }) i (fun _ r => by simp) (fun n => by simp [Cx.mv]) s.nd).symm) h.deep
theorem Rel.add {c : Cx} {s s' : Ps} (h : Rel c s s') (x : Nd) : Rel c (s.add x) (s'.add (c.mv x)) :=
  h.nds rfl rfl (by show s.nd ++ [x] ≠ []; simp) (by show s'.nd ++ [c.mv x] = c.emb (s.nd ++ [x]); rw [h.nd, c.emb_add h.ne]) h.deep
theorem Rel.setDeep {c : Cx} {s s' : Ps} (h : Rel c s s') (d : Nat) : Rel c { s with deep := d } { s' with deep := d } := h.nds rfl rfl h.ne h.nd rfl
theorem Rel.top {c : Cx} {s s' : Ps} (h : Rel c s s') : s.nd.length ≠ 0 := fun e => h.ne (List.eq_nil_of_length_eq_zero e)
/-- A kid's node, where the place is known to stand so. -/
theorem Rel.kidNode {c : Cx} {s s' : Ps} (h : Rel c s s') (hat : s'.hd.at_ = c.φ s.hd.at_) (i k : Nat) : Rel c (s.kidNode i k) (s'.kidNode (c.ι i) k) := by
  have := (h.kid i).add ⟨k, s.hd.at_, [], 0, []⟩
  have e : c.mv ⟨k, s.hd.at_, [], 0, []⟩ = ⟨k, s'.hd.at_, [], 0, []⟩ := by unfold Cx.mv; rw [hat]; rfl
  rw [e] at this
  exact this
end Go.Proofs.YtcccnicldbpieaaGreatDoor
