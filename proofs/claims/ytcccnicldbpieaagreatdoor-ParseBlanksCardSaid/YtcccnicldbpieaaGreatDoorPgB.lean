/- Two readings side by side: tokens, names, expressions, rows, statements, programs. No condition. -/
import Derived.Test.YtcccnicldbpieaaGreatDoorPgA
namespace Go.Proofs.YtcccnicldbpieaaGreatDoor
set_option linter.unusedVariables false
set_option linter.unusedSimpArgs false
/-- .. if the first reading takes a token at least. -/
theorem Out.bindF {α β : Type} {c : Cx} {W : α → α → Prop} {W2 : β → β → Prop} {x x' : Res α} {f f' : α → Ps → Res β} (h : Out c W InS x x') (k : ∀ a a' t t', x = .ok a t → x' = .ok a' t' → W a a' → Rel c t t' → Out c W2 InS (f a t) (f' a' t'))
    (s1 : ∀ a t, x = .ok a t → Lst t → SubAt t (f a t)) (s2 : ∀ a t, x' = .ok a t → Lst t → SubAt t (f' a t)) : Out c W2 InS (x.bind f) (x'.bind f') := by
  cases h with
  | both a a' t t' h h' w r => subst h h'; exact k a a' t t' rfl rfl w r
  | fail e p h h' => subst h h'; exact .fail e p rfl rfl
  | past h h' => exact .past (h.bind s1) (h'.bind s2)
theorem Out.okU {c : Cx} {I : List Tok → Res Unit → Prop} {t t' : Ps} (h : Rel c t t') : Out c EqU I (.ok () t) (.ok () t') := .both () () t t' rfl rfl trivial h
variable {c : Cx}
theorem go_take (t : Bs) {s s' : Ps} (h : Rel c s s') : OutS c (takeP t s) (takeP t s') := by
  rcases h.cut with ⟨e1, e2⟩ | ⟨ht, ha⟩
  · exact .past ((sub_take t h.lst).inS e1) ((sub_take t h.lst').inS e2)
  · unfold takeP
    rw [ht.isP t, ht.2.2.2]
    split
    · rename_i hi
      exact .okU (ha (isP_kind hi).1)
    · exact .fail 50 _ rfl rfl
theorem go_of (k : Nat) (hk : k ≠ 4) {s s' : Ps} (h : Rel c s s') : Out c (Tw c) InS (ofP k s) (ofP k s') := by
  rcases h.cut with ⟨e1, e2⟩ | ⟨ht, ha⟩
  · exact .past ((sub_of k hk h.lst).inS e1) ((sub_of k hk h.lst').inS e2)
  · unfold ofP
    rw [ht.1, ht.2.2.2]
    split
    · rename_i hi
      exact .both _ _ _ _ rfl rfl ht (ha (by rw [hi]; exact hk))
    · exact .fail 50 _ rfl rfl
theorem go_named (i : Nat) (hi : i ≠ 0) {s s' : Ps} (h : Rel c s s') : OutS c (namedP i s) (namedP (c.ι i) s') :=
  (go_of 1 (by decide) h).bindF (fun a a' t t' _ _ w r => by rw [w.2.1]; exact .okU (r.text i hi a.text)) (fun a t _ l => sub_same l rfl) (fun a t _ l => sub_same l rfl)
theorem go_numAt (i : Nat) (hi : i ≠ 0) {s s' : Ps} (h : Rel c s s') : OutS c (numAtP i s) (numAtP (c.ι i) s') :=
  (go_of 2 (by decide) h).bindF (fun a a' t t' _ _ w r => by rw [w.2.2.1]; exact .okU (r.num i hi a.n)) (fun a t _ l => sub_same l rfl) (fun a t _ l => sub_same l rfl)
theorem go_word (i : Nat) {s s' : Ps} (h : Rel c s s') : OutS c (wordP i s) (wordP (c.ι i) s') := by
  rcases h.cut with ⟨e1, e2⟩ | ⟨ht, ha⟩
  · exact .past ((sub_word i h.lst).inS e1) ((sub_word _ h.lst').inS e2)
  · have := go_named s.nd.length h.top (h.kidNode ht.2.2.2 i 5)
    rw [← h.len] at this
    exact this
theorem go_number (i : Nat) {s s' : Ps} (h : Rel c s s') : OutS c (numberP i s) (numberP (c.ι i) s') := by
  rcases h.cut with ⟨e1, e2⟩ | ⟨ht, ha⟩
  · exact .past ((sub_number i h.lst).inS e1) ((sub_number _ h.lst').inS e2)
  · have := go_numAt s.nd.length h.top (h.kidNode ht.2.2.2 i 21)
    rw [← h.len] at this
    exact this
theorem Rel.deeper {s s' : Ps} (h : Rel c s.adv s'.adv) (hd : s'.deep = s.deep) : Rel c { s.adv with deep := s.deep + 1 } { s'.adv with deep := s'.deep + 1 } := by
  rw [hd]
  exact h.setDeep (s.deep + 1)
theorem Rel.higher {s s' : Ps} (h : Rel c s s') : Rel c { s with deep := s.deep - 1 } { s' with deep := s'.deep - 1 } := by
  rw [h.deep]
  exact h.setDeep (s.deep - 1)
theorem go_within {α : Type} {W : α → α → Prop} (a z : Bs) (hz : z ≠ []) {body body' : Pm α} {s s' : Ps} (h : Rel c s s') (hb : ∀ t t', Rel c t t' → t.ts.length < s.ts.length → t'.ts.length < s'.ts.length → Out c W InV (body t) (body' t'))
    (h1 : ∀ t, Lst t → t.ts.length < s.ts.length → SubAt t (body t)) (h2 : ∀ t, Lst t → t.ts.length < s'.ts.length → SubAt t (body' t)) : Out c W InS (withinP a z body s) (withinP a z body' s') := by
  rcases h.cut with ⟨e1, e2⟩ | ⟨ht, ha⟩
  · exact .past ((sub_within a z h.lst h1).inS e1) ((sub_within a z h.lst' h2).inS e2)
  · unfold withinP
    rw [ht.isP a, ht.2.2.2, h.deep]
    split
    · rename_i hi
      split
      · exact .fail 51 _ rfl rfl
      · have hk := (isP_kind hi).1
        have hr := (ha hk).deeper h.deep
        rw [h.deep] at hr
        have hl := h.lst.len hk
        have hl' := h.lst'.len (by rw [ht.1]; exact hk)
        refine (hb _ _ hr hl hl').bindS (fun x x' t t' _ _ w r => ?_) (fun x t _ l => ?_) (fun x t _ l => ?_)
        · exact (go_take z r).bindF (fun _ _ u u' _ _ _ r => .both _ _ _ _ rfl rfl w r.higher) (fun _ _ _ l => sub_same l rfl) (fun _ _ _ l => sub_same l rfl)
        · exact (sub_take z l).bind fun _ _ _ l _ => sub_same l rfl
        · exact (sub_take z l).bind fun _ _ _ l _ => sub_same l rfl
    · exact .fail 50 _ rfl rfl
theorem go_within0 {α : Type} {W : α → α → Prop} (a : Bs) {body body' : Pm α} {s s' : Ps} (h : Rel c s s') (hb : ∀ t t', Rel c t t' → t.ts.length < s.ts.length → t'.ts.length < s'.ts.length → Out c W InV (body t) (body' t'))
    (h1 : ∀ t, Lst t → t.ts.length < s.ts.length → SubAt t (body t)) (h2 : ∀ t, Lst t → t.ts.length < s'.ts.length → SubAt t (body' t)) : Out c W InV (withinP a [] body s) (withinP a [] body' s') := by
  rcases h.cut with ⟨e1, e2⟩ | ⟨ht, ha⟩
  · exact .past ((sub_within a [] h.lst h1).inS e1).in ((sub_within a [] h.lst' h2).inS e2).in
  · unfold withinP
    rw [ht.isP a, ht.2.2.2, h.deep]
    split
    · rename_i hi
      split
      · exact .fail 51 _ rfl rfl
      · have hk := (isP_kind hi).1
        have hr := (ha hk).deeper h.deep
        rw [h.deep] at hr
        have hl := h.lst.len hk
        have hl' := h.lst'.len (by rw [ht.1]; exact hk)
        refine (hb _ _ hr hl hl').bind (fun x x' t t' _ _ w r => ?_) (fun x t _ l => ?_) (fun x t _ l => ?_)
        · rw [if_pos rfl, if_pos rfl]
          exact .both _ _ _ _ rfl rfl w r.higher
        · rw [if_pos rfl]; exact sub_same l rfl
        · rw [if_pos rfl]; exact sub_same l rfl
    · exact .fail 50 _ rfl rfl
/-! ### Expressions -/
def Cx.mvE (c : Cx) : Ex → Ex
  | .leaf k p t n => .leaf k (c.φ p) t n
  | .neg p a => .neg (c.φ p) (c.mvE a)
  | .bin k p a b => .bin k (c.φ p) (c.mvE a) (c.mvE b)
theorem mvE_pos (c : Cx) (e : Ex) : (c.mvE e).pos = c.φ e.pos := by cases e <;> rfl
abbrev WE (c : Cx) (a a' : Ex) : Prop := a' = c.mvE a
theorem mark_same {ms : List (Bs × Nat)} {s s' : Ps} (ht : Tw c s.hd s'.hd) : markM ms s' = markM ms s := by
  unfold markM
  congr 2
  funext m
  exact ht.isP m.1
theorem go_loop {ms : List (Bs × Nat)} {part part' : Pm Ex} (n n' : Nat) (hp : ∀ t t', Rel c t t' → t.ts.length ≤ n → t'.ts.length ≤ n' → Out c (WE c) InV (part t) (part' t'))
    (h1 : ∀ t, Lst t → t.ts.length ≤ n → SubAt t (part t)) (h2 : ∀ t, Lst t → t.ts.length ≤ n' → SubAt t (part' t)) : ∀ (f f' : Nat) (e : Ex) (t t' : Ps), Rel c t t' → t.ts.length ≤ n → t'.ts.length ≤ n' → t.ts.length < f → t'.ts.length < f' → Out c (WE c) InV (chainL ms part f e t) (chainL ms part' f' (c.mvE e) t')
  | 0, _, _, _, _, _, _, _, h, _ => absurd h (by omega)
  | _, 0, _, _, _, _, _, _, _, h => absurd h (by omega)
  | f + 1, f' + 1, e, t, t', r, l1, l2, l3, l4 => by
    rcases r.cut with ⟨e1, e2⟩ | ⟨ht, ha⟩
    · exact .past ((sub_loop n h1 _ e t r.lst l1 l3).inV e1) ((sub_loop n' h2 _ _ t' r.lst' l2 l4).inV e2)
    · cases hm : markM ms t with
      | none => rw [chainL, chainL, mark_same ht, hm]; exact .both _ _ _ _ rfl rfl rfl r
      | some k =>
        have hk := markM_kind hm
        have q1 := r.lst.len hk
        have q2 := r.lst'.len (by rw [ht.1]; exact hk)
        rw [chainL, chainL, mark_same ht, hm]
        refine (hp _ _ (ha hk) (by omega) (by omega)).bind (fun x x' u u' hx hx' w ru => ?_) (fun x u hx l => ?_) (fun x u hx l => ?_)
        · have b1 := h1 _ (ha hk).lst (by omega)
          have b2 := h2 _ (ha hk).lst' (by omega)
          rw [hx] at b1
          rw [hx'] at b2
          have c1 := b1.2.len
          have c2 := b2.2.len
          have := go_loop (ms := ms) n n' hp h1 h2 f f' (.bin k e.pos e x) u u' ru (by omega) (by omega) (by omega) (by omega)
          rw [w, mvE_pos]
          exact this
        · have b1 := h1 _ (ha hk).lst (by omega)
          rw [hx] at b1
          have c1 := b1.2.len
          exact sub_loop n h1 f _ u l (by omega) (by omega)
        · have b2 := h2 _ (ha hk).lst' (by omega)
          rw [hx] at b2
          have c2 := b2.2.len
          exact sub_loop n' h2 f' _ u l (by omega) (by omega)
theorem go_chain {ms : List (Bs × Nat)} {part part' : Pm Ex} (n n' : Nat) (hp : ∀ t t', Rel c t t' → t.ts.length ≤ n → t'.ts.length ≤ n' → Out c (WE c) InV (part t) (part' t'))
    (h1 : ∀ t, Lst t → t.ts.length ≤ n → SubAt t (part t)) (h2 : ∀ t, Lst t → t.ts.length ≤ n' → SubAt t (part' t)) {s s' : Ps} (r : Rel c s s') (l1 : s.ts.length ≤ n) (l2 : s'.ts.length ≤ n') : Out c (WE c) InV (chainP ms part s) (chainP ms part' s') := by
  have b1 := h1 s r.lst l1
  have b2 := h2 s' r.lst' l2
  refine (hp s s' r l1 l2).bind (fun x x' u u' hx hx' w ru => ?_) (fun x u hx l => ?_) (fun x u hx l => ?_)
  · rw [hx] at b1
    rw [hx'] at b2
    have c1 := b1.2.len
    have c2 := b2.2.len
    rw [w]
    exact go_loop n n' hp h1 h2 _ _ x u u' ru (by omega) (by omega) (Nat.lt_succ_self _) (Nat.lt_succ_self _)
  · rw [hx] at b1
    have c1 := b1.2.len
    exact sub_loop n h1 _ _ u l (by omega) (Nat.lt_succ_self _)
  · rw [hx] at b2
    have c2 := b2.2.len
    exact sub_loop n' h2 _ _ u l (by omega) (Nat.lt_succ_self _)
theorem go_sumOf {part part' : Pm Ex} (n n' : Nat) (hp : ∀ t t', Rel c t t' → t.ts.length ≤ n → t'.ts.length ≤ n' → Out c (WE c) InV (part t) (part' t'))
    (h1 : ∀ t, Lst t → t.ts.length ≤ n → SubAt t (part t)) (h2 : ∀ t, Lst t → t.ts.length ≤ n' → SubAt t (part' t)) {s s' : Ps} (r : Rel c s s') (l1 : s.ts.length ≤ n) (l2 : s'.ts.length ≤ n') : Out c (WE c) InV (sumOf part s) (sumOf part' s') :=
  go_chain n n' (fun t t' r l1 l2 => go_chain n n' hp h1 h2 r l1 l2) (fun t g ht => sub_chain n h1 g ht) (fun t g ht => sub_chain n' h2 g ht) r l1 l2
theorem go_factor : ∀ (f f' : Nat) (s s' : Ps), Rel c s s' → s.ts.length ≤ f → s'.ts.length ≤ f' → Out c (WE c) InV (factorP f s) (factorP f' s')
  | 0, _, s, _, r, l1, _ => absurd r.lst.pos (by omega)
  | _, 0, _, s', r, _, l2 => absurd r.lst'.pos (by omega)
  | f + 1, f' + 1, s, s', r, l1, l2 => by
    rcases r.cut with ⟨e1, e2⟩ | ⟨ht, ha⟩
    · exact .past ((sub_factor _ s r.lst l1).inV e1) ((sub_factor _ s' r.lst' l2).inV e2)
    · rw [factorP, factorP, ht.1, ht.isP [45], ht.2.1, ht.2.2.1, ht.2.2.2]
      split
      · rename_i hk
        exact .both _ _ _ _ rfl rfl rfl (ha (by omega))
      · split
        · rename_i hk
          exact .both _ _ _ _ rfl rfl rfl (ha (by omega))
        · split
          · refine (go_within0 [45] r (fun t t' rt q1 q2 => go_factor f f' t t' rt (by omega) (by omega)) (fun t l q => sub_factor f t l (by omega)) (fun t l q => sub_factor f' t l (by omega))).bind (fun x x' u u' _ _ w ru => ?_) (fun x u _ l => sub_same l rfl) (fun x u _ l => sub_same l rfl)
            exact .both _ _ _ _ rfl rfl (by rw [w]; rfl) ru
          · exact (go_within [40] [41] (by decide) r (fun t t' rt q1 q2 => go_sumOf f f' (fun t t' rt a b => go_factor f f' t t' rt a b) (fun t l q => sub_factor f t l q) (fun t l q => sub_factor f' t l q) rt (by omega) (by omega)) (fun t l q => sub_sum f (fun t l q => sub_factor f t l q) l (by omega)) (fun t l q => sub_sum f' (fun t l q => sub_factor f' t l q) l (by omega))).inV
theorem go_sumP {s s' : Ps} (r : Rel c s s') : Out c (WE c) InV (sumP s) (sumP s') :=
  go_sumOf _ _ (fun t t' rt a b => go_factor _ _ t t' rt a b) (fun t l q => sub_factor _ t l q) (fun t l q => sub_factor _ t l q) r (Nat.le_refl _) (Nat.le_refl _)
theorem go_put : ∀ (e : Ex) (i : Nat) (s s' : Ps), Rel c s s' → Rel c (putP i e s) (putP (c.ι i) (c.mvE e) s')
  | .leaf k p t n, i, s, s', r => (r.kid i).add ⟨k, p, t, n, []⟩
  | .neg p a, i, s, s', r => by
    have := go_put a s.nd.length _ _ ((r.kid i).add ⟨26, p, [], 0, []⟩)
    rw [← r.len] at this
    exact this
  | .bin k p a b, i, s, s', r => by
    have h1 := go_put a s.nd.length _ _ ((r.kid i).add ⟨k, p, [], 0, []⟩)
    have h2 := go_put b s.nd.length _ _ h1
    rw [← r.len] at h2
    exact h2
theorem go_expr (i : Nat) {s s' : Ps} (r : Rel c s s') : OutU c (exprP i s) (exprP (c.ι i) s') :=
  (go_sumP r).bind (fun x x' t t' _ _ w rt => by rw [w]; exact .okU (go_put x i t t' rt)) (fun x t _ l => sub_same l (put_len x i t).2.1) (fun x t _ l => sub_same l (put_len x _ t).2.1)
end Go.Proofs.YtcccnicldbpieaaGreatDoor
