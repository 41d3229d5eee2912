/- Two readings side by side: rows, statements, blocks, programs. No condition. -/
import Derived.Test.YtcccnicldbpieaaGreatDoorPgB
namespace Go.Proofs.YtcccnicldbpieaaGreatDoor
set_option linter.unusedVariables false
set_option linter.unusedSimpArgs false
variable {c : Cx}
/-- A node ahead, then something that is read. -/
theorem go_kidNode {I : List Tok → Res Unit → Prop} {m m' : Pm Unit} {s s' : Ps} (i k : Nat) (r : Rel c s s') (h : ∀ t t', Rel c t t' → t.ts = s.ts → t'.ts = s'.ts → Out c EqU I (m t) (m' t'))
    (h1 : s.ts = c.V → I c.V (m (s.kidNode i k))) (h2 : s'.ts = c.V' → I c.V' (m' (s'.kidNode (c.ι i) k))) : Out c EqU I (m (s.kidNode i k)) (m' (s'.kidNode (c.ι i) k)) := by
  rcases r.cut with ⟨e1, e2⟩ | ⟨ht, ha⟩
  · exact .past (h1 e1) (h2 e2)
  · exact h _ _ (r.kidNode ht.2.2.2 i k) rfl rfl
theorem go_more {one one' : Pm Unit} (h : ∀ s s', Rel c s s' → OutU c (one s) (one' s')) (h1 : ∀ s, Lst s → SubAt s (one s)) (h2 : ∀ s, Lst s → SubAt s (one' s)) : ∀ (f f' : Nat) (s s' : Ps), Rel c s s' → s.ts.length < f → s'.ts.length < f' → OutU c (moreP one f s) (moreP one' f' s')
  | 0, _, _, _, _, l, _ => absurd l (by omega)
  | _, 0, _, _, _, _, l => absurd l (by omega)
  | f + 1, f' + 1, s, s', r, l1, l2 => by
    rcases r.cut with ⟨e1, e2⟩ | ⟨ht, ha⟩
    · exact .past ((sub_more h1 _ s r.lst l1).inV e1) ((sub_more h2 _ s' r.lst' l2).inV e2)
    · rw [moreP, moreP, ht.isP [44]]
      split
      · rename_i hi
        have hk := (isP_kind hi).1
        have q1 := r.lst.len hk
        have q2 := r.lst'.len (by rw [ht.1]; exact hk)
        have b1 := h1 _ (ha hk).lst
        have b2 := h2 _ (ha hk).lst'
        refine (h _ _ (ha hk)).bind (fun x x' u u' hx hx' w ru => ?_) (fun x u hx l => ?_) (fun x u hx l => ?_)
        · rw [hx] at b1
          rw [hx'] at b2
          have c1 := b1.2.len
          have c2 := b2.2.len
          exact go_more h h1 h2 f f' u u' ru (by omega) (by omega)
        · rw [hx] at b1
          have c1 := b1.2.len
          exact sub_more h1 f u l (by omega)
        · rw [hx] at b2
          have c2 := b2.2.len
          exact sub_more h2 f' u l (by omega)
      · exact .okU r
theorem go_list {one one' : Pm Unit} (h : ∀ s s', Rel c s s' → OutU c (one s) (one' s')) (h1 : ∀ s, Lst s → SubAt s (one s)) (h2 : ∀ s, Lst s → SubAt s (one' s)) {s s' : Ps} (r : Rel c s s') : OutU c (listP one s) (listP one' s') :=
  (h s s' r).bind (fun x x' u u' _ _ w ru => go_more h h1 h2 _ _ u u' ru (Nat.lt_succ_self _) (Nat.lt_succ_self _)) (fun x u _ l => sub_more h1 _ u l (Nat.lt_succ_self _)) (fun x u _ l => sub_more h2 _ u l (Nat.lt_succ_self _))
theorem go_key (i : Nat) {s s' : Ps} (r : Rel c s s') : OutS c (keyP i s) (keyP (c.ι i) s') :=
  go_within [91] [93] (by decide) r (fun t t' rt _ _ => go_expr i rt) (fun t l _ => sub_expr i l) (fun t l _ => sub_expr _ l)
theorem go_row (i : Nat) {s s' : Ps} (r : Rel c s s') : OutU c (rowP i s) (rowP (c.ι i) s') := by
  rcases r.cut with ⟨e1, e2⟩ | ⟨ht, ha⟩
  · exact .past ((sub_row i r.lst).inV e1) ((sub_row _ r.lst').inV e2)
  · have h := (go_named s.nd.length r.top (r.kidNode ht.2.2.2 i 20)).bindF (f := fun _ t => keyP s.nd.length t) (f' := fun _ t => keyP (c.ι s.nd.length) t) (W2 := EqU) (fun _ _ u u' _ _ _ ru => go_key s.nd.length ru) (fun _ u _ l => (sub_key _ l).at) (fun _ u _ l => (sub_key _ l).at)
    rw [← r.len] at h
    exact h.inV
theorem go_cell (i : Nat) {s s' : Ps} (r : Rel c s s') : OutU c (cellP i s) (cellP (c.ι i) s') :=
  (go_row i r).bind (fun _ _ u u' _ _ _ ru => (go_take _ ru).inV.bind (fun _ _ u u' _ _ _ ru => (go_word i ru).inV) (fun _ u _ l => (sub_word i l).at) (fun _ u _ l => (sub_word _ l).at)) (fun _ u _ l => (sub_take _ l).at.bind fun _ u _ l _ => (sub_word i l).at) (fun _ u _ l => (sub_take _ l).at.bind fun _ u _ l _ => (sub_word _ l).at)
theorem tail_read (i : Nat) {t : Ps} (ht : Lst t) : SubAt t (if isP [102, 111, 114] t = true then (takeP [117, 112, 100, 97, 116, 101] t.adv).bind fun _ s => .ok () (s.num i 1) else .ok () t) := by
  split
  · rename_i hi
    exact SubAt.trans (Tl.adv t) ((sub_take _ (ht.adv (isP_kind hi).1)).at.bind fun _ u _ hu _ => sub_same hu rfl)
  · exact sub_same ht rfl
theorem go_read (i : Nat) (hn0 : i ≠ 0) {s s' : Ps} (r : Rel c s s') : OutU c (readP i s) (readP (c.ι i) s') :=
  (go_named i hn0 r).inV.bind (fun _ _ u u' _ _ _ ru => (go_take _ ru).inV.bind (fun _ _ u u' _ _ _ ru => (go_cell i ru).bind (fun _ _ u u' _ _ _ ru => by
    rcases ru.cut with ⟨e1, e2⟩ | ⟨ht, ha⟩
    · exact .past ((tail_read i ru.lst).inV e1) ((tail_read _ ru.lst').inV e2)
    · rw [ht.isP]
      split
      · rename_i hi
        exact (go_take _ (ha (isP_kind hi).1)).inV.bind (fun _ _ u u' _ _ _ ru => .okU (ru.num i hn0 1)) (fun _ u _ l => sub_same l rfl) (fun _ u _ l => sub_same l rfl)
      · exact .okU ru) (fun _ u _ l => tail_read i l) (fun _ u _ l => tail_read _ l)) (fun _ u _ l => (sub_cell i l).bind fun _ u _ l _ => tail_read i l) (fun _ u _ l => (sub_cell _ l).bind fun _ u _ l _ => tail_read _ l))
    (fun _ u _ l => (sub_take _ l).at.bind fun _ u _ l _ => (sub_cell i l).bind fun _ u _ l _ => tail_read i l) (fun _ u _ l => (sub_take _ l).at.bind fun _ u _ l _ => (sub_cell _ l).bind fun _ u _ l _ => tail_read _ l)
theorem go_set (i : Nat) {s s' : Ps} (r : Rel c s s') : OutU c (setP i s) (setP (c.ι i) s') :=
  (go_cell i r).bind (fun _ _ u u' _ _ _ ru => (go_take _ ru).inV.bind (fun _ _ u u' _ _ _ ru => go_expr i ru) (fun _ u _ l => sub_expr i l) (fun _ u _ l => sub_expr _ l)) (fun _ u _ l => (sub_take _ l).at.bind fun _ u _ l _ => sub_expr i l) (fun _ u _ l => (sub_take _ l).at.bind fun _ u _ l _ => sub_expr _ l)
theorem go_upsert (i : Nat) {s s' : Ps} (r : Rel c s s') : OutU c (upsertP i s) (upsertP (c.ι i) s') :=
  (go_row i r).bind (fun _ _ u u' _ _ _ ru => (go_take _ ru).inV.bind (fun _ _ u u' _ _ _ ru => (go_list (fun s s' r => go_expr i r) (fun s l => sub_expr i l) (fun s l => sub_expr _ l) ru).bind (fun _ _ u u' _ _ _ ru => (go_take _ ru).inV) (fun _ u _ l => (sub_take _ l).at) (fun _ u _ l => (sub_take _ l).at))
      (fun _ u _ l => (sub_list (fun s l => sub_expr i l) l).bind fun _ u _ l _ => (sub_take _ l).at) (fun _ u _ l => (sub_list (fun s l => sub_expr _ l) l).bind fun _ u _ l _ => (sub_take _ l).at))
    (fun _ u _ l => (sub_take _ l).at.bind fun _ u _ l _ => (sub_list (fun s l => sub_expr i l) l).bind fun _ u _ l _ => (sub_take _ l).at) (fun _ u _ l => (sub_take _ l).at.bind fun _ u _ l _ => (sub_list (fun s l => sub_expr _ l) l).bind fun _ u _ l _ => (sub_take _ l).at)
theorem go_scan (i : Nat) (hn0 : i ≠ 0) {s s' : Ps} (r : Rel c s s') : OutU c (scanP i s) (scanP (c.ι i) s') :=
  (go_named i hn0 r).inV.bind (fun _ _ u u' _ _ _ ru => (go_take _ ru).inV.bind (fun _ _ u u' _ _ _ ru => (go_word i ru).inV.bind (fun _ _ u u' _ _ _ ru => (go_take _ ru).inV.bind (fun _ _ u u' _ _ _ ru => (go_word i ru).inV) (fun _ u _ l => (sub_word _ l).at) (fun _ u _ l => (sub_word _ l).at))
        (fun _ u _ l => (sub_take _ l).at.bind fun _ u _ l _ => (sub_word _ l).at) (fun _ u _ l => (sub_take _ l).at.bind fun _ u _ l _ => (sub_word _ l).at))
      (fun _ u _ l => (sub_word _ l).at.bind fun _ u _ l _ => (sub_take _ l).at.bind fun _ u _ l _ => (sub_word _ l).at) (fun _ u _ l => (sub_word _ l).at.bind fun _ u _ l _ => (sub_take _ l).at.bind fun _ u _ l _ => (sub_word _ l).at))
    (fun _ u _ l => (sub_take _ l).at.bind fun _ u _ l _ => (sub_word _ l).at.bind fun _ u _ l _ => (sub_take _ l).at.bind fun _ u _ l _ => (sub_word _ l).at) (fun _ u _ l => (sub_take _ l).at.bind fun _ u _ l _ => (sub_word _ l).at.bind fun _ u _ l _ => (sub_take _ l).at.bind fun _ u _ l _ => (sub_word _ l).at)
theorem tail_lock (i : Nat) {t : Ps} (ht : Lst t) : SubAt t (if isP [97, 108, 108] t = true then .ok () (t.adv.num i 1) else takeP [115, 104, 97, 114, 101, 100] t) := by
  split
  · rename_i hi
    exact SubAt.trans (Tl.adv t) (sub_same (ht.adv (isP_kind hi).1) rfl)
  · exact (sub_take _ ht).at
theorem go_lock (i : Nat) (hn0 : i ≠ 0) {s s' : Ps} (r : Rel c s s') : OutU c (lockP i s) (lockP (c.ι i) s') :=
  (go_word i r).inV.bind (fun _ _ u u' _ _ _ ru => by
    rcases ru.cut with ⟨e1, e2⟩ | ⟨ht, ha⟩
    · exact .past ((tail_lock i ru.lst).inV e1) ((tail_lock _ ru.lst').inV e2)
    · rw [ht.isP]
      split
      · rename_i hi
        exact .okU ((ha (isP_kind hi).1).num i hn0 1)
      · exact (go_take _ ru).inV) (fun _ u _ l => tail_lock i l) (fun _ u _ l => tail_lock _ l)
theorem tail_release (n : Nat) {t : Ps} (ht : Lst t) : SubAt t (if isP [91] t = true then keyP n (t.kind n 20) else .ok () t) := by
  split
  · exact SubAt.of (s2 := t.kind n 20) rfl (sub_key _ (ht.of (t := t.kind n 20) rfl)).at
  · exact sub_same ht rfl
theorem go_release (i : Nat) {s s' : Ps} (r : Rel c s s') : OutU c (releaseP i s) (releaseP (c.ι i) s') := by
  rcases r.cut with ⟨e1, e2⟩ | ⟨ht, ha⟩
  · exact .past ((sub_release i r.lst).inV e1) ((sub_release _ r.lst').inV e2)
  · have h := (go_named s.nd.length r.top (r.kidNode ht.2.2.2 i 5)).inV.bind (f := fun _ t => if isP [91] t = true then keyP s.nd.length (t.kind s.nd.length 20) else .ok () t) (f' := fun _ t => if isP [91] t = true then keyP (c.ι s.nd.length) (t.kind (c.ι s.nd.length) 20) else .ok () t) (W2 := EqU) (fun _ _ u u' _ _ _ ru => by
      rcases ru.cut with ⟨e1, e2⟩ | ⟨ht, ha⟩
      · exact .past ((tail_release _ ru.lst).inV e1) ((tail_release _ ru.lst').inV e2)
      · rw [ht.isP]
        split
        · exact (go_key _ (ru.kind s.nd.length 20 r.top)).inV
        · exact .okU ru) (fun _ u _ l => tail_release _ l) (fun _ u _ l => tail_release _ l)
    rw [← r.len] at h
    exact h
theorem go_less (i : Nat) (hn0 : i ≠ 0) {s s' : Ps} (r : Rel c s s') : OutU c (lessP i s) (lessP (c.ι i) s') := by
  rcases r.cut with ⟨e1, e2⟩ | ⟨ht, ha⟩
  · exact .past ((sub_less i r.lst).inV e1) ((sub_less _ r.lst').inV e2)
  · unfold lessP
    rw [ht.isP]
    split
    · rename_i hi
      exact .okU ((ha (isP_kind hi).1).num i hn0 1)
    · exact (go_take _ r).inV
theorem go_let (i : Nat) (hn0 : i ≠ 0) {s s' : Ps} (r : Rel c s s') : OutU c (letP i s) (letP (c.ι i) s') :=
  (go_named i hn0 r).inV.bind (fun _ _ u u' _ _ _ ru => (go_take _ ru).inV.bind (fun _ _ u u' _ _ _ ru => go_expr i ru) (fun _ u _ l => sub_expr i l) (fun _ u _ l => sub_expr _ l)) (fun _ u _ l => (sub_take _ l).at.bind fun _ u _ l _ => sub_expr i l) (fun _ u _ l => (sub_take _ l).at.bind fun _ u _ l _ => sub_expr _ l)
/-! ### Blocks -/
structure GS (c : Cx) (n n' : Nat) (st st' : Nat → Pm Unit) : Prop where
  go : ∀ i s s', Rel c s s' → s.ts.length ≤ n → s'.ts.length ≤ n' → OutU c (st i s) (st' (c.ι i) s')
  s1 : SubS n st
  s2 : SubS n' st'
theorem go_until {n n' : Nat} {st st' : Nat → Pm Unit} (h : GS c n n' st st') (i : Nat) : ∀ (f f' : Nat) (s s' : Ps), Rel c s s' → s.ts.length ≤ n → s'.ts.length ≤ n' → s.ts.length < f → s'.ts.length < f' → OutU c (untilP st i f s) (untilP st' (c.ι i) f' s')
  | 0, _, _, _, _, _, _, l, _ => absurd l (by omega)
  | _, 0, _, _, _, _, _, _, l => absurd l (by omega)
  | f + 1, f' + 1, s, s', r, l1, l2, l3, l4 => by
    rcases r.cut with ⟨e1, e2⟩ | ⟨ht, ha⟩
    · exact .past ((sub_until h.s1 i _ s r.lst l1 l3).inV e1) ((sub_until h.s2 _ _ s' r.lst' l2 l4).inV e2)
    · rw [untilP, untilP, ht.isP]
      split
      · exact .okU r
      · have b1 := h.s1 i s r.lst l1
        have b2 := h.s2 (c.ι i) s' r.lst' l2
        refine (h.go i s s' r l1 l2).bind (fun x x' u u' hx hx' w ru => ?_) (fun x u hx l => ?_) (fun x u hx l => ?_)
        · rw [hx] at b1
          rw [hx'] at b2
          have c1 := b1.2.2
          have c2 := b2.2.2
          exact go_until h i f f' u u' ru (by omega) (by omega) (by omega) (by omega)
        · rw [hx] at b1
          have c1 := b1.2.2
          exact sub_until h.s1 i f u l (by omega) (by omega)
        · rw [hx] at b2
          have c2 := b2.2.2
          exact sub_until h.s2 _ f' u l (by omega) (by omega)
theorem go_block {n n' : Nat} {st st' : Nat → Pm Unit} (h : GS c n n' st st') (i : Nat) {s s' : Ps} (r : Rel c s s') (l1 : s.ts.length ≤ n + 1) (l2 : s'.ts.length ≤ n' + 1) : OutS c (blockOf st i s) (blockOf st' (c.ι i) s') := by
  rcases r.cut with ⟨e1, e2⟩ | ⟨ht, ha⟩
  · exact .past ((sub_block h.s1 i r.lst l1).inS e1) ((sub_block h.s2 _ r.lst' l2).inS e2)
  · have hr := r.kidNode ht.2.2.2 i 6
    have := go_within (W := EqU) [123] [125] (by decide) hr (body := fun t => untilP st s.nd.length (t.ts.length + 1) t) (body' := fun t => untilP st' (c.ι s.nd.length) (t.ts.length + 1) t) (fun t t' rt q1 q2 => by
        rw [kidNode_ts] at q1 q2
        exact go_until h _ _ _ t t' rt (by omega) (by omega) (Nat.lt_succ_self _) (Nat.lt_succ_self _)) (fun t l q => by
        rw [kidNode_ts] at q
        exact sub_until h.s1 _ _ t l (by omega) (Nat.lt_succ_self _)) (fun t l q => by
        rw [kidNode_ts] at q
        exact sub_until h.s2 _ _ t l (by omega) (Nat.lt_succ_self _))
    rw [← r.len] at this
    exact this
theorem go_else {n n' : Nat} {st st' : Nat → Pm Unit} (h : GS c n n' st st') (i : Nat) {s s' : Ps} (r : Rel c s s') (l1 : s.ts.length ≤ n + 1) (l2 : s'.ts.length ≤ n' + 1) : OutU c (elseOf st i s) (elseOf st' (c.ι i) s') := by
  rcases r.cut with ⟨e1, e2⟩ | ⟨ht, ha⟩
  · exact .past ((sub_else h.s1 i r.lst l1).inV e1) ((sub_else h.s2 _ r.lst' l2).inV e2)
  · unfold elseOf
    rw [ht.isP]
    split
    · rename_i hi
      have hk := (isP_kind hi).1
      have q1 := r.lst.len hk
      have q2 := r.lst'.len (by rw [ht.1]; exact hk)
      exact (go_block h i (ha hk) (by omega) (by omega)).inV
    · exact .okU r
/-- Along a row of readings lengths shrink on both sides. -/
theorem Out.bindL {c : Cx} {x x' : Res Unit} {f f' : Unit → Ps → Res Unit} {n n' : Nat} (h : OutU c x x') (hl : ∀ t, x = .ok () t → t.ts.length ≤ n) (hl' : ∀ t, x' = .ok () t → t.ts.length ≤ n')
    (k : ∀ t t', Rel c t t' → t.ts.length ≤ n → t'.ts.length ≤ n' → OutU c (f () t) (f' () t')) (s1 : ∀ t, Lst t → t.ts.length ≤ n → SubAt t (f () t)) (s2 : ∀ t, Lst t → t.ts.length ≤ n' → SubAt t (f' () t)) : OutU c (x.bind f) (x'.bind f') :=
  h.bind (fun _ _ t t' e e' _ r => k t t' r (hl t e) (hl' t' e')) (fun _ t e l => s1 t l (hl t e)) (fun _ t e l => s2 t l (hl' t e))
theorem SubAt.le {s : Ps} {r : Res Unit} (h : SubAt s r) {n : Nat} (hn : s.ts.length ≤ n) : ∀ t, r = .ok () t → t.ts.length ≤ n := fun t e => by
  rw [e] at h
  have := h.2.len
  omega
theorem go_branch {n n' : Nat} {st st' : Nat → Pm Unit} (h : GS c n n' st st') (i : Nat) (hn0 : i ≠ 0) {s s' : Ps} (r : Rel c s s') (l1 : s.ts.length ≤ n + 1) (l2 : s'.ts.length ≤ n' + 1) : OutU c (branchOf st i s) (branchOf st' (c.ι i) s') := by
  have t1 : ∀ t, Lst t → t.ts.length ≤ n + 1 → SubAt t ((blockOf st i t).bind fun _ s => elseOf st i s) := fun t l q => (sub_block h.s1 i l q).at.bind fun _ u _ lu q2 => sub_else h.s1 i lu (by omega)
  have t1' : ∀ t, Lst t → t.ts.length ≤ n' + 1 → SubAt t ((blockOf st' (c.ι i) t).bind fun _ s => elseOf st' (c.ι i) s) := fun t l q => (sub_block h.s2 _ l q).at.bind fun _ u _ lu q2 => sub_else h.s2 _ lu (by omega)
  have t2 : ∀ t, Lst t → t.ts.length ≤ n + 1 → SubAt t ((exprP i t).bind fun _ s => (blockOf st i s).bind fun _ s => elseOf st i s) := fun t l q => (sub_expr i l).bind fun _ u _ lu q2 => t1 u lu (by omega)
  have t2' : ∀ t, Lst t → t.ts.length ≤ n' + 1 → SubAt t ((exprP (c.ι i) t).bind fun _ s => (blockOf st' (c.ι i) s).bind fun _ s => elseOf st' (c.ι i) s) := fun t l q => (sub_expr _ l).bind fun _ u _ lu q2 => t1' u lu (by omega)
  have t3 : ∀ t, Lst t → t.ts.length ≤ n + 1 → SubAt t ((lessP i t).bind fun _ s => (exprP i s).bind fun _ s => (blockOf st i s).bind fun _ s => elseOf st i s) := fun t l q => (sub_less i l).bind fun _ u _ lu q2 => t2 u lu (by omega)
  have t3' : ∀ t, Lst t → t.ts.length ≤ n' + 1 → SubAt t ((lessP (c.ι i) t).bind fun _ s => (exprP (c.ι i) s).bind fun _ s => (blockOf st' (c.ι i) s).bind fun _ s => elseOf st' (c.ι i) s) := fun t l q => (sub_less _ l).bind fun _ u _ lu q2 => t2' u lu (by omega)
  exact (go_expr i r).bindL ((sub_expr i r.lst).le l1) ((sub_expr _ r.lst').le l2) (fun t t' rt q1 q2 =>
    (go_less i hn0 rt).bindL ((sub_less i rt.lst).le q1) ((sub_less _ rt.lst').le q2) (fun t t' rt q1 q2 =>
      (go_expr i rt).bindL ((sub_expr i rt.lst).le q1) ((sub_expr _ rt.lst').le q2) (fun t t' rt q1 q2 =>
        (go_block h i rt q1 q2).inV.bindL ((sub_block h.s1 i rt.lst q1).at.le q1) ((sub_block h.s2 _ rt.lst' q2).at.le q2) (fun t t' rt q1 q2 => go_else h i rt q1 q2)
          (fun t l q => sub_else h.s1 i l q) (fun t l q => sub_else h.s2 _ l q)) t1 t1') t2 t2') t3 t3'
theorem go_loopS {n n' : Nat} {st st' : Nat → Pm Unit} (h : GS c n n' st st') (i : Nat) (hn0 : i ≠ 0) {s s' : Ps} (r : Rel c s s') (l1 : s.ts.length ≤ n + 1) (l2 : s'.ts.length ≤ n' + 1) : OutU c (loopOf st i s) (loopOf st' (c.ι i) s') := by
  have t1 : ∀ t, Lst t → t.ts.length ≤ n + 1 → SubAt t ((numberP i t).bind fun _ s => blockOf st i s) := fun t l q => (sub_number i l).at.bind fun _ u _ lu q2 => (sub_block h.s1 i lu (by omega)).at
  have t1' : ∀ t, Lst t → t.ts.length ≤ n' + 1 → SubAt t ((numberP (c.ι i) t).bind fun _ s => blockOf st' (c.ι i) s) := fun t l q => (sub_number _ l).at.bind fun _ u _ lu q2 => (sub_block h.s2 _ lu (by omega)).at
  have t2 : ∀ t, Lst t → t.ts.length ≤ n + 1 → SubAt t ((takeP [116, 111] t).bind fun _ s => (numberP i s).bind fun _ s => blockOf st i s) := fun t l q => (sub_take _ l).at.bind fun _ u _ lu q2 => t1 u lu (by omega)
  have t2' : ∀ t, Lst t → t.ts.length ≤ n' + 1 → SubAt t ((takeP [116, 111] t).bind fun _ s => (numberP (c.ι i) s).bind fun _ s => blockOf st' (c.ι i) s) := fun t l q => (sub_take _ l).at.bind fun _ u _ lu q2 => t1' u lu (by omega)
  have t3 : ∀ t, Lst t → t.ts.length ≤ n + 1 → SubAt t ((numberP i t).bind fun _ s => (takeP [116, 111] s).bind fun _ s => (numberP i s).bind fun _ s => blockOf st i s) := fun t l q => (sub_number i l).at.bind fun _ u _ lu q2 => t2 u lu (by omega)
  have t3' : ∀ t, Lst t → t.ts.length ≤ n' + 1 → SubAt t ((numberP (c.ι i) t).bind fun _ s => (takeP [116, 111] s).bind fun _ s => (numberP (c.ι i) s).bind fun _ s => blockOf st' (c.ι i) s) := fun t l q => (sub_number _ l).at.bind fun _ u _ lu q2 => t2' u lu (by omega)
  have t4 : ∀ t, Lst t → t.ts.length ≤ n + 1 → SubAt t ((takeP [61] t).bind fun _ s => (numberP i s).bind fun _ s => (takeP [116, 111] s).bind fun _ s => (numberP i s).bind fun _ s => blockOf st i s) := fun t l q => (sub_take _ l).at.bind fun _ u _ lu q2 => t3 u lu (by omega)
  have t4' : ∀ t, Lst t → t.ts.length ≤ n' + 1 → SubAt t ((takeP [61] t).bind fun _ s => (numberP (c.ι i) s).bind fun _ s => (takeP [116, 111] s).bind fun _ s => (numberP (c.ι i) s).bind fun _ s => blockOf st' (c.ι i) s) := fun t l q => (sub_take _ l).at.bind fun _ u _ lu q2 => t3' u lu (by omega)
  exact (go_named i hn0 r).inV.bindL ((sub_named i r.lst).at.le l1) ((sub_named _ r.lst').at.le l2) (fun t t' rt q1 q2 =>
    (go_take _ rt).inV.bindL ((sub_take _ rt.lst).at.le q1) ((sub_take _ rt.lst').at.le q2) (fun t t' rt q1 q2 =>
      (go_number i rt).inV.bindL ((sub_number i rt.lst).at.le q1) ((sub_number _ rt.lst').at.le q2) (fun t t' rt q1 q2 =>
        (go_take _ rt).inV.bindL ((sub_take _ rt.lst).at.le q1) ((sub_take _ rt.lst').at.le q2) (fun t t' rt q1 q2 =>
          (go_number i rt).inV.bindL ((sub_number i rt.lst).at.le q1) ((sub_number _ rt.lst').at.le q2) (fun t t' rt q1 q2 => (go_block h i rt q1 q2).inV)
            (fun t l q => (sub_block h.s1 i l q).at) (fun t l q => (sub_block h.s2 _ l q).at)) t1 t1') t2 t2') t3 t3') t4 t4'
set_option maxHeartbeats 2000000 in
theorem go_reads {n n' : Nat} {st st' : Nat → Pm Unit} (h : GS c n n' st st') (k i : Nat) (hn0 : i ≠ 0) {s s' : Ps} (r : Rel c s s') (l1 : s.ts.length ≤ n + 1) (l2 : s'.ts.length ≤ n' + 1) : OutU c (readsOf st k i s) (readsOf st' k (c.ι i) s') := by
  have e : ∀ (st : Nat → Pm Unit) (j : Nat) (s : Ps), readsOf st k j s = if k = 7 then readP j s else if k = 8 then setP j s else if k = 9 then upsertP j s else if k = 10 then rowP j s else if k = 11 then scanP j s
      else if k = 12 then lockP j s else if k = 13 then releaseP j s else if k = 14 then branchOf st j s else if k = 15 then loopOf st j s else if k = 16 then letP j s else if k = 17 then exprP j s else noneP s := by
    intro st j s
    unfold readsOf
    split; · rfl
    split; · rfl
    split; · rfl
    split; · rfl
    split; · rfl
    split; · rfl
    split; · rfl
    split; · rfl
    split; · rfl
    split; · rfl
    split <;> rfl
  rw [e, e]
  by_cases h7 : k = 7
  · rw [if_pos h7, if_pos h7]; exact go_read i hn0 r
  rw [if_neg h7, if_neg h7]
  by_cases h8 : k = 8
  · rw [if_pos h8, if_pos h8]; exact go_set i r
  rw [if_neg h8, if_neg h8]
  by_cases h9 : k = 9
  · rw [if_pos h9, if_pos h9]; exact go_upsert i r
  rw [if_neg h9, if_neg h9]
  by_cases h10 : k = 10
  · rw [if_pos h10, if_pos h10]; exact go_row i r
  rw [if_neg h10, if_neg h10]
  by_cases h11 : k = 11
  · rw [if_pos h11, if_pos h11]; exact go_scan i hn0 r
  rw [if_neg h11, if_neg h11]
  by_cases h12 : k = 12
  · rw [if_pos h12, if_pos h12]; exact go_lock i hn0 r
  rw [if_neg h12, if_neg h12]
  by_cases h13 : k = 13
  · rw [if_pos h13, if_pos h13]; exact go_release i r
  rw [if_neg h13, if_neg h13]
  by_cases h14 : k = 14
  · rw [if_pos h14, if_pos h14]; exact go_branch h i hn0 r l1 l2
  rw [if_neg h14, if_neg h14]
  by_cases h15 : k = 15
  · rw [if_pos h15, if_pos h15]; exact go_loopS h i hn0 r l1 l2
  rw [if_neg h15, if_neg h15]
  by_cases h16 : k = 16
  · rw [if_pos h16, if_pos h16]; exact go_let i hn0 r
  rw [if_neg h16, if_neg h16]
  by_cases h17 : k = 17
  · rw [if_pos h17, if_pos h17]; exact go_expr i r
  rw [if_neg h17, if_neg h17]
  exact .okU r
theorem sub_end (k : Nat) {t : Ps} (l : Lst t) : SubAt t (if k = 14 ∨ k = 15 then .ok () t else takeP [59] t) := by
  split
  · exact sub_same l rfl
  · exact (sub_take _ l).at
theorem go_stmt : ∀ (f f' : Nat), GS c f f' (stmtP f) (stmtP f')
  | 0, f' => ⟨fun i s s' r l _ => absurd r.lst.pos (by omega), sub_stmt 0, sub_stmt f'⟩
  | f + 1, 0 => ⟨fun i s s' r _ l => absurd r.lst'.pos (by omega), sub_stmt _, sub_stmt 0⟩
  | f + 1, f' + 1 => ⟨fun i s s' r l1 l2 => by
    rcases r.cut with ⟨e1, e2⟩ | ⟨ht, ha⟩
    · exact .past ((sub_stmt _ i s r.lst l1).inS e1).in ((sub_stmt _ _ s' r.lst' l2).inS e2).in
    · rw [stmtP, stmtP]
      have hq : (if s'.hd.kind = 1 then formOf s'.hd.text else none) = (if s.hd.kind = 1 then formOf s.hd.text else none) := by rw [ht.1, ht.2.1]
      rw [hq]
      cases hk : (if s.hd.kind = 1 then formOf s.hd.text else none) with
      | none =>
        rw [ht.2.2.2]
        exact .fail 50 _ rfl rfl
      | some k =>
        have h1 : s.hd.kind = 1 := by
          split at hk
          · assumption
          · cases hk
        have h4 : s.hd.kind ≠ 4 := by omega
        have h4' : s'.hd.kind ≠ 4 := by rw [ht.1]; exact h4
        have q1 := r.lst.len h4
        have q2 := r.lst'.len h4'
        have hr := r.kidNode ht.2.2.2 i k
        have hra : Rel c (s.kidNode i k).adv (s'.kidNode (c.ι i) k).adv := ⟨(ha h4).toks, hr.ne, hr.nd, hr.deep, (ha h4).lst.of rfl, (ha h4).lst'.of rfl⟩
        have hlen : s'.nd.length = c.ι s.nd.length := r.len
        have g := go_reads (go_stmt f f') k s.nd.length r.top hra (by show s.adv.ts.length ≤ _; omega) (by show s'.adv.ts.length ≤ _; omega)
        have hall := g.bind (f := fun _ s => if k = 14 ∨ k = 15 then .ok () s else takeP [59] s) (f' := fun _ s => if k = 14 ∨ k = 15 then .ok () s else takeP [59] s) (W2 := EqU) (fun _ _ u u' _ _ _ ru => by
          split
          · exact .okU ru
          · exact (go_take _ ru).inV) (fun _ u _ l => sub_end k l) (fun _ u _ l => sub_end k l)
        rw [← hlen] at hall
        exact hall, sub_stmt _, sub_stmt _⟩
theorem go_blockP (i : Nat) {s s' : Ps} (r : Rel c s s') : OutS c (blockP i s) (blockP (c.ι i) s') := go_block (go_stmt _ _) i r (by omega) (by omega)
theorem go_table {s s' : Ps} (r : Rel c s s') : OutS c (tableP 0 s) (tableP 0 s') := by
  rcases r.cut with ⟨e1, e2⟩ | ⟨ht, ha⟩
  · exact .past ((sub_table 0 r.lst).inS e1) ((sub_table 0 r.lst').inS e2)
  · have hr := r.kidNode ht.2.2.2 0 2
    have z : c.ι 0 = 0 := rfl
    rw [z] at hr
    have t1 : ∀ (n : Nat) (t : Ps), Lst t → SubAt t ((takeP [41] t).bind fun _ t => takeP [59] t) := fun n t l => (sub_take _ l).at.bind fun _ u _ l _ => (sub_take _ l).at
    have t2 : ∀ (n : Nat) (t : Ps), Lst t → SubAt t ((listP (wordP n) t).bind fun _ t => (takeP [41] t).bind fun _ t => takeP [59] t) := fun n t l => (sub_list (fun s g => (sub_word _ g).at) l).bind fun _ u _ l _ => t1 n u l
    have t3 : ∀ (n : Nat) (t : Ps), Lst t → SubAt t ((takeP [40] t).bind fun _ t => (listP (wordP n) t).bind fun _ t => (takeP [41] t).bind fun _ t => takeP [59] t) := fun n t l => (sub_take _ l).at.bind fun _ u _ l _ => t2 n u l
    have t4 : ∀ (n : Nat) (t : Ps), Lst t → SubAt t ((namedP n t).bind fun _ t => (takeP [40] t).bind fun _ t => (listP (wordP n) t).bind fun _ t => (takeP [41] t).bind fun _ t => takeP [59] t) := fun n t l => (sub_named _ l).at.bind fun _ u _ l _ => t3 n u l
    have h := (go_take [116, 97, 98, 108, 101] hr).bindF (W2 := EqU) (f := fun _ t => (namedP s.nd.length t).bind fun _ t => (takeP [40] t).bind fun _ t => (listP (wordP s.nd.length) t).bind fun _ t => (takeP [41] t).bind fun _ t => takeP [59] t)
      (f' := fun _ t => (namedP (c.ι s.nd.length) t).bind fun _ t => (takeP [40] t).bind fun _ t => (listP (wordP (c.ι s.nd.length)) t).bind fun _ t => (takeP [41] t).bind fun _ t => takeP [59] t)
      (fun _ _ u u' _ _ _ ru => (go_named s.nd.length r.top ru).bindF (fun _ _ u u' _ _ _ ru => (go_take [40] ru).bindF (fun _ _ u u' _ _ _ ru =>
        (go_list (fun s2 s2' r => (go_word s.nd.length r).inV) (fun s2 l => (sub_word _ l).at) (fun s2 l => (sub_word _ l).at) ru).bindS (fun _ _ u u' _ _ _ ru => (go_take [41] ru).bindF (fun _ _ u u' _ _ _ ru => go_take [59] ru) (fun _ u _ l => (sub_take _ l).at) (fun _ u _ l => (sub_take _ l).at))
          (fun _ u _ l => (sub_take _ l).bind fun _ u _ l _ => (sub_take _ l).at) (fun _ u _ l => (sub_take _ l).bind fun _ u _ l _ => (sub_take _ l).at))
        (fun _ u _ l => t2 _ u l) (fun _ u _ l => t2 _ u l)) (fun _ u _ l => t3 _ u l) (fun _ u _ l => t3 _ u l)) (fun _ u _ l => t4 _ u l) (fun _ u _ l => t4 _ u l)
    rw [← r.len] at h
    exact h
theorem go_names (i : Nat) {s s' : Ps} (r : Rel c s s') : OutU c (namesP i s) (namesP (c.ι i) s') := by
  rcases r.cut with ⟨e1, e2⟩ | ⟨ht, ha⟩
  · exact .past ((sub_names i r.lst).inV e1) ((sub_names _ r.lst').inV e2)
  · have hr := r.kidNode ht.2.2.2 i 4
    have e : ∀ (j : Nat) (s : Ps), namesP j s = if isP [41] (s.kidNode j 4) = true then .ok () (s.kidNode j 4) else listP (wordP s.nd.length) (s.kidNode j 4) := fun _ _ => rfl
    have hp : isP [41] (s'.kidNode (c.ι i) 4) = isP [41] (s.kidNode i 4) := ht.isP [41]
    rw [e, e, hp]
    split
    · exact .okU hr
    · have h := go_list (one := wordP s.nd.length) (one' := wordP (c.ι s.nd.length)) (fun s2 s2' r => (go_word s.nd.length r).inV) (fun s2 l => (sub_word _ l).at) (fun s2 l => (sub_word _ l).at) hr
      rw [← r.len] at h
      exact h
theorem go_single (i : Nat) (hn0 : i ≠ 0) {s s' : Ps} (r : Rel c s s') : OutU c (singleP i s) (singleP (c.ι i) s') := by
  rcases r.cut with ⟨e1, e2⟩ | ⟨ht, ha⟩
  · exact .past ((sub_single i r.lst).inV e1) ((sub_single _ r.lst').inV e2)
  · unfold singleP
    rw [ht.isP]
    split
    · rename_i hi
      exact .okU ((ha (isP_kind hi).1).num i hn0 1)
    · exact .okU r
theorem go_proc {s s' : Ps} (r : Rel c s s') : OutS c (procP 0 s) (procP 0 s') := by
  rcases r.cut with ⟨e1, e2⟩ | ⟨ht, ha⟩
  · exact .past ((sub_proc 0 r.lst).inS e1) ((sub_proc 0 r.lst').inS e2)
  · have hr := r.kidNode ht.2.2.2 0 3
    have z : c.ι 0 = 0 := rfl
    rw [z] at hr
    have t1 : ∀ (n : Nat) (t : Ps), Lst t → SubLt t ((singleP n t).bind fun _ t => blockP n t) := fun n t l => by
      have h := sub_single n l
      cases hs : singleP n t with
      | err e a => rw [hs] at h; exact h
      | ok a u =>
        rw [hs] at h
        have hb := sub_blockP n h.1
        show SubLt t (blockP n u)
        cases hq : blockP n u with
        | err e a => rw [hq] at hb; obtain ⟨h1, x, hx, hxa⟩ := hb; exact ⟨h1, x, h.2.mem hx, hxa⟩
        | ok b v => rw [hq] at hb; have := h.2.len; exact ⟨hb.1, h.2.trans hb.2.1, by have := hb.2.2; omega⟩
    have t2 : ∀ (n : Nat) (t : Ps), Lst t → SubLt t ((takeP [41] t).bind fun _ t => (singleP n t).bind fun _ t => blockP n t) := fun n t l => (sub_take _ l).bind fun _ u _ l _ => (t1 n u l).at
    have t3 : ∀ (n : Nat) (t : Ps), Lst t → SubAt t ((namesP n t).bind fun _ t => (takeP [41] t).bind fun _ t => (singleP n t).bind fun _ t => blockP n t) := fun n t l => (sub_names _ l).bind fun _ u _ l _ => (t2 n u l).at
    have t4 : ∀ (n : Nat) (t : Ps), Lst t → SubAt t ((takeP [40] t).bind fun _ t => (namesP n t).bind fun _ t => (takeP [41] t).bind fun _ t => (singleP n t).bind fun _ t => blockP n t) := fun n t l => (sub_take _ l).at.bind fun _ u _ l _ => t3 n u l
    have t5 : ∀ (n : Nat) (t : Ps), Lst t → SubAt t ((namedP n t).bind fun _ t => (takeP [40] t).bind fun _ t => (namesP n t).bind fun _ t => (takeP [41] t).bind fun _ t => (singleP n t).bind fun _ t => blockP n t) := fun n t l => (sub_named _ l).at.bind fun _ u _ l _ => t4 n u l
    have h := (go_take [112, 114, 111, 99] hr).bindF (W2 := EqU) (f := fun _ t => (namedP s.nd.length t).bind fun _ t => (takeP [40] t).bind fun _ t => (namesP s.nd.length t).bind fun _ t => (takeP [41] t).bind fun _ t => (singleP s.nd.length t).bind fun _ t => blockP s.nd.length t)
      (f' := fun _ t => (namedP (c.ι s.nd.length) t).bind fun _ t => (takeP [40] t).bind fun _ t => (namesP (c.ι s.nd.length) t).bind fun _ t => (takeP [41] t).bind fun _ t => (singleP (c.ι s.nd.length) t).bind fun _ t => blockP (c.ι s.nd.length) t)
      (fun _ _ u u' _ _ _ ru => (go_named s.nd.length r.top ru).bindF (fun _ _ u u' _ _ _ ru => (go_take [40] ru).bindF (fun _ _ u u' _ _ _ ru => (go_names s.nd.length ru).bindS (fun _ _ u u' _ _ _ ru => (go_take [41] ru).bindF (fun _ _ u u' _ _ _ ru =>
          (go_single s.nd.length r.top ru).bindS (fun _ _ u u' _ _ _ ru => go_blockP s.nd.length ru) (fun _ u _ l => sub_blockP _ l) (fun _ u _ l => sub_blockP _ l)) (fun _ u _ l => (t1 _ u l).at) (fun _ u _ l => (t1 _ u l).at)) (fun _ u _ l => t2 _ u l) (fun _ u _ l => t2 _ u l))
        (fun _ u _ l => t3 _ u l) (fun _ u _ l => t3 _ u l)) (fun _ u _ l => t4 _ u l) (fun _ u _ l => t4 _ u l)) (fun _ u _ l => t5 _ u l) (fun _ u _ l => t5 _ u l)
    rw [← r.len] at h
    exact h
end Go.Proofs.YtcccnicldbpieaaGreatDoor
