/- What the plain reading answers: the tokens left are an end of those given; an error stands at one of them. No condition. -/
import Derived.Test.YtcccnicldbpieaaGreatDoorPsF
namespace Go.Proofs.YtcccnicldbpieaaGreatDoor
set_option linter.unusedVariables false
set_option linter.unusedSimpArgs false
def Lst (s : Ps) : Prop := ∃ l e, s.ts = l ++ [e] ∧ e.kind = 4
theorem Lst.ne {s : Ps} (h : Lst s) : s.ts ≠ [] := by obtain ⟨l, e, h, _⟩ := h; rw [h]; simp
theorem Lst.pos {s : Ps} (h : Lst s) : 0 < s.ts.length := List.length_pos_iff.2 h.ne
theorem Lst.hd {s : Ps} (h : Lst s) : s.hd ∈ s.ts := by
  unfold Ps.hd
  cases hs : s.ts with
  | nil => exact absurd hs h.ne
  | cons t r => exact List.mem_cons_self ..
theorem Lst.adv {s : Ps} (h : Lst s) (hk : s.hd.kind ≠ 4) : Lst s.adv := by
  obtain ⟨l, e, hl, he⟩ := h
  cases l with
  | nil =>
    exfalso
    apply hk
    unfold Ps.hd
    rw [hl]
    exact he
  | cons t r => exact ⟨r, e, by show s.ts.tail = _; rw [hl]; rfl, he⟩
theorem Lst.len {s : Ps} (h : Lst s) (hk : s.hd.kind ≠ 4) : s.adv.ts.length < s.ts.length := by
  have := h.pos
  have := adv_len (s := s)
  omega
/-- The tokens of the second are an end of the first's. -/
def Tl (s s' : Ps) : Prop := ∃ pre, s.ts = pre ++ s'.ts
theorem Tl.refl (s : Ps) : Tl s s := ⟨[], rfl⟩
theorem Tl.trans {a b c : Ps} (h : Tl a b) (k : Tl b c) : Tl a c := by
  obtain ⟨p, hp⟩ := h
  obtain ⟨q, hq⟩ := k
  exact ⟨p ++ q, by rw [hp, hq, List.append_assoc]⟩
theorem Tl.adv (s : Ps) : Tl s s.adv := by
  cases hs : s.ts with
  | nil => exact ⟨[], by show s.ts = _; rw [show s.adv.ts = s.ts.tail from rfl, hs]; rfl⟩
  | cons t r => exact ⟨[t], by rw [show s.adv.ts = s.ts.tail from rfl, hs]; rfl⟩
theorem Tl.mem {s s' : Ps} (h : Tl s s') {t : Tok} (ht : t ∈ s'.ts) : t ∈ s.ts := by
  obtain ⟨p, hp⟩ := h
  rw [hp]
  exact List.mem_append_right _ ht
theorem Tl.len {s s' : Ps} (h : Tl s s') : s'.ts.length ≤ s.ts.length := by
  obtain ⟨p, hp⟩ := h
  rw [hp, List.length_append]
  omega
def SubAt {α : Type} (s : Ps) : Res α → Prop
  | .ok _ s' => Lst s' ∧ Tl s s'
  | .err e a => (e = 50 ∨ e = 51) ∧ ∃ t ∈ s.ts, t.at_ = a ∧ (e = 51 → t.kind ≠ 4)
/-- With fewer tokens behind it. -/
def SubLt {α : Type} (s : Ps) : Res α → Prop
  | .ok _ s' => Lst s' ∧ Tl s s' ∧ s'.ts.length < s.ts.length
  | .err e a => (e = 50 ∨ e = 51) ∧ ∃ t ∈ s.ts, t.at_ = a ∧ (e = 51 → t.kind ≠ 4)
theorem SubLt.at {α : Type} {s : Ps} {r : Res α} (h : SubLt s r) : SubAt s r := by
  cases r with
  | ok a t => exact ⟨h.1, h.2.1⟩
  | err e a => exact h
/-- The same tokens. -/
theorem SubAt.of {α : Type} {s s2 : Ps} (e : s2.ts = s.ts) {r : Res α} (h : SubAt s2 r) : SubAt s r := by
  cases r with
  | ok a t => exact ⟨h.1, by obtain ⟨p, hp⟩ := h.2; exact ⟨p, by rw [← e, hp]⟩⟩
  | err c a => obtain ⟨h1, x, hx, hxa⟩ := h; exact ⟨h1, x, by rw [← e]; exact hx, hxa⟩
theorem SubLt.of {α : Type} {s s2 : Ps} (e : s2.ts = s.ts) {r : Res α} (h : SubLt s2 r) : SubLt s r := by
  cases r with
  | ok a t => exact ⟨h.1, by obtain ⟨p, hp⟩ := h.2.1; exact ⟨p, by rw [← e, hp]⟩, by rw [← e]; exact h.2.2⟩
  | err c a => obtain ⟨h1, x, hx, hxa⟩ := h; exact ⟨h1, x, by rw [← e]; exact hx, hxa⟩
theorem SubAt.trans {α : Type} {s t : Ps} {r : Res α} (h : Tl s t) (k : SubAt t r) : SubAt s r := by
  cases r with
  | ok a u => exact ⟨k.1, h.trans k.2⟩
  | err c a => obtain ⟨h1, x, hx, hxa⟩ := k; exact ⟨h1, x, h.mem hx, hxa⟩
theorem SubLt.trans {α : Type} {s t : Ps} {r : Res α} (h : Tl s t) (hl : t.ts.length < s.ts.length) (k : SubAt t r) : SubLt s r := by
  cases r with
  | ok a u => exact ⟨k.1, h.trans k.2, Nat.lt_of_le_of_lt k.2.len hl⟩
  | err c a => obtain ⟨h1, x, hx, hxa⟩ := k; exact ⟨h1, x, h.mem hx, hxa⟩
theorem SubAt.bind {α β : Type} {s : Ps} {r : Res α} {f : α → Ps → Res β} (h : SubAt s r) (k : ∀ a t, r = .ok a t → Lst t → t.ts.length ≤ s.ts.length → SubAt t (f a t)) : SubAt s (r.bind f) := by
  cases r with
  | ok a t => exact SubAt.trans h.2 (k a t rfl h.1 h.2.len)
  | err e a => exact h
theorem SubLt.bind {α β : Type} {s : Ps} {r : Res α} {f : α → Ps → Res β} (h : SubLt s r) (k : ∀ a t, r = .ok a t → Lst t → t.ts.length < s.ts.length → SubAt t (f a t)) : SubLt s (r.bind f) := by
  cases r with
  | ok a t => exact SubLt.trans h.2.1 h.2.2 (k a t rfl h.1 h.2.2)
  | err e a => exact h
theorem sub_err {α : Type} {s : Ps} (h : Lst s) (e : Int) (he : e = 50 ∨ e = 51) (hk : e = 51 → s.hd.kind ≠ 4) : SubAt s (.err e s.hd.at_ : Res α) := ⟨he, _, h.hd, rfl, hk⟩
theorem sub_errL {α : Type} {s : Ps} (h : Lst s) (e : Int) (he : e = 50 ∨ e = 51) (hk : e = 51 → s.hd.kind ≠ 4) : SubLt s (.err e s.hd.at_ : Res α) := ⟨he, _, h.hd, rfl, hk⟩
theorem sub_adv {α : Type} {s : Ps} {a : α} (h : Lst s) (hk : s.hd.kind ≠ 4) : SubLt s (.ok a s.adv) := ⟨h.adv hk, Tl.adv s, h.len hk⟩
theorem sub_same {α : Type} {s t : Ps} {a : α} (h : Lst s) (e : t.ts = s.ts) : SubAt s (.ok a t) := ⟨by obtain ⟨l, x, hl, hx⟩ := h; exact ⟨l, x, by rw [e, hl], hx⟩, ⟨[], by rw [e]; rfl⟩⟩
theorem Lst.of {s t : Ps} (h : Lst s) (e : t.ts = s.ts) : Lst t := by obtain ⟨l, x, hl, hx⟩ := h; exact ⟨l, x, by rw [e, hl], hx⟩
theorem sub_take (t : Bs) {s : Ps} (h : Lst s) : SubLt s (takeP t s) := by
  unfold takeP
  split
  · rename_i hi
    exact sub_adv h (isP_kind hi).1
  · exact sub_errL h 50 (.inl rfl) (fun h => absurd h (by decide))
theorem sub_of (k : Nat) (hk : k ≠ 4) {s : Ps} (h : Lst s) : SubLt s (ofP k s) := by
  unfold ofP
  split
  · rename_i hi
    exact sub_adv h (by rw [hi]; exact hk)
  · exact sub_errL h 50 (.inl rfl) (fun h => absurd h (by decide))
theorem sub_named (i : Nat) {s : Ps} (h : Lst s) : SubLt s (namedP i s) := (sub_of 1 (by decide) h).bind fun t u _ hu _ => sub_same hu rfl
theorem sub_word (i : Nat) {s : Ps} (h : Lst s) : SubLt s (wordP i s) := SubLt.of rfl (sub_named _ (h.of rfl))
theorem sub_number (i : Nat) {s : Ps} (h : Lst s) : SubLt s (numberP i s) := SubLt.of (s2 := s.kidNode i 21) rfl ((sub_of 2 (by decide) (h.of (t := s.kidNode i 21) rfl)).bind fun t u _ hu _ => sub_same hu rfl)
theorem sub_within {α : Type} (a z : Bs) {body : Pm α} {s : Ps} (h : Lst s) (hb : ∀ t, Lst t → t.ts.length < s.ts.length → SubAt t (body t)) : SubLt s (withinP a z body s) := by
  unfold withinP
  split
  · rename_i hi
    split
    · exact sub_errL h 51 (.inr rfl) (fun _ => (isP_kind hi).1)
    · have hk := (isP_kind hi).1
      have hl := h.len hk
      refine SubLt.trans (t := { s.adv with deep := s.deep + 1 }) (Tl.adv s) hl ((hb _ ((h.adv hk).of (t := { s.adv with deep := s.deep + 1 }) rfl) hl).bind fun x t _ ht _ => ?_)
      split
      · exact sub_same ht rfl
      · exact ((sub_take z ht).at).bind fun _ u _ hu _ => sub_same hu rfl
  · exact sub_errL h 50 (.inl rfl) (fun h => absurd h (by decide))
theorem sub_loop {ms : List (Bs × Nat)} {part : Pm Ex} (n : Nat) (hp : ∀ t, Lst t → t.ts.length ≤ n → SubAt t (part t)) : ∀ (f : Nat) (e : Ex) (t : Ps), Lst t → t.ts.length ≤ n → t.ts.length < f → SubAt t (chainL ms part f e t)
  | 0, _, _, _, _, h => absurd h (by omega)
  | f + 1, e, t, g, hl, hf => by
    unfold chainL
    split
    · exact sub_same g rfl
    · rename_i k hk
      have h4 := markM_kind hk
      have hln := g.len h4
      exact SubAt.trans (Tl.adv t) ((hp _ (g.adv h4) (by omega)).bind fun r u _ hu hl2 => sub_loop n hp f _ u hu (by omega) (by omega))
theorem sub_chain {ms : List (Bs × Nat)} {part : Pm Ex} (n : Nat) (hp : ∀ t, Lst t → t.ts.length ≤ n → SubAt t (part t)) {s : Ps} (g : Lst s) (hl : s.ts.length ≤ n) : SubAt s (chainP ms part s) :=
  (hp s g hl).bind fun e u _ hu hl2 => sub_loop n hp _ e u hu (by omega) (Nat.lt_succ_self _)
theorem sub_sum {part : Pm Ex} (n : Nat) (hp : ∀ t, Lst t → t.ts.length ≤ n → SubAt t (part t)) {s : Ps} (g : Lst s) (hl : s.ts.length ≤ n) : SubAt s (sumOf part s) :=
  sub_chain n (fun t gt ht => sub_chain n hp gt ht) g hl
theorem sub_factor : ∀ (f : Nat) (s : Ps), Lst s → s.ts.length ≤ f → SubAt s (factorP f s)
  | 0, s, g, hl => absurd g.pos (by omega)
  | f + 1, s, g, hl => by
    unfold factorP
    split
    · rename_i hk
      exact (sub_adv g (by omega)).at
    · split
      · rename_i hk
        exact (sub_adv g (by omega)).at
      · split
        · exact (sub_within [45] [] g fun t gt ht => sub_factor f t gt (by omega)).at.bind fun a t _ ht _ => sub_same ht rfl
        · exact (sub_within [40] [41] g fun t gt ht => sub_sum f (fun t gt ht => sub_factor f t gt ht) gt (by omega)).at
theorem sub_sumP {s : Ps} (g : Lst s) : SubAt s (sumP s) := sub_sum _ (fun t gt ht => sub_factor _ t gt ht) g (Nat.le_refl _)
theorem sub_expr (i : Nat) {s : Ps} (g : Lst s) : SubAt s (exprP i s) := (sub_sumP g).bind fun e t _ ht _ => sub_same ht (put_len e i t).2.1
theorem sub_more {one : Pm Unit} (h : ∀ s, Lst s → SubAt s (one s)) : ∀ (f : Nat) (s : Ps), Lst s → s.ts.length < f → SubAt s (moreP one f s)
  | 0, _, _, hl => absurd hl (by omega)
  | f + 1, s, g, hl => by
    unfold moreP
    split
    · rename_i hi
      have hk := (isP_kind hi).1
      have hln := g.len hk
      exact SubAt.trans (Tl.adv s) ((h _ (g.adv hk)).bind fun _ t _ ht hl2 => sub_more h f t ht (by omega))
    · exact sub_same g rfl
theorem sub_list {one : Pm Unit} (h : ∀ s, Lst s → SubAt s (one s)) {s : Ps} (g : Lst s) : SubAt s (listP one s) := (h s g).bind fun _ t _ ht hl => sub_more h _ t ht (Nat.lt_succ_self _)
theorem sub_key (i : Nat) {s : Ps} (g : Lst s) : SubLt s (keyP i s) := sub_within [91] [93] g fun t gt _ => sub_expr i gt
theorem sub_row (i : Nat) {s : Ps} (g : Lst s) : SubAt s (rowP i s) := SubAt.of (s2 := s.kidNode i 20) rfl ((sub_named _ (g.of (t := s.kidNode i 20) rfl)).at.bind fun _ t _ ht _ => (sub_key _ ht).at)
theorem sub_cell (i : Nat) {s : Ps} (g : Lst s) : SubAt s (cellP i s) := (sub_row i g).bind fun _ t _ ht _ => (sub_take _ ht).at.bind fun _ t _ ht _ => (sub_word i ht).at
theorem sub_read (i : Nat) {s : Ps} (g : Lst s) : SubAt s (readP i s) := (sub_named i g).at.bind fun _ t _ ht _ => (sub_take _ ht).at.bind fun _ t _ ht _ => (sub_cell i ht).bind fun _ t _ ht _ => by
  split
  · rename_i hi
    exact SubAt.trans (Tl.adv t) ((sub_take _ (ht.adv (isP_kind hi).1)).at.bind fun _ u _ hu _ => sub_same hu rfl)
  · exact sub_same ht rfl
theorem sub_set (i : Nat) {s : Ps} (g : Lst s) : SubAt s (setP i s) := (sub_cell i g).bind fun _ t _ ht _ => (sub_take _ ht).at.bind fun _ t _ ht _ => sub_expr i ht
theorem sub_upsert (i : Nat) {s : Ps} (g : Lst s) : SubAt s (upsertP i s) := (sub_row i g).bind fun _ t _ ht _ => (sub_take _ ht).at.bind fun _ t _ ht _ => (sub_list (fun s g => sub_expr i g) ht).bind fun _ t _ ht _ => (sub_take _ ht).at
theorem sub_scan (i : Nat) {s : Ps} (g : Lst s) : SubAt s (scanP i s) := (sub_named i g).at.bind fun _ t _ ht _ => (sub_take _ ht).at.bind fun _ t _ ht _ => (sub_word i ht).at.bind fun _ t _ ht _ => (sub_take _ ht).at.bind fun _ t _ ht _ => (sub_word i ht).at
theorem sub_lock (i : Nat) {s : Ps} (g : Lst s) : SubAt s (lockP i s) := (sub_word i g).at.bind fun _ t _ ht _ => by
  split
  · rename_i hi
    exact SubAt.trans (Tl.adv t) (sub_same (ht.adv (isP_kind hi).1) rfl)
  · exact (sub_take _ ht).at
theorem sub_release (i : Nat) {s : Ps} (g : Lst s) : SubAt s (releaseP i s) := SubAt.of (s2 := s.kidNode i 5) rfl ((sub_named _ (g.of (t := s.kidNode i 5) rfl)).at.bind fun _ t _ ht _ => by
  split
  · exact SubAt.of (s2 := t.kind s.nd.length 20) rfl (sub_key _ (ht.of (t := t.kind s.nd.length 20) rfl)).at
  · exact sub_same ht rfl)
theorem sub_less (i : Nat) {s : Ps} (g : Lst s) : SubAt s (lessP i s) := by
  unfold lessP
  split
  · rename_i hi
    exact SubAt.trans (Tl.adv s) (sub_same (g.adv (isP_kind hi).1) rfl)
  · exact (sub_take _ g).at
theorem sub_let (i : Nat) {s : Ps} (g : Lst s) : SubAt s (letP i s) := (sub_named i g).at.bind fun _ t _ ht _ => (sub_take _ ht).at.bind fun _ t _ ht _ => sub_expr i ht
def SubS (n : Nat) (st : Nat → Pm Unit) : Prop := ∀ i s, Lst s → s.ts.length ≤ n → SubLt s (st i s)
theorem sub_until {n : Nat} {st : Nat → Pm Unit} (h : SubS n st) (i : Nat) : ∀ f s, Lst s → s.ts.length ≤ n → s.ts.length < f → SubAt s (untilP st i f s)
  | 0, _, _, _, hf => absurd hf (by omega)
  | f + 1, s, g, hl, hf => by
    unfold untilP
    split
    · exact sub_same g rfl
    · exact ((h i s g hl).bind fun _ t _ ht hl2 => sub_until h i f t ht (by omega) (by omega)).at
theorem sub_block {n : Nat} {st : Nat → Pm Unit} (h : SubS n st) (i : Nat) {s : Ps} (g : Lst s) (hl : s.ts.length ≤ n + 1) : SubLt s (blockOf st i s) :=
  SubLt.of (s2 := s.kidNode i 6) rfl (sub_within [123] [125] (g.of (t := s.kidNode i 6) rfl) fun t gt ht => sub_until h _ _ t gt (by rw [kidNode_ts] at ht; omega) (Nat.lt_succ_self _))
theorem sub_else {n : Nat} {st : Nat → Pm Unit} (h : SubS n st) (i : Nat) {s : Ps} (g : Lst s) (hl : s.ts.length ≤ n + 1) : SubAt s (elseOf st i s) := by
  unfold elseOf
  split
  · rename_i hi
    have hk := (isP_kind hi).1
    have := g.len hk
    exact SubAt.trans (Tl.adv s) (sub_block h i (g.adv hk) (by omega)).at
  · exact sub_same g rfl
theorem sub_branch {n : Nat} {st : Nat → Pm Unit} (h : SubS n st) (i : Nat) {s : Ps} (g : Lst s) (hl : s.ts.length ≤ n + 1) : SubAt s (branchOf st i s) :=
  (sub_expr i g).bind fun _ t _ gt l1 => (sub_less i gt).bind fun _ t _ gt l2 => (sub_expr i gt).bind fun _ t _ gt l3 => (sub_block h i gt (by omega)).at.bind fun _ t _ gt l4 => sub_else h i gt (by omega)
theorem sub_loopS {n : Nat} {st : Nat → Pm Unit} (h : SubS n st) (i : Nat) {s : Ps} (g : Lst s) (hl : s.ts.length ≤ n + 1) : SubAt s (loopOf st i s) :=
  (sub_named i g).at.bind fun _ t _ gt l1 => (sub_take _ gt).at.bind fun _ t _ gt l2 => (sub_number i gt).at.bind fun _ t _ gt l3 => (sub_take _ gt).at.bind fun _ t _ gt l4 => (sub_number i gt).at.bind fun _ t _ gt l5 => (sub_block h i gt (by omega)).at
theorem sub_reads {n : Nat} {st : Nat → Pm Unit} (h : SubS n st) (k i : Nat) {s : Ps} (g : Lst s) (hl : s.ts.length ≤ n + 1) : SubAt s (readsOf st k i s) := by
  unfold readsOf
  split
  · exact sub_read i g
  split
  · exact sub_set i g
  split
  · exact sub_upsert i g
  split
  · exact sub_row i g
  split
  · exact sub_scan i g
  split
  · exact sub_lock i g
  split
  · exact sub_release i g
  split
  · exact sub_branch h i g hl
  split
  · exact sub_loopS h i g hl
  split
  · exact sub_let i g
  split
  · exact sub_expr i g
  · exact sub_same g rfl
theorem sub_stmt : ∀ f, SubS f (stmtP f)
  | 0, i, s, g, hl => absurd g.pos (by omega)
  | f + 1, i, s, g, hl => by
    unfold stmtP
    split
    · exact sub_errL g 50 (.inl rfl) (fun h => absurd h (by decide))
    · rename_i k hk
      have h1 : s.hd.kind = 1 := by
        split at hk
        · assumption
        · cases hk
      have h4 : s.hd.kind ≠ 4 := by omega
      have hln := g.len h4
      have e : (s.kidNode i k).adv.ts = s.adv.ts := rfl
      refine SubLt.trans (t := s.adv) (Tl.adv s) hln (SubAt.of (s2 := (s.kidNode i k).adv) rfl ((sub_reads (sub_stmt f) k s.nd.length ((g.adv h4).of (t := (s.kidNode i k).adv) rfl) (by rw [e]; omega)).bind fun _ u _ gu _ => ?_))
      split
      · exact sub_same gu rfl
      · exact (sub_take _ gu).at
theorem sub_blockP (i : Nat) {s : Ps} (g : Lst s) : SubLt s (blockP i s) := sub_block (sub_stmt s.ts.length) i g (by omega)
theorem sub_table (i : Nat) {s : Ps} (g : Lst s) : SubLt s (tableP i s) := SubLt.of (s2 := s.kidNode i 2) rfl ((sub_take _ (g.of (t := s.kidNode i 2) rfl)).bind fun _ t _ gt _ => (sub_named _ gt).at.bind fun _ t _ gt _ => (sub_take _ gt).at.bind fun _ t _ gt _ => (sub_list (fun s g => (sub_word _ g).at) gt).bind fun _ t _ gt _ => (sub_take _ gt).at.bind fun _ t _ gt _ => (sub_take _ gt).at)
theorem sub_names (i : Nat) {s : Ps} (g : Lst s) : SubAt s (namesP i s) := by
  have e : namesP i s = if isP [41] (s.kidNode i 4) = true then .ok () (s.kidNode i 4) else listP (wordP s.nd.length) (s.kidNode i 4) := rfl
  rw [e]
  cases hi : isP [41] (s.kidNode i 4) with
  | true => simp only [if_true]; exact sub_same g rfl
  | false => simp only [Bool.false_eq_true, if_false]; exact SubAt.of (s2 := s.kidNode i 4) rfl (sub_list (fun s g => (sub_word _ g).at) (g.of (t := s.kidNode i 4) rfl))
theorem sub_single (i : Nat) {s : Ps} (g : Lst s) : SubAt s (singleP i s) := by
  unfold singleP
  split
  · rename_i hi
    exact SubAt.trans (Tl.adv s) (sub_same (g.adv (isP_kind hi).1) rfl)
  · exact sub_same g rfl
theorem sub_proc (i : Nat) {s : Ps} (g : Lst s) : SubLt s (procP i s) := SubLt.of (s2 := s.kidNode i 3) rfl ((sub_take _ (g.of (t := s.kidNode i 3) rfl)).bind fun _ t _ gt _ => (sub_named _ gt).at.bind fun _ t _ gt _ => (sub_take _ gt).at.bind fun _ t _ gt _ => (sub_names _ gt).bind fun _ t _ gt _ => (sub_take _ gt).at.bind fun _ t _ gt _ => (sub_single _ gt).bind fun _ t _ gt _ => (sub_blockP _ gt).at)
theorem sub_whole : ∀ (f : Nat) (s : Ps), Lst s → s.ts.length < f → SubAt s (wholeL f s)
  | 0, _, _, h => absurd h (by omega)
  | f + 1, s, g, hf => by
    unfold wholeL
    split
    · exact sub_same g rfl
    · split
      · exact ((sub_table 0 g).bind fun _ t _ gt hl => sub_whole f t gt (by omega)).at
      · split
        · exact ((sub_proc 0 g).bind fun _ t _ gt hl => sub_whole f t gt (by omega)).at
        · exact sub_err g 50 (.inl rfl) (fun h => absurd h (by decide))
theorem sub_program {s : Ps} (g : Lst s) : SubAt s (programP s) := SubAt.of (s2 := s.node 1) rfl (sub_whole _ _ (g.of (t := s.node 1) rfl) (Nat.lt_succ_self _))
end Go.Proofs.YtcccnicldbpieaaGreatDoor
