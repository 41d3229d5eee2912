/- Two programs read side by side; a source behind another one. No condition. -/
import Derived.Test.YtcccnicldbpieaaGreatDoorPgC
import Derived.Test.YtcccnicldbpieaaGreatDoorPsW
namespace Go.Proofs.YtcccnicldbpieaaGreatDoor
set_option linter.unusedVariables false
set_option linter.unusedSimpArgs false
inductive WOut (c : Cx) (s s' : Ps) (x x' : Res Unit) : Prop where
  | seam (u u' : Ps) (f f' : Nat) (r : Rel c u u') (e : u.ts = c.V) (e' : u'.ts = c.V') (l : u.ts.length < f) (l' : u'.ts.length < f') (h : x = wholeL f u) (h' : x' = wholeL f' u') (d : u.deep = s.deep) (g : Good u)
  | done (u u' : Ps) (r : Rel c u u') (h : x = .ok () u) (h' : x' = .ok () u') (k : u.hd.kind = 4) (t : Tl s u) (n : u.ts ≠ c.V ∨ u'.ts ≠ c.V')
  | fail (e : Int) (p : Nat) (h : x = .err e p) (h' : x' = .err e (c.φ p))
  | past (y y' : Res Unit) (k k' : Unit → Ps → Res Unit) (i : InS c.V y) (i' : InS c.V' y') (h : x = y.bind k) (h' : x' = y'.bind k')
theorem WOut.step {c : Cx} {s s' t t' : Ps} {x x' : Res Unit} (ht : Tl s t) (hd : t.deep = s.deep) (h : WOut c t t' x x') : WOut c s s' x x' := by
  cases h with
  | seam u u' f f' r e e' l l' h h' d g => exact .seam u u' f f' r e e' l l' h h' (d.trans hd) g
  | done u u' r h h' k t n => exact .done u u' r h h' k (ht.trans t) n
  | fail e p h h' => exact .fail e p h h'
  | past y y' k k' i i' h h' => exact .past y y' k k' i i' h h'
theorem whole_run (c : Cx) : ∀ (f f' : Nat) (s s' : Ps), Rel c s s' → Good s → s.ts.length < f → s'.ts.length < f' → WOut c s s' (wholeL f s) (wholeL f' s')
  | 0, _, _, _, _, _, l, _ => absurd l (by omega)
  | _, 0, _, _, _, _, _, l => absurd l (by omega)
  | f + 1, f' + 1, s, s', r, g, l1, l2 => by
    by_cases hc : s.ts = c.V ∧ s'.ts = c.V'
    · exact .seam s s' (f + 1) (f' + 1) r hc.1 hc.2 l1 l2 rfl rfl rfl g
    · rcases r.cut with hcc | ⟨ht, ha⟩
      · exact absurd hcc hc
      · by_cases hk : s.hd.kind = 4
        · have hk' : s'.hd.kind = 4 := by rw [ht.1]; exact hk
          refine .done s s' r (by rw [wholeL, if_pos hk]) (by rw [wholeL, if_pos hk']) hk (Tl.refl s) ?_
          by_cases h1 : s.ts = c.V
          · exact .inr fun h2 => hc ⟨h1, h2⟩
          · exact .inl h1
        · have hk' : s'.hd.kind ≠ 4 := by rw [ht.1]; exact hk
          rw [wholeL, wholeL, if_neg hk, if_neg hk', ht.isP, ht.isP]
          have key : ∀ (m : Pm Unit), OutS c (m s) (m s') → SubLt s (m s) → SubLt s' (m s') → FineAt s (m s) → WOut c s s' ((m s).bind fun _ s => wholeL f s) ((m s').bind fun _ s => wholeL f' s) := by
            intro m ho h1 h2 hf
            cases ho with
            | both a a' t t' h h' w rt =>
              rw [h] at h1 hf
              rw [h'] at h2
              have q1 := h1.2.2
              have q2 := h2.2.2
              rw [h, h']
              exact WOut.step h1.2.1 hf.deep (whole_run c f f' t t' rt hf.good (by omega) (by omega))
            | fail e p h h' => rw [h, h']; exact .fail e p rfl rfl
            | past i i' => exact .past _ _ _ _ i i' rfl rfl
          split
          · exact key (tableP 0) (go_table r) (sub_table 0 r.lst) (sub_table 0 r.lst') (fine_table 0 s g)
          · split
            · refine key (procP 0) (go_proc r) (sub_proc 0 r.lst) (sub_proc 0 r.lst') ?_
              exact fine_proc 0 s g
            · rw [ht.2.2.2]
              exact .fail 50 _ rfl rfl
/-! ### Sources -/
theorem step_kind {s : Bs} {kd k : Nat} {n : Int} (h : step s = .tok kd k n) : kd ≠ 4 := by
  cases s with
  | nil => cases h
  | cons c r =>
    have h' : stepC c r = .tok kd k n := h
    unfold stepC at h'
    split at h'
    · cases h'
    split at h'
    · cases h'
    split at h'
    · injection h' with h1; omega
    split at h'
    · unfold stepD at h'
      split at h'
      · cases h'
      · injection h' with h1; omega
    split at h'
    · injection h' with h1; omega
    split at h'
    · injection h' with h1; omega
    · cases h'
/-- Tokens, an end behind them, none among them. -/
def Ends (ts : List Tok) : Prop := ∃ m e, ts = m ++ [e] ∧ e.kind = 4 ∧ ∀ t ∈ m, t.kind ≠ 4
theorem lexF_ends : ∀ (f p : Nat) (s : Bs) (l : List Tok), lexF f p s = .ok l → Ends l
  | 0, p, s, l, h => by cases h
  | f + 1, p, s, l, h => by
    unfold lexF at h
    split at h
    · injection h with h
      subst h
      exact ⟨[], _, rfl, rfl, fun t ht => by cases ht⟩
    · exact lexF_ends f _ _ l h
    · rename_i kd k n hs
      cases hr : lexF f (p + k) (s.drop k) with
      | err a e => rw [hr] at h; cases h
      | ok m =>
        rw [hr] at h
        obtain ⟨m', e, rfl, he, hm⟩ := lexF_ends f _ _ m hr
        injection h with h
        subst h
        refine ⟨_ :: m', e, rfl, he, fun t ht => ?_⟩
        rcases List.mem_cons.1 ht with rfl | ht
        · exact step_kind hs
        · exact hm t ht
    · cases h
theorem lexL_ends {p : Nat} {s : Bs} {l : List Tok} (h : lexL p s = .ok l) : Ends l := lexF_ends _ p s l h
theorem Ends.tail_kind {ts r : List Tok} {t : Tok} {l : List Tok} (h : Ends ts) (e : ts = l ++ t :: r) (hk : t.kind = 4) : r = [] := by
  obtain ⟨m, x, e2, hx, hm⟩ := h
  cases hr : r with
  | nil => rfl
  | cons y r' =>
    exfalso
    rw [e2] at e
    have h1 : m = l ++ t :: (r.dropLast) := by
      have := congrArg List.dropLast e
      rw [List.dropLast_concat] at this
      rw [this, hr]
      simp
    exact hm t (by rw [h1]; simp) hk
theorem pw_same {c : Cx} (hφ : ∀ p, c.φ p = p) : ∀ (l : List Tok), Pw c l l
  | [] => .nil
  | t :: l => .cons ⟨rfl, rfl, rfl, (hφ _).symm⟩ (pw_same hφ l)
theorem pw_shift {c : Cx} (q : Nat) (hφ : ∀ p, c.φ p = p + q) : ∀ (l : List Tok), Pw c l (l.map (Tok.shift q))
  | [] => .nil
  | t :: l => .cons ⟨rfl, rfl, rfl, (hφ _).symm⟩ (pw_shift q hφ l)
theorem ends_lst {ts : List Tok} {nd : List Nd} {d : Nat} (h : Ends ts) : Lst ⟨ts, nd, d⟩ := let ⟨m, e, h1, h2, _⟩ := h; ⟨m, e, h1, h2⟩
def rootN (ts : List Tok) : Nd := ⟨1, (ts.headD endTok).at_, [], 0, []⟩
theorem parseT_eq (ts : List Tok) : parseT ts = match wholeL (ts.length + 1) ⟨ts, [rootN ts], 0⟩ with
  | .ok _ s => .ok s.nd
  | .err e p => .err p e := rfl
theorem root_good {ts : List Tok} (h : Ends ts) : Good ⟨ts, [rootN ts], 0⟩ := ⟨ends_lst h, Nat.zero_le _, fun n hn => by
  rw [List.mem_singleton.1 hn]
  simp [rootN]⟩
theorem shift_ends {ts : List Tok} (q : Nat) (h : Ends ts) : Ends (ts.map (Tok.shift q)) := by
  obtain ⟨m, e, rfl, h2, h3⟩ := h
  refine ⟨m.map (Tok.shift q), e.shift q, by simp, h2, fun t ht => ?_⟩
  obtain ⟨x, hx, rfl⟩ := List.mem_map.1 ht
  exact h3 x hx
theorem map_id_on {X : List Nd} {c : Cx} (h1 : ∀ p, c.φ p = p) (h2 : ∀ i, c.ι i = i) : X.map c.mv = X := by
  conv => rhs; rw [← List.map_id X]
  apply List.map_congr_left
  intro n _
  unfold Cx.mv
  rw [h1]
  have : n.kids.map c.ι = n.kids := by
    conv => rhs; rw [← List.map_id n.kids]
    exact List.map_congr_left fun i _ => h2 i
  rw [this]
  rfl
/-- Behind a source that is of the grammar: its nodes stand, and what follows is read from the root on. -/
theorem run_behind {Ta U : List Tok} {Ea : Tok} (ha : Ends (Ta ++ [Ea])) (hu : Ends U) {x : List Nd} (hx : parseT (Ta ++ [Ea]) = .ok x) :
    ∃ x0 X f, x = x0 :: X ∧ U.length < f ∧ wholeL ((Ta ++ U).length + 1) ⟨Ta ++ U, [rootN (Ta ++ U)], 0⟩ = wholeL f ⟨U, { rootN (Ta ++ U) with kids := x0.kids } :: X, 0⟩ := by
  rw [parseT_eq] at hx
  cases hw : wholeL ((Ta ++ [Ea]).length + 1) ⟨Ta ++ [Ea], [rootN (Ta ++ [Ea])], 0⟩ with
  | err e p => rw [hw] at hx; cases hx
  | ok a sA =>
    rw [hw] at hx
    injection hx with hx
    have hmn : Ends (Ta ++ U) := by
      obtain ⟨m, e, rfl, h2, h3⟩ := hu
      obtain ⟨m', e', h4, h5, h6⟩ := ha
      have : m' = Ta := by
        have := congrArg List.dropLast h4
        rw [List.dropLast_concat, List.dropLast_concat] at this
        exact this.symm
      subst this
      refine ⟨m' ++ m, e, by simp, h2, fun t ht => ?_⟩
      rcases List.mem_append.1 ht with ht | ht
      · exact h6 t ht
      · exact h3 t ht
    obtain ⟨c, hc⟩ : ∃ c : Cx, c = ⟨fun p => p, [], [], rootN (Ta ++ U), [Ea], U⟩ := ⟨_, rfl⟩
    have hφ : ∀ p, c.φ p = p := fun p => by rw [hc]
    have hι : ∀ i, c.ι i = i := fun i => by rw [hc]; unfold Cx.ι; split <;> simp_all
    have hV : c.V = [Ea] := by rw [hc]
    have hV' : c.V' = U := by rw [hc]
    have hr : Rel c ⟨Ta ++ [Ea], [rootN (Ta ++ [Ea])], 0⟩ ⟨Ta ++ U, [rootN (Ta ++ U)], 0⟩ := ⟨⟨Ta, Ta, by rw [hV], by rw [hV'], pw_same hφ Ta⟩, by simp, by rw [hc]; rfl, rfl, ends_lst ha, ends_lst hmn⟩
    have h := whole_run c ((Ta ++ [Ea]).length + 1) ((Ta ++ U).length + 1) _ _ hr (root_good ha) (Nat.lt_succ_self _) (Nat.lt_succ_self _)
    cases h with
    | seam u u' f f' r e e' l l' h h' d g =>
      have hk : u.hd.kind = 4 := by
        obtain ⟨m', e1, h4, h5, h6⟩ := ha
        have : e1 = Ea := by
          have := congrArg (fun l : List Tok => l.getLast?) h4
          simpa using this.symm
        unfold Ps.hd
        rw [e, hV]
        show Ea.kind = 4
        rw [← this]
        exact h5
      have hok : wholeL f u = .ok () u := by
        cases f with
        | zero => omega
        | succ f => rw [wholeL, if_pos hk]
      rw [hw, hok] at h
      injection h with _ h
      subst h
      have hnd := r.nd
      have hne := r.ne
      rw [← hx]
      cases hq : sA.nd with
      | nil => exact absurd hq hne
      | cons x0 X =>
        refine ⟨x0, X, f', rfl, by rw [e', hV'] at l'; exact l', ?_⟩
        rw [h']
        congr 1
        have hdd : u'.deep = 0 := by rw [r.deep, d]
        obtain ⟨uts, und, ud⟩ := u'
        simp only at e' hdd hnd
        rw [e', hV', hdd, hnd, hq]
        congr 1
        show ({ c.R0 with kids := c.K ++ x0.kids.map c.ι } : Nd) :: (c.A ++ X.map c.mv) = _
        rw [map_id_on hφ hι]
        have : x0.kids.map c.ι = x0.kids := by
          conv => rhs; rw [← List.map_id x0.kids]
          exact List.map_congr_left fun i _ => hι i
        rw [this, hc]
        simp
    | done u u' r h h' k t n =>
      exfalso
      obtain ⟨pre, hp⟩ := t
      obtain ⟨r1, r2, e1, e2, hpw⟩ := r.toks
      cases hpw with
      | nil =>
        rcases n with n | n
        · exact n e1
        · exact n e2
      | cons ht hr2 =>
        rename_i t t' r1 r2
        have hd : u.hd = t := by unfold Ps.hd; rw [e1]; rfl
        have := ha.tail_kind (l := pre) (t := t) (r := r1 ++ c.V) (by rw [show Ta ++ [Ea] = pre ++ u.ts from hp, e1]; rfl) (by rw [← hd]; exact k)
        rw [hV] at this
        simp at this
    | fail e p h h' => rw [hw] at h; cases h
    | past y y' k k' i i' h h' =>
      exfalso
      cases hy : y with
      | err e p => rw [hy] at h; rw [hw] at h; cases h
      | ok b t =>
        rw [hy, hV] at i
        obtain ⟨l1, pre, _, l2⟩ := i
        have := l1.pos
        have l3 : t.ts.length < 1 := l2
        omega
/-- .. and what follows is read as by itself, at its places, its nodes behind. -/
theorem run_from (q : Nat) {Tb : List Tok} (hb : Ends Tb) (R0 : Nd) (K : List Nat) (X : List Nd) (f : Nat) (hf : (Tb.map (Tok.shift q)).length < f) :
    match parseT Tb with
    | .ok y => ∃ y0 Y s, y = y0 :: Y ∧ wholeL f ⟨Tb.map (Tok.shift q), { R0 with kids := K } :: X, 0⟩ = .ok () s ∧ ∃ c : Cx, c.φ = (fun p => p + q) ∧ c.A.length = X.length ∧ s.nd = { R0 with kids := K ++ y0.kids.map c.ι } :: (X ++ Y.map c.mv)
    | .err p e => wholeL f ⟨Tb.map (Tok.shift q), { R0 with kids := K } :: X, 0⟩ = .err e (p + q) := by
  obtain ⟨c, hc⟩ : ∃ c : Cx, c = ⟨fun p => p + q, K, X, R0, [], []⟩ := ⟨_, rfl⟩
  have hφ : ∀ p, c.φ p = p + q := fun p => by rw [hc]
  have hV : c.V = [] := by rw [hc]
  have hV' : c.V' = [] := by rw [hc]
  have hr : Rel c ⟨Tb, [rootN Tb], 0⟩ ⟨Tb.map (Tok.shift q), { R0 with kids := K } :: X, 0⟩ := ⟨⟨Tb, Tb.map (Tok.shift q), by rw [hV, List.append_nil], by rw [hV', List.append_nil], pw_shift q hφ Tb⟩, by simp, by rw [hc]; simp [Cx.emb, rootN], rfl, ends_lst hb, ends_lst (shift_ends q hb)⟩
  have h := whole_run c (Tb.length + 1) f _ _ hr (root_good hb) (Nat.lt_succ_self _) hf
  rw [parseT_eq]
  cases h with
  | seam u u' f f' r e e' l l' h h' d g =>
    exfalso
    have := r.lst.pos
    rw [e, hV] at this
    simp at this
  | done u u' r h h' k t n =>
    rw [h]
    have hnd := r.nd
    cases hq : u.nd with
    | nil => exact absurd hq r.ne
    | cons y0 Y =>
      refine ⟨y0, Y, u', hq, h', c, by rw [hc], by rw [hc], ?_⟩
      rw [hnd, hq, hc]
      rfl
  | fail e p h h' =>
    rw [h]
    show wholeL f _ = _
    rw [h', hφ]
  | past y y' k k' i i' h h' =>
    exfalso
    cases hy : y with
    | err e p => rw [hy, hV] at i; obtain ⟨_, t, ht, _⟩ := i; cases ht
    | ok b t =>
      rw [hy, hV] at i
      obtain ⟨l1, pre, l2, _⟩ := i
      have := l1.pos
      have h3 := congrArg List.length l2
      rw [List.length_append] at h3
      simp at h3
      omega
end Go.Proofs.YtcccnicldbpieaaGreatDoor
