/- A source behind another one: what is answered; places of nodes. No condition. -/
import Derived.Test.YtcccnicldbpieaaGreatDoorPgD
namespace Go.Proofs.YtcccnicldbpieaaGreatDoor
set_option linter.unusedVariables false
set_option linter.unusedSimpArgs false
/-- What is answered looks at places only to hand them on; the root stays. -/
theorem parseT_self {ts : List Tok} (hb : Ends ts) (φ : Nat → Nat) (hφ : ∀ t ∈ ts, φ t.at_ = t.at_) {y : List Nd} (h : parseT ts = .ok y) : ∃ y0 Y, y = y0 :: Y ∧ y0 = { rootN ts with kids := y0.kids } ∧ ∀ n ∈ Y, φ n.pos = n.pos := by
  obtain ⟨c, hc⟩ : ∃ c : Cx, c = ⟨φ, [], [], rootN ts, [], []⟩ := ⟨_, rfl⟩
  have hV : c.V = [] := by rw [hc]
  have hV' : c.V' = [] := by rw [hc]
  have hι : ∀ i, c.ι i = i := fun i => by rw [hc]; unfold Cx.ι; split <;> simp_all
  have hp : ∀ l : List Tok, (∀ t ∈ l, φ t.at_ = t.at_) → Pw c l l := by
    intro l
    induction l with
    | nil => intro _; exact .nil
    | cons t l ih => intro hl; exact .cons ⟨rfl, rfl, rfl, by rw [hc]; exact (hl t (List.mem_cons_self ..)).symm⟩ (ih fun x hx => hl x (List.mem_cons_of_mem _ hx))
  have hr : Rel c ⟨ts, [rootN ts], 0⟩ ⟨ts, [rootN ts], 0⟩ := ⟨⟨ts, ts, by rw [hV, List.append_nil], by rw [hV', List.append_nil], hp ts hφ⟩, by simp, by rw [hc]; rfl, rfl, ends_lst hb, ends_lst hb⟩
  have hw := whole_run c (ts.length + 1) (ts.length + 1) _ _ hr (root_good hb) (Nat.lt_succ_self _) (Nat.lt_succ_self _)
  rw [parseT_eq] at h
  cases hq : wholeL (ts.length + 1) ⟨ts, [rootN ts], 0⟩ with
  | err e p => rw [hq] at h; cases h
  | ok a s =>
    rw [hq] at h
    injection h with h
    cases hw with
    | seam u u' f f' r e e' l l' h h' d g =>
      exfalso
      have := r.lst.pos
      rw [e, hV] at this
      simp at this
    | done u u' r h1 h2 k t n =>
      rw [hq] at h1 h2
      injection h1 with _ h1
      injection h2 with _ h2
      subst h1 h2
      have hnd := r.nd
      cases hs : s.nd with
      | nil => exact absurd hs r.ne
      | cons y0 Y =>
        rw [hs] at hnd
        have e : y0 :: Y = ({ c.R0 with kids := c.K ++ y0.kids.map c.ι } : Nd) :: (c.A ++ Y.map c.mv) := hnd
        have eR : c.R0 = rootN ts := by rw [hc]
        have eK : c.K = [] := by rw [hc]
        have eA : c.A = [] := by rw [hc]
        have hk : y0.kids.map c.ι = y0.kids := by
          conv => rhs; rw [← List.map_id y0.kids]
          exact List.map_congr_left fun i _ => hι i
        rw [eR, eK, eA, List.nil_append, List.nil_append, hk] at e
        injection e with e1 e2
        refine ⟨y0, Y, by rw [← h, hs], e1, fun n hn => ?_⟩
        obtain ⟨i, hi, rfl⟩ := List.mem_iff_getElem.1 hn
        have : (Y.map c.mv)[i]'(by simpa using hi) = Y[i] := by simp only [← e2]
        rw [List.getElem_map] at this
        have := congrArg Nd.pos this
        rw [hc] at this
        exact this
    | fail e p h h' => rw [hq] at h; cases h
    | past y y' k k' i i' h h' =>
      exfalso
      cases hy : y with
      | err e p => rw [hy, hV] at i; obtain ⟨_, t, ht, _⟩ := i; cases ht
      | ok b t =>
        rw [hy, hV] at i
        obtain ⟨l1, pre, l2, _⟩ := i
        have := l1.pos
        have h3 := congrArg List.length l2
        rw [List.length_append] at h3
        simp at h3
        omega
theorem lexS_toks {l : Bs} {ts : List Tok} (h : lexS l = .ok ts) : lexL 0 l = .ok ts ∧ l.length ≤ 65536 := by
  unfold lexS at h
  split at h
  · cases h
  · exact ⟨h, by omega⟩
theorem parseS_ok {l : Bs} {y : List Nd} (h : parseS l = .ok y) : ∃ ts, lexL 0 l = .ok ts ∧ parseT ts = .ok y ∧ l.length ≤ 65536 := by
  unfold parseS at h
  cases hl : lexS l with
  | err a e => rw [hl] at h; cases h
  | ok ts => rw [hl] at h; exact ⟨ts, (lexS_toks hl).1, h, (lexS_toks hl).2⟩
theorem lexS_of {l : Bs} (h : l.length ≤ 65536) : lexS l = lexL 0 l := by unfold lexS; rw [if_neg (by omega)]
theorem nodes_low {l : Bs} {y : List Nd} (h : parseS l = .ok y) : ∃ y0 Y, y = y0 :: Y ∧ y0.kind = 1 ∧ y0.text = [] ∧ y0.num = 0 ∧ ∀ n ∈ y, n.pos ≤ l.length := by
  obtain ⟨ts, h1, h2, h3⟩ := parseS_ok h
  have hlo := (lexL_toks h1).2.2
  have hb := lexL_ends h1
  obtain ⟨y0, Y, e, e0, eY⟩ := parseT_self hb (fun p => min p l.length) (fun t ht => by have := hlo t ht; omega) h2
  refine ⟨y0, Y, e, by rw [e0]; rfl, by rw [e0]; rfl, by rw [e0]; rfl, fun n hn => ?_⟩
  rw [e] at hn
  rcases List.mem_cons.1 hn with rfl | hn
  · rw [e0]
    show (ts.headD endTok).at_ ≤ _
    cases ts with
    | nil => exact Nat.zero_le _
    | cons t r => exact hlo t (List.mem_cons_self ..)
  · have h9 : min n.pos l.length = n.pos := eY n hn
    omega
theorem joined_plain (a b : Bs) (ha : a.length ≤ 500) (hb : b.length ≤ 500) : match parseS a with
    | .err _ _ => True
    | .ok x => match parseS b with
      | .err _ _ => ∃ p e, parseS (a ++ 10 :: b) = .err p e
      | .ok y => ∃ x0 X y0 Y z0 c, x = x0 :: X ∧ y = y0 :: Y ∧ parseS (a ++ 10 :: b) = .ok (z0 :: (X ++ Y.map (Cx.mv c))) ∧ z0.kids.length = x0.kids.length + y0.kids.length ∧ ∀ p, c.φ p = p + (a.length + 1) := by
  have hj : lexL 0 (a ++ 10 :: b) = (lexL 0 a).join ((lexL 0 b).shift (a.length + 1)) := by
    rw [lexL_join a.length 0 a b (Nat.le_refl _), show 0 + a.length + 1 = 0 + (a.length + 1) by omega, lexL_shift]
  have hz : parseS (a ++ 10 :: b) = match (lexL 0 a).join ((lexL 0 b).shift (a.length + 1)) with
      | .ok ts => parseT ts
      | .err p e => .err p e := by
    unfold parseS
    rw [lexS_of (by simp; omega), hj]
    cases (lexL 0 a).join ((lexL 0 b).shift (a.length + 1)) <;> rfl
  cases hx : parseS a with
  | err _ _ => trivial
  | ok x =>
    obtain ⟨ta, la, pa, _⟩ := parseS_ok hx
    have ea := lexL_ends la
    obtain ⟨Ta, Ea, rfl, hk4, hm⟩ := lexL_ends la
    cases lb : lexL 0 b with
    | err q e =>
      have : parseS b = .err q e := by unfold parseS; rw [lexS_of (by omega), lb]
      rw [this]
      refine ⟨q + (a.length + 1), e, ?_⟩
      rw [hz, la, lb]
      rfl
    | ok tb =>
      have eb := lexL_ends lb
      have hz2 : parseS (a ++ 10 :: b) = parseT (Ta ++ tb.map (Tok.shift (a.length + 1))) := by
        rw [hz, la, lb]
        show parseT ((Ta ++ [Ea]).dropLast ++ tb.map (Tok.shift (a.length + 1))) = _
        rw [List.dropLast_concat]
      have hpb : parseS b = parseT tb := by unfold parseS; rw [lexS_of (by omega), lb]
      obtain ⟨x0, X, f, e, hf, hr⟩ := run_behind ea (shift_ends (a.length + 1) eb) pa
      have hfrom := run_from (a.length + 1) eb (rootN (Ta ++ tb.map (Tok.shift (a.length + 1)))) x0.kids X f hf
      rw [hpb]
      cases hpt : parseT tb with
      | err q e2 =>
        rw [hpt] at hfrom
        refine ⟨q + (a.length + 1), e2, ?_⟩
        rw [hz2, parseT_eq, hr, hfrom]
      | ok y =>
        rw [hpt] at hfrom
        obtain ⟨y0, Y, s, ey, hs, c, hcφ, hcA, hnd⟩ := hfrom
        refine ⟨x0, X, y0, Y, { rootN (Ta ++ tb.map (Tok.shift (a.length + 1))) with kids := x0.kids ++ y0.kids.map c.ι }, c, e, ey, ?_, ?_, fun p => by rw [hcφ]⟩
        · rw [hz2, parseT_eq, hr, hs]
          show ParseR.ok s.nd = _
          rw [hnd]
        · simp
end Go.Proofs.YtcccnicldbpieaaGreatDoor
