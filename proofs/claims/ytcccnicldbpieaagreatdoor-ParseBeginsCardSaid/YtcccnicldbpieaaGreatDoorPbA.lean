/- A beginning of a source that is of the grammar, cut ahead of a token: it is of the grammar, or fails at its end. No condition. -/
import Derived.Test.YtcccnicldbpieaaGreatDoorPgE
namespace Go.Proofs.YtcccnicldbpieaaGreatDoor
set_option linter.unusedVariables false
set_option linter.unusedSimpArgs false
theorem step_tok_take {s : Bs} {kd k m : Nat} {n : Int} (h : step s = .tok kd k n) (hm : k ≤ m) : step (s.take m) = .tok kd k n := by
  cases s with
  | nil => cases h
  | cons c r =>
    have hs' : stepC c r = .tok kd k n := h
    unfold stepC at hs'
    split at hs'
    · cases hs'
    · rename_i h1
      split at hs'
      · cases hs'
      · rename_i h2
        split at hs'
        · rename_i h3
          injection hs' with e1 e2 e3
          subst e1 e2 e3
          obtain ⟨m, rfl⟩ : ∃ j, m = j + 1 := ⟨m - 1, by omega⟩
          rw [List.take_succ_cons]
          show stepC c (r.take m) = _
          unfold stepC
          rw [if_neg h1, if_neg h2, if_pos h3, tw_take r m (by omega)]
        · rename_i h3
          split at hs'
          · rename_i h4
            unfold stepD at hs'
            split at hs'
            · cases hs'
            · rename_i v hv
              injection hs' with e1 e2 e3
              subst e1 e2 e3
              obtain ⟨m, rfl⟩ : ∃ j, m = j + 1 := ⟨m - 1, by omega⟩
              rw [List.take_succ_cons]
              show stepC c (r.take m) = _
              unfold stepC
              rw [if_neg h1, if_neg h2, if_neg h3, if_pos h4]
              unfold stepD
              rw [tw_take r m (by omega), hv]
          · rename_i h4
            split at hs'
            · rename_i h5
              injection hs' with e1 e2 e3
              subst e1 e2 e3
              obtain ⟨m, rfl⟩ : ∃ j, m = j + 2 := ⟨m - 2, by omega⟩
              cases r with
              | nil => simp at h5
              | cons d r =>
                simp at h5
                obtain ⟨rfl, rfl⟩ := h5
                rfl
            · rename_i h5
              split at hs'
              · rename_i h6
                injection hs' with e1 e2 e3
                subst e1 e2 e3
                obtain ⟨m, rfl⟩ : ∃ j, m = j + 1 := ⟨m - 1, by omega⟩
                rw [List.take_succ_cons]
                show stepC c (r.take m) = _
                unfold stepC
                rw [if_neg h1, if_neg h2, if_neg h3, if_neg h4, if_neg ?_, if_pos h6]
                cases m with
                | zero => simp
                | succ m =>
                  cases r with
                  | nil => simp
                  | cons d r => simpa using h5
              · cases hs'
theorem lexF_begin : ∀ (f p : Nat) (s : Bs) (T R : List Tok) (t : Tok), lexF f p s = .ok (T ++ t :: R) → p ≤ t.at_ ∧ t.at_ ≤ p + s.length ∧ lexL p (s.take (t.at_ - p)) = .ok (T ++ [⟨4, t.at_, t.at_, [], 0⟩])
  | 0, p, s, T, R, t, h => by cases h
  | f + 1, p, s, T, R, t, h => by
    have hw := step_wide s
    unfold lexF at h
    split at h
    · injection h with h
      cases T with
      | nil =>
        injection h with h1 h2
        subst h1
        refine ⟨Nat.le_refl _, Nat.le_add_right _ _, ?_⟩
        show lexL p (s.take (p - p)) = _
        rw [Nat.sub_self]
        rfl
      | cons a T => simp at h
    · rename_i k hs
      rw [hs] at hw
      obtain ⟨h1, h2, h3⟩ := lexF_begin f (p + k) (s.drop k) T R t h
      have hw2 : k ≤ s.length := hw.2
      rw [List.length_drop] at h2
      refine ⟨by omega, by omega, ?_⟩
      rw [lexL_skip (step_skip_take hs (by omega)), List.drop_take, ← h3]
      congr 2
      omega
    · rename_i kd k n hs
      rw [hs] at hw
      have hw2 : k ≤ s.length := hw.2
      obtain ⟨m, hm, e⟩ := cons_ok h
      cases T with
      | nil =>
        injection e with h1 h2
        subst h1
        refine ⟨Nat.le_refl _, Nat.le_add_right _ _, ?_⟩
        show lexL p (s.take (p - p)) = _
        rw [Nat.sub_self]
        rfl
      | cons a T =>
        injection e with e1 e2
        rw [← e2] at hm
        obtain ⟨h1, h2, h3⟩ := lexF_begin f (p + k) (s.drop k) T R t hm
        rw [List.length_drop] at h2
        refine ⟨by omega, by omega, ?_⟩
        rw [lexL_tok (step_tok_take hs (by omega)), List.drop_take, show t.at_ - p - k = t.at_ - (p + k) by omega, h3, List.take_take, Nat.min_eq_left (by omega), ← e1]
        rfl
    · cases h
theorem begins_run {T V : List Tok} {E : Tok} (h : Ends (T ++ V)) (hE : Ends (T ++ [E])) (hV : V ≠ []) {y : List Nd} (hy : parseT (T ++ V) = .ok y) : (∃ x, parseT (T ++ [E]) = .ok x) ∨ parseT (T ++ [E]) = .err E.at_ 50 := by
  have hEk : E.kind = 4 := by
    obtain ⟨m, e, h1, h2, _⟩ := hE
    have := congrArg List.getLast? h1
    simp at this
    rw [this]
    exact h2
  obtain ⟨c, hc⟩ : ∃ c : Cx, c = ⟨fun p => p, [], [], rootN (T ++ [E]), V, [E]⟩ := ⟨_, rfl⟩
  have eV : c.V = V := by rw [hc]
  have eV' : c.V' = [E] := by rw [hc]
  have hr : Rel c ⟨T ++ V, [rootN (T ++ V)], 0⟩ ⟨T ++ [E], [rootN (T ++ [E])], 0⟩ := ⟨⟨T, T, by rw [eV], by rw [eV'], pw_same (fun p => by rw [hc]) T⟩, by simp, by rw [hc]; rfl, rfl, ends_lst h, ends_lst hE⟩
  have hw := whole_run c ((T ++ V).length + 1) ((T ++ [E]).length + 1) _ _ hr (root_good h) (Nat.lt_succ_self _) (Nat.lt_succ_self _)
  rw [parseT_eq] at hy ⊢
  cases hw with
  | seam u u' f f' r e e' l l' h h' d g =>
    left
    have hk : u'.hd.kind = 4 := by unfold Ps.hd; rw [e', eV']; exact hEk
    cases f' with
    | zero => omega
    | succ f' =>
      rw [h', whole_end hk]
      exact ⟨_, rfl⟩
  | done u u' r h h' k t n =>
    left
    rw [h']
    exact ⟨_, rfl⟩
  | fail e p h h' => rw [h] at hy; cases hy
  | past z z' k k' i i' h h' =>
    right
    rw [h']
    cases hz : z' with
    | ok b u =>
      exfalso
      rw [hz, eV'] at i'
      obtain ⟨l1, pre, l2, l3⟩ := i'
      have := l1.pos
      rw [List.length_singleton] at l3
      omega
    | err e p =>
      rw [hz, eV'] at i'
      obtain ⟨h1, t, h2, h3, h4⟩ := i'
      obtain rfl := List.mem_singleton.1 h2
      have : e = 50 := by
        rcases h1 with rfl | rfl
        · rfl
        · exact absurd hEk (h4 rfl)
      subst this h3
      rfl
/-- .. in the program's words. -/
theorem begins_plain {l : Bs} {ts : List Tok} {y : List Nd} (h : lexL 0 l = .ok ts) (hy : parseT ts = .ok y) (hl : l.length ≤ 65536) (k : Nat) (hk : k < ts.length) : ts[k].at_ ≤ l.length ∧ ((∃ x, parseS (l.take ts[k].at_) = .ok x) ∨ parseS (l.take ts[k].at_) = .err ts[k].at_ 50) := by
  have hts : ts = ts.take k ++ ts[k] :: ts.drop (k + 1) := by rw [← List.drop_eq_getElem_cons hk, List.take_append_drop]
  have hb := lexL_ends h
  have h' : lexF (l.length + 1) 0 l = .ok (ts.take k ++ ts[k] :: ts.drop (k + 1)) := by rw [← hts]; exact h
  obtain ⟨h1, h2, h3⟩ := lexF_begin _ _ _ _ _ _ h'
  rw [Nat.zero_add] at h2
  rw [Nat.sub_zero] at h3
  refine ⟨h2, ?_⟩
  have he := lexL_ends h3
  have hlx : lexS (l.take ts[k].at_) = .ok (ts.take k ++ [⟨4, ts[k].at_, ts[k].at_, [], 0⟩]) := by rw [lexS_of (by rw [List.length_take]; omega)]; exact h3
  rw [hts] at hb hy
  have := begins_run hb he (List.cons_ne_nil _ _) hy
  unfold parseS
  rw [hlx]
  exact this
end Go.Proofs.YtcccnicldbpieaaGreatDoor
