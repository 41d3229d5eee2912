/- What a source's words are, as plain Lean: the steps of the document's reading; what follows for rows of tokens. No condition. -/
import Init
namespace Go.Proofs.YtcccnicldbpieaaGreatDoor
set_option linter.unusedVariables false
set_option linter.unusedSimpArgs false
abbrev Bs := List UInt8
def letterB (c : UInt8) : Bool := decide (97 ≤ c.toNat) && decide (c.toNat ≤ 122)
def digitB (c : UInt8) : Bool := decide (48 ≤ c.toNat) && decide (c.toNat ≤ 57)
def blankB (c : UInt8) : Bool := c == 32 || c == 9 || c == 10 || c == 13
def wordB (c : UInt8) : Bool := letterB c || digitB c || c == 95
def markL : Bs := [123, 125, 40, 41, 91, 93, 59, 44, 46, 43, 45, 42, 60, 61]
def markB (c : UInt8) : Bool := markL.contains c
structure Tok where
  kind : Nat
  at_ : Nat
  en : Nat
  text : Bs
  n : Int
  deriving DecidableEq
def numTo : Int → Bs → Option Int
  | n, [] => some n
  | n, c :: r => if 2147483647 < n * 10 + ((c.toNat : Int) - 48) then none else numTo (n * 10 + ((c.toNat : Int) - 48)) r
inductive Step where
  | fin
  | skip (k : Nat)
  | tok (kind k : Nat) (n : Int)
  | bad (e : Int)
  deriving DecidableEq
def stepD (r : Bs) (c : UInt8) : Step :=
  match numTo 0 (c :: r.takeWhile digitB) with
  | none => .bad 31
  | some n => .tok 2 (1 + (r.takeWhile digitB).length) n
def stepC (c : UInt8) (r : Bs) : Step :=
  if blankB c then .skip 1
  else if c == 35 then .skip (1 + (r.takeWhile fun x => x != 10).length)
  else if letterB c then .tok 1 (1 + (r.takeWhile wordB).length) 0
  else if digitB c then stepD r c
  else if c == 61 && r.head? == some 61 then .tok 3 2 0
  else if markB c then .tok 3 1 0
  else .bad 30
def step : Bs → Step
  | [] => .fin
  | c :: r => stepC c r
inductive LexR where
  | ok (l : List Tok)
  | err (at_ : Nat) (e : Int)
  deriving DecidableEq
def LexR.cons (t : Tok) : LexR → LexR
  | .ok l => .ok (t :: l)
  | .err a e => .err a e
def lexF : Nat → Nat → Bs → LexR
  | 0, p, _ => .err p 0
  | f + 1, p, s => match step s with
    | .fin => .ok [⟨4, p, p, [], 0⟩]
    | .skip k => lexF f (p + k) (s.drop k)
    | .tok kd k n => (lexF f (p + k) (s.drop k)).cons ⟨kd, p, p + k, s.take k, n⟩
    | .bad e => .err p e
def lexL (p : Nat) (s : Bs) : LexR := lexF (s.length + 1) p s
def Step.wide : Step → Nat → Prop
  | .fin, n => n = 0
  | .skip k, n => 1 ≤ k ∧ k ≤ n
  | .tok _ k _, n => 1 ≤ k ∧ k ≤ n
  | .bad _, n => 1 ≤ n
theorem tw_le {α : Type} (p : α → Bool) (l : List α) : (l.takeWhile p).length ≤ l.length := (List.takeWhile_prefix p).length_le
theorem step_wide (s : Bs) : (step s).wide s.length := by
  cases s with
  | nil => exact rfl
  | cons c r =>
    show (stepC c r).wide (r.length + 1)
    unfold stepC
    split
    · exact ⟨by omega, by omega⟩
    · split
      · have := tw_le (fun x : UInt8 => x != 10) r; exact ⟨by omega, by omega⟩
      · split
        · have := tw_le wordB r; exact ⟨by omega, by omega⟩
        · split
          · unfold stepD
            split
            · exact Nat.le_add_left ..
            · have := tw_le digitB r; exact ⟨by omega, by omega⟩
          · split
            · rename_i h
              cases r with
              | nil => simp at h
              | cons d r => exact ⟨by omega, by simp⟩
            · split
              · exact ⟨by omega, by omega⟩
              · exact Nat.le_add_left ..
theorem lexF_fuel : ∀ (f g p : Nat) (s : Bs), s.length < f → s.length < g → lexF f p s = lexF g p s
  | 0, _, _, _, h, _ => absurd h (by omega)
  | _, 0, _, _, _, h => absurd h (by omega)
  | f + 1, g + 1, p, s, hf, hg => by
    have hw := step_wide s
    unfold lexF
    cases hs : step s with
    | fin => rfl
    | bad e => rfl
    | skip k =>
      rw [hs] at hw
      have h1 : 1 ≤ k := hw.1
      have h2 : k ≤ s.length := hw.2
      exact lexF_fuel f g _ _ (by simp; omega) (by simp; omega)
    | tok kd k n =>
      rw [hs] at hw
      have h1 : 1 ≤ k := hw.1
      have h2 : k ≤ s.length := hw.2
      show LexR.cons _ _ = LexR.cons _ _
      rw [lexF_fuel f g _ _ (by simp; omega) (by simp; omega)]
theorem lexL_fin (p : Nat) : lexL p [] = .ok [⟨4, p, p, [], 0⟩] := rfl
theorem lexL_skip {p k : Nat} {s : Bs} (h : step s = .skip k) : lexL p s = lexL (p + k) (s.drop k) := by
  have hw := step_wide s
  rw [h] at hw
  have h1 : 1 ≤ k := hw.1
  have h2 : k ≤ s.length := hw.2
  unfold lexL
  rw [lexF, h]
  exact lexF_fuel _ _ _ _ (by simp; omega) (by simp)
theorem lexL_tok {p kd k : Nat} {n : Int} {s : Bs} (h : step s = .tok kd k n) : lexL p s = (lexL (p + k) (s.drop k)).cons ⟨kd, p, p + k, s.take k, n⟩ := by
  have hw := step_wide s
  rw [h] at hw
  have h1 : 1 ≤ k := hw.1
  have h2 : k ≤ s.length := hw.2
  unfold lexL
  rw [lexF, h]
  show LexR.cons _ _ = LexR.cons _ _
  rw [lexF_fuel s.length ((s.drop k).length + 1) _ _ (by simp; omega) (by simp)]
theorem lexL_bad {p : Nat} {e : Int} {s : Bs} (h : step s = .bad e) : lexL p s = .err p e := by
  unfold lexL
  rw [lexF, h]
/-- What is read ahead of the rest. -/
def LexR.pre : List Tok → LexR → LexR
  | l, .ok m => .ok (l ++ m)
  | _, .err a e => .err a e
theorem pre_nil (r : LexR) : LexR.pre [] r = r := by cases r <;> rfl
theorem pre_snoc (l : List Tok) (t : Tok) (r : LexR) : LexR.pre (l ++ [t]) r = LexR.pre l (r.cons t) := by
  cases r with
  | ok m => simp [LexR.pre, LexR.cons]
  | err a e => rfl
/-! ### The source with another one behind -/
theorem tw_app {p : UInt8 → Bool} {x : UInt8} (hx : p x = false) : ∀ (r b : Bs), (r ++ x :: b).takeWhile p = r.takeWhile p
  | [], b => by simp [List.takeWhile_cons, hx]
  | c :: r, b => by
    simp only [List.cons_append, List.takeWhile_cons]
    rw [tw_app hx r b]
theorem step_line (c : UInt8) (r b : Bs) : step (c :: r ++ 10 :: b) = step (c :: r) := by
  show stepC c (r ++ 10 :: b) = stepC c r
  have h1 : (r ++ 10 :: b).takeWhile (fun x => x != 10) = r.takeWhile (fun x => x != 10) := tw_app (by decide) r b
  have h2 : (r ++ 10 :: b).takeWhile wordB = r.takeWhile wordB := tw_app (by decide) r b
  have h3 : (r ++ 10 :: b).takeWhile digitB = r.takeWhile digitB := tw_app (by decide) r b
  have h4 : ((r ++ 10 :: b).head? == some 61) = (r.head? == some 61) := by cases r <;> rfl
  unfold stepC stepD
  rw [h1, h2, h3, h4]
def Tok.shift (q : Nat) (t : Tok) : Tok := { t with at_ := t.at_ + q, en := t.en + q }
def LexR.shift (q : Nat) : LexR → LexR
  | .ok l => .ok (l.map (Tok.shift q))
  | .err a e => .err (a + q) e
theorem cons_shift (q : Nat) (t : Tok) (r : LexR) : (r.cons t).shift q = (r.shift q).cons (t.shift q) := by cases r <;> rfl
theorem lexF_shift : ∀ (f p q : Nat) (s : Bs), lexF f (p + q) s = (lexF f p s).shift q
  | 0, _, _, _ => rfl
  | f + 1, p, q, s => by
    unfold lexF
    cases step s with
    | fin => rfl
    | bad e => rfl
    | skip k =>
      show lexF f (p + q + k) _ = _
      rw [show p + q + k = p + k + q from by omega, lexF_shift f (p + k) q]
    | tok kd k n =>
      show LexR.cons _ (lexF f (p + q + k) _) = LexR.shift q (LexR.cons _ _)
      rw [show p + q + k = p + k + q from by omega, lexF_shift f (p + k) q, cons_shift]
      unfold Tok.shift
      simp only [show p + k + q = p + q + k from by omega]
theorem lexL_shift (p q : Nat) (s : Bs) : lexL (p + q) s = (lexL p s).shift q := lexF_shift _ p q s
/-- A source, a line's end, another source. -/
def LexR.join : LexR → LexR → LexR
  | .ok l, r => r.pre l.dropLast
  | .err a e, _ => .err a e
theorem cons_ok {t : Tok} {r : LexR} {l : List Tok} (h : r.cons t = .ok l) : ∃ m, r = .ok m ∧ l = t :: m := by
  cases r with
  | ok m => exact ⟨m, rfl, by injection h with h; exact h.symm⟩
  | err a e => cases h
theorem cons_err {t : Tok} {r : LexR} {a : Nat} {e : Int} (h : r.cons t = .err a e) : r = .err a e := by
  cases r with
  | ok m => cases h
  | err a' e' => injection h with h1 h2; subst h1 h2; rfl
theorem lexF_ne : ∀ (f p : Nat) (s : Bs) (l : List Tok), lexF f p s = .ok l → l ≠ []
  | 0, _, _, _, h => by cases h
  | f + 1, p, s, l, h => by
    unfold lexF at h
    cases hs : step s with
    | fin => rw [hs] at h; injection h with h; subst h; simp
    | bad e => rw [hs] at h; cases h
    | skip k => rw [hs] at h; exact lexF_ne f _ _ l h
    | tok kd k n =>
      rw [hs] at h
      obtain ⟨m, _, rfl⟩ := cons_ok h
      simp
theorem lexL_ne {p : Nat} {s : Bs} {l : List Tok} (h : lexL p s = .ok l) : l ≠ [] := lexF_ne _ p s l h
theorem pre_cons (t : Tok) (l : List Tok) (r : LexR) : LexR.pre (t :: l) r = (r.pre l).cons t := by cases r <;> rfl
theorem lexL_join : ∀ (n p : Nat) (a b : Bs), a.length ≤ n → lexL p (a ++ 10 :: b) = (lexL p a).join (lexL (p + a.length + 1) b)
  | n, p, [], b, _ => by
    rw [List.nil_append, lexL_skip (k := 1) (by rfl), lexL_fin]
    show lexL (p + 1) b = LexR.pre [] _
    rw [pre_nil]
    rfl
  | 0, p, c :: r, b, h => absurd h (by simp)
  | n + 1, p, c :: r, b, h => by
    have hl : (c :: r).length ≤ n + 1 := h
    have hw := step_wide (c :: r)
    have hst := step_line c r b
    cases hs : step (c :: r) with
    | fin => rw [hs] at hw; exact absurd hw (by simp [Step.wide])
    | bad e =>
      rw [hs] at hst
      rw [lexL_bad hst, lexL_bad hs]
      rfl
    | skip k =>
      rw [hs] at hst hw
      have h1 : 1 ≤ k := hw.1
      have h2 : k ≤ (c :: r).length := hw.2
      rw [lexL_skip hst, lexL_skip hs, List.drop_append_of_le_length h2, lexL_join n _ _ b (by simp at h2 ⊢; simp at hl; omega)]
      rw [show p + k + ((c :: r).drop k).length + 1 = p + (c :: r).length + 1 from by simp at h2 ⊢; omega]
    | tok kd k n' =>
      rw [hs] at hst hw
      have h1 : 1 ≤ k := hw.1
      have h2 : k ≤ (c :: r).length := hw.2
      rw [lexL_tok hst, lexL_tok hs, List.drop_append_of_le_length h2, List.take_append_of_le_length h2, lexL_join n _ _ b (by simp at h2 ⊢; simp at hl; omega)]
      rw [show p + k + ((c :: r).drop k).length + 1 = p + (c :: r).length + 1 from by simp at h2 ⊢; omega]
      cases hl2 : lexL (p + k) ((c :: r).drop k) with
      | err a e => rfl
      | ok l =>
        have hne := lexL_ne hl2
        cases l with
        | nil => exact absurd rfl hne
        | cons t m =>
          show LexR.cons _ (LexR.pre (t :: m).dropLast _) = LexR.pre (_ :: t :: m).dropLast _
          rw [List.dropLast_cons_cons, pre_cons]
/-! ### Places rise; what stands between is read as nothing -/
theorem tw_take {p : UInt8 → Bool} : ∀ (r : Bs) (m : Nat), (r.takeWhile p).length ≤ m → (r.take m).takeWhile p = r.takeWhile p
  | [], m, _ => by simp
  | c :: r, 0, h => by
    rw [List.takeWhile_cons] at h ⊢
    split at h
    · simp at h
    · rename_i hc; simp [hc]
  | c :: r, m + 1, h => by
    rw [List.take_succ_cons, List.takeWhile_cons, List.takeWhile_cons]
    by_cases hc : p c = true
    · rw [if_pos hc, if_pos hc]
      rw [List.takeWhile_cons, if_pos hc] at h
      rw [tw_take r m (by simpa using h)]
    · rw [if_neg hc, if_neg hc]
theorem step_skip_take {s : Bs} {k m : Nat} (h : step s = .skip k) (hm : k ≤ m) : step (s.take m) = .skip k := by
  cases s with
  | nil => cases h
  | cons c r =>
    have hw := step_wide (c :: r)
    rw [h] at hw
    obtain ⟨m', rfl⟩ : ∃ m', m = m' + 1 := ⟨m - 1, by have : 1 ≤ k := hw.1; omega⟩
    rw [List.take_succ_cons]
    have h' : stepC c r = .skip k := h
    show stepC c (r.take m') = .skip k
    unfold stepC at h' ⊢
    split at h'
    · rename_i hb; rw [if_pos hb]; exact h'
    · rename_i hb
      rw [if_neg hb]
      split at h'
      · rename_i h35
        rw [if_pos h35]
        injection h' with h'
        rw [tw_take r m' (by omega), h']
      · rename_i h35
        rw [if_neg h35]
        split at h'
        · cases h'
        · split at h'
          · unfold stepD at h'; split at h' <;> cases h'
          · split at h'
            · cases h'
            · split at h' <;> cases h'
/-- The next token, or the end: how many bytes are passed over ahead of it. -/
theorem lexF_next : ∀ (f p q : Nat) (s : Bs) (t : Tok) (l : List Tok), s.length < f → lexF f p s = .ok (t :: l) →
    ∃ m, m ≤ s.length ∧ t.at_ = p + m ∧ t.en ≤ p + s.length ∧ t.at_ ≤ t.en ∧ t.text = (s.drop m).take (t.en - t.at_) ∧ lexL q (s.take m) = .ok [⟨4, q + m, q + m, [], 0⟩] ∧
      ((t.kind = 4 ∧ l = [] ∧ t.en = p + s.length ∧ t.text = [] ∧ t.n = 0) ∨ (t.kind ≠ 4 ∧ t.at_ < t.en ∧ lexL t.en (s.drop (t.en - p)) = .ok l ∧ step (s.drop m) = .tok t.kind (t.en - t.at_) t.n))
  | 0, _, _, _, _, _, h, _ => absurd h (by omega)
  | f + 1, p, q, s, t, l, hf, h => by
    have hw := step_wide s
    unfold lexF at h
    cases hs : step s with
    | fin =>
      rw [hs] at h hw
      have h0 : s.length = 0 := hw
      have : s = [] := List.eq_nil_of_length_eq_zero h0
      subst this
      injection h with h
      injection h with h1 h2
      subst h1 h2
      exact ⟨0, by simp, rfl, by simp, by simp, by simp, by rw [List.take_nil]; exact lexL_fin q, .inl ⟨rfl, rfl, by simp, rfl, rfl⟩⟩
    | bad e => rw [hs] at h; cases h
    | skip k =>
      rw [hs] at h hw
      have h1 : 1 ≤ k := hw.1
      have h2 : k ≤ s.length := hw.2
      obtain ⟨m, a1, a2, a3, a4, a5, a6, a7⟩ := lexF_next f (p + k) (q + k) (s.drop k) t l (by simp; omega) h
      rw [List.length_drop] at a1 a3 a7
      refine ⟨k + m, by omega, by omega, by omega, a4, by rw [a5, List.drop_drop], ?_, ?_⟩
      · rw [lexL_skip (step_skip_take hs (by omega)), List.drop_take, show k + m - k = m from by omega, a6, show q + (k + m) = q + k + m from by omega]
      · rcases a7 with ⟨b1, b2, b3, b4, b5⟩ | ⟨b1, b2, b3, b4⟩
        · exact .inl ⟨b1, b2, by omega, b4, b5⟩
        · refine .inr ⟨b1, b2, ?_, by rw [← List.drop_drop]; exact b4⟩
          rw [List.drop_drop, show k + (t.en - (p + k)) = t.en - p from by omega] at b3
          exact b3
    | tok kd k n =>
      rw [hs] at h hw
      have h1 : 1 ≤ k := hw.1
      have h2 : k ≤ s.length := hw.2
      obtain ⟨l', h3, h4⟩ := cons_ok h
      injection h4 with h4 h5
      subst h4 h5
      have hkd : kd ≠ 4 := by
        intro e
        subst e
        cases s with
        | nil => cases hs
        | cons c r =>
          have hs' : stepC c r = _ := hs
          unfold stepC stepD at hs'
          repeat' split at hs'
          all_goals cases hs'
      refine ⟨0, by omega, rfl, by simp only; omega, by simp only; omega, ?_, ?_, .inr ⟨hkd, by simp only; omega, ?_, ?_⟩⟩
      · simp only [List.drop_zero]; rw [show p + k - p = k from by omega]
      · rw [List.take_zero]; exact lexL_fin q
      · simp only
        rw [show p + k - p = k from by omega]
        unfold lexL
        rw [lexF_fuel _ f _ _ (by simp) (by simp; omega)]
        exact h3
      · simp only [List.drop_zero]; rw [show p + k - p = k from by omega]; exact hs
theorem lexL_next {p : Nat} (q : Nat) {s : Bs} {t : Tok} {l : List Tok} (h : lexL p s = .ok (t :: l)) :
    ∃ m, m ≤ s.length ∧ t.at_ = p + m ∧ t.en ≤ p + s.length ∧ t.at_ ≤ t.en ∧ t.text = (s.drop m).take (t.en - t.at_) ∧ lexL q (s.take m) = .ok [⟨4, q + m, q + m, [], 0⟩] ∧
      ((t.kind = 4 ∧ l = [] ∧ t.en = p + s.length ∧ t.text = [] ∧ t.n = 0) ∨ (t.kind ≠ 4 ∧ t.at_ < t.en ∧ lexL t.en (s.drop (t.en - p)) = .ok l ∧ step (s.drop m) = .tok t.kind (t.en - t.at_) t.n)) :=
  lexF_next _ p q s t l (by omega) h
end Go.Proofs.YtcccnicldbpieaaGreatDoor
