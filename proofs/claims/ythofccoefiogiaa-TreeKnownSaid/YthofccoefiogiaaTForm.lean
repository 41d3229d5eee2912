/- The plain law of forms: what stands beneath a node, told by forms and told by the document, is the same. No program in sight. -/
namespace Go.Proofs.Ythofccoefiogiaa
set_option linter.unusedVariables false
set_option linter.unusedSimpArgs false
def exprB (k : Int) : Bool := decide (21 ≤ k) && decide (k ≤ 26)
def stmtB (k : Int) : Bool := decide (7 ≤ k) && decide (k ≤ 19)
def partB (k : Int) : Bool := k == 2 || k == 3
inductive PredD where
  | just (k : Int)
  | expr
  | stmt
  | part
def PredD.holds : PredD → Int → Bool
  | .just j, k => k == j
  | .expr, k => exprB k
  | .stmt, k => stmtB k
  | .part, k => partB k
structure FormD where
  kids : List PredD
  more : Option PredD
  named : Bool
  most : Int
def formsN (k : Int) : List FormD :=
  if k = 1 then [⟨[], some .part, false, 0⟩]
  else if k = 2 then [⟨[.just 5], some (.just 5), true, 0⟩]
  else if k = 3 then [⟨[.just 4, .just 6], none, true, 1⟩]
  else if k = 4 then [⟨[], some (.just 5), false, 0⟩]
  else if k = 5 then [⟨[], none, true, 0⟩]
  else if k = 6 then [⟨[], some .stmt, false, 0⟩]
  else if k = 7 then [⟨[.just 20, .just 5], none, true, 1⟩]
  else if k = 8 then [⟨[.just 20, .just 5, .expr], none, false, 0⟩]
  else if k = 9 then [⟨[.just 20, .expr], some .expr, false, 0⟩]
  else if k = 10 then [⟨[.just 20], none, false, 0⟩]
  else if k = 11 then [⟨[.just 5, .just 5], none, true, 0⟩]
  else if k = 12 then [⟨[.just 5], none, false, 1⟩]
  else if k = 13 then [⟨[.just 5], none, false, 0⟩, ⟨[.just 20], none, false, 0⟩]
  else if k = 14 then [⟨[.expr, .expr, .just 6], none, false, 1⟩, ⟨[.expr, .expr, .just 6, .just 6], none, false, 1⟩]
  else if k = 15 then [⟨[.just 21, .just 21, .just 6], none, true, 0⟩]
  else if k = 16 then [⟨[.expr], none, true, 0⟩]
  else if k = 17 then [⟨[.expr], none, false, 0⟩]
  else if k = 18 then [⟨[], none, false, 0⟩]
  else if k = 19 then [⟨[], none, false, 0⟩]
  else if k = 20 then [⟨[.expr], none, true, 0⟩]
  else if k = 21 then [⟨[], none, false, 2147483647⟩]
  else if k = 22 then [⟨[], none, true, 0⟩]
  else if k = 23 then [⟨[.expr, .expr], none, false, 0⟩]
  else if k = 24 then [⟨[.expr, .expr], none, false, 0⟩]
  else if k = 25 then [⟨[.expr, .expr], none, false, 0⟩]
  else if k = 26 then [⟨[.expr], none, false, 0⟩]
  else []
/-- The kind that the i-th kid is asked to be of. -/
def FormD.want (f : FormD) (i : Nat) : Option PredD := if i < f.kids.length then f.kids[i]? else f.more
def wantOk (p : Option PredD) (k : Int) : Bool := match p with | none => false | some p => p.holds k
def FormD.fits (f : FormD) (l : List Int) : Bool :=
  if l.length < f.kids.length ∨ (f.kids.length < l.length ∧ f.more.isNone = true) then false
  else (List.range l.length).all fun i => wantOk (f.want i) (l.getD i 0)
def letterB (c : Int) : Bool := decide (97 ≤ c) && decide (c ≤ 122)
def digitB (c : Int) : Bool := decide (48 ≤ c) && decide (c ≤ 57)
def wordB (c : Int) : Bool := letterB c || (digitB c || c == 95)
def isNameN (l : List UInt8) : Bool := match l with
  | [] => false
  | c :: r => letterB (c.toNat : Int) && r.all fun c => wordB (c.toNat : Int)
def formOk (f : FormD) (num : Int) (text : List UInt8) (l : List Int) : Bool :=
  f.fits l && (decide (0 ≤ num) && (decide (num ≤ f.most) && ((f.named && isNameN text) || (!f.named && text.isEmpty))))
def fitsN (kind num : Int) (text : List UInt8) (l : List Int) : Bool := (formsN kind).any fun f => formOk f num text l
/- The document. -/
def wantB (what x : Int) : Bool := if what = 0 then exprB x else if what = 1 then stmtB x else x == what
def allR (l : List Int) (frm : Nat) (what : Int) : Bool := (l.drop frm).all (wantB what)
def isOne (w x : Int) : Bool := if w = 0 then exprB x else x == w
def isR (l want : List Int) : Bool := l.length == want.length && (List.range l.length).all fun i => isOne (want.getD i 0) (l.getD i 0)
def kidsOk (kind : Int) (l : List Int) : Bool :=
  if kind = 1 then l.all partB
  else if kind = 2 then decide (0 < l.length) && allR l 0 5
  else if kind = 3 then isR l [4, 6]
  else if kind = 4 then allR l 0 5
  else if kind = 6 then allR l 0 1
  else if kind = 7 then isR l [20, 5]
  else if kind = 8 then isR l [20, 5, 0]
  else if kind = 9 then decide (1 < l.length) && (l.getD 0 0 == 20 && allR l 1 0)
  else if kind = 10 then isR l [20]
  else if kind = 11 then isR l [5, 5]
  else if kind = 12 then isR l [5]
  else if kind = 13 then isR l [5] || isR l [20]
  else if kind = 14 then isR l [0, 0, 6] || isR l [0, 0, 6, 6]
  else if kind = 15 then isR l [21, 21, 6]
  else if kind = 16 ∨ kind = 17 ∨ kind = 20 ∨ kind = 26 then isR l [0]
  else if kind = 23 ∨ kind = 24 ∨ kind = 25 then isR l [0, 0]
  else l.length == 0
def namedB (k : Int) : Bool := k == 2 || (k == 3 || (k == 5 || (k == 7 || (k == 11 || (k == 15 || (k == 16 || (k == 20 || k == 22)))))))
def mostN (k : Int) : Int := if k = 3 ∨ k = 7 ∨ k = 12 ∨ k = 14 then 1 else if k = 21 then 2147483647 else 0
def wordsN (kind num : Int) (text : List UInt8) : Bool := (namedB kind == isNameN text) && ((namedB kind || text.isEmpty) && (decide (0 ≤ num) && decide (num ≤ mostN kind)))
theorem range_all0 (p : Nat → Bool) : (List.range 0).all p = true := rfl
theorem range_all1 (p : Nat → Bool) : (List.range 1).all p = p 0 := by simp [List.range, List.range.loop]
theorem range_all2 (p : Nat → Bool) : (List.range 2).all p = (p 0 && p 1) := by simp [List.range, List.range.loop]
theorem range_all3 (p : Nat → Bool) : (List.range 3).all p = (p 0 && (p 1 && p 2)) := by simp [List.range, List.range.loop]
theorem range_all4 (p : Nat → Bool) : (List.range 4).all p = (p 0 && (p 1 && (p 2 && p 3))) := by simp [List.range, List.range.loop]
theorem range_getD (f : Int → Bool) (l : List Int) : ((List.range l.length).all fun i => f (l.getD i 0)) = l.all f := by
  induction l with
  | nil => rfl
  | cons x l ih =>
    rw [List.length_cons, List.range_succ_eq_map, List.all_cons, List.all_map, List.all_cons]
    congr 1
def kidOk : PredD → Int → Bool
  | p, k => p.holds k
/-- A form of just these kids. -/
theorem fits_exact (ps : List PredD) (ws : List Int) (named : Bool) (most : Int) (hl : ps.length = ws.length) (h : ∀ i, i < ws.length → ∀ x, wantOk ps[i]? x = isOne (ws.getD i 0) x) (l : List Int) :
    (FormD.mk ps none named most).fits l = isR l ws := by
  unfold FormD.fits isR
  simp only [Option.isNone_none, and_true]
  by_cases hlen : l.length = ws.length
  · rw [if_neg (by omega), hlen]
    simp only [beq_self_eq_true, Bool.true_and]
    rw [Bool.eq_iff_iff]
    simp only [List.all_eq_true, List.mem_range]
    constructor
    · intro hh i hi
      have := hh i hi
      unfold FormD.want at this
      simp only at this
      rw [if_pos (by omega), h i hi] at this
      exact this
    · intro hh i hi
      have := hh i hi
      unfold FormD.want
      simp only
      rw [if_pos (by omega), h i hi]
      exact this
  · rw [if_pos (by omega)]
    simp [hlen]
/-- A form of as many kids of a kind as may be. -/
theorem fits_more (p : PredD) (named : Bool) (most : Int) (l : List Int) : (FormD.mk [] (some p) named most).fits l = l.all p.holds := by
  unfold FormD.fits
  rw [if_neg (by simp)]
  unfold FormD.want wantOk
  simp only [List.length_nil, Nat.not_lt_zero, if_false]
  exact range_getD p.holds l
theorem fits_from (q p : PredD) (named : Bool) (most : Int) (l : List Int) : (FormD.mk [q] (some p) named most).fits l = (decide (0 < l.length) && (q.holds (l.getD 0 0) && (l.drop 1).all p.holds)) := by
  unfold FormD.fits
  cases l with
  | nil => simp
  | cons x l =>
    rw [if_neg (by simp)]
    rw [List.length_cons, List.range_succ_eq_map, List.all_cons, List.all_map]
    simp only [FormD.want, wantOk, List.length_cons, List.length_nil]
    simp
    congr 1
    rw [← range_getD p.holds l]
    simp [Function.comp_def, List.getD_eq_getElem?_getD]
theorem fits_from2 (q r p : PredD) (named : Bool) (most : Int) (l : List Int) : (FormD.mk [q, r] (some p) named most).fits l = (decide (1 < l.length) && (q.holds (l.getD 0 0) && (r.holds (l.getD 1 0) && (l.drop 2).all p.holds))) := by
  unfold FormD.fits
  match l with
  | [] => simp
  | [x] => simp
  | x :: y :: l =>
    rw [if_neg (by simp)]
    rw [List.length_cons, List.range_succ_eq_map, List.all_cons, List.all_map, List.length_cons, List.range_succ_eq_map, List.all_cons, List.all_map]
    simp only [FormD.want, wantOk, List.length_cons, List.length_nil]
    simp
    congr 2
    rw [← range_getD p.holds l]
    simp [Function.comp_def, List.getD_eq_getElem?_getD, show ∀ x : Nat, ¬ (x + 1 + 1 < 2) from fun x => by omega]
theorem all_congr' {l : List Int} {f g : Int → Bool} (h : ∀ x, f x = g x) : l.all f = l.all g := by rw [show f = g from funext h]
theorem isName_empty {t : List UInt8} (h : isNameN t = true) : t.isEmpty = false := by
  cases t with
  | nil => cases h
  | cons c r => rfl
/-- Names and numbers, of a form. -/
theorem words_form (kind num : Int) (text : List UInt8) (F : Bool) (named : Bool) (most : Int) (hn : namedB kind = named) (hm : mostN kind = most) :
    (F && (decide (0 ≤ num) && (decide (num ≤ most) && ((named && isNameN text) || (!named && text.isEmpty))))) = (wordsN kind num text && F) := by
  unfold wordsN
  rw [hn, hm]
  cases hI : isNameN text
  · cases named <;> cases F <;> cases text.isEmpty <;> cases decide (0 ≤ num) <;> cases decide (num ≤ most) <;> rfl
  · rw [isName_empty hI]
    cases named <;> cases F <;> cases decide (0 ≤ num) <;> cases decide (num ≤ most) <;> rfl
theorem fits_one (kind num : Int) (text : List UInt8) (l : List Int) (ps : List PredD) (more : Option PredD) (named : Bool) (most : Int) (hf : formsN kind = [⟨ps, more, named, most⟩]) (hn : namedB kind = named) (hm : mostN kind = most) (hk : (FormD.mk ps more named most).fits l = kidsOk kind l) :
    fitsN kind num text l = (wordsN kind num text && kidsOk kind l) := by
  unfold fitsN
  rw [hf, ← words_form kind num text _ named most hn hm, ← hk]
  simp [formOk]
theorem fits_two (kind num : Int) (text : List UInt8) (l : List Int) (ps qs : List PredD) (most : Int) (hf : formsN kind = [⟨ps, none, false, most⟩, ⟨qs, none, false, most⟩]) (hn : namedB kind = false) (hm : mostN kind = most) (hk : ((FormD.mk ps none false most).fits l || (FormD.mk qs none false most).fits l) = kidsOk kind l) :
    fitsN kind num text l = (wordsN kind num text && kidsOk kind l) := by
  unfold fitsN
  rw [hf, ← words_form kind num text _ false most hn hm, ← hk]
  simp only [List.any_cons, List.any_nil, Bool.or_false, formOk]
  rw [Bool.and_or_distrib_right]
theorem one_just (w : Int) (hw : w ≠ 0) (x : Int) : wantOk (some (.just w)) x = isOne w x := by
  unfold wantOk PredD.holds isOne
  rw [if_neg hw]
theorem one_expr (x : Int) : wantOk (some .expr) x = isOne 0 x := rfl
theorem ex1 (p : PredD) (w : Int) (h : ∀ x, wantOk (some p) x = isOne w x) : ∀ i, i < [w].length → ∀ x, wantOk [p][i]? x = isOne ([w].getD i 0) x := by
  intro i hi x
  match i, hi with
  | 0, _ => exact h x
theorem ex2 (p q : PredD) (w v : Int) (h : ∀ x, wantOk (some p) x = isOne w x) (h2 : ∀ x, wantOk (some q) x = isOne v x) : ∀ i, i < [w, v].length → ∀ x, wantOk [p, q][i]? x = isOne ([w, v].getD i 0) x := by
  intro i hi x
  match i, hi with
  | 0, _ => exact h x
  | 1, _ => exact h2 x
theorem ex3 (p q r : PredD) (w v u : Int) (h : ∀ x, wantOk (some p) x = isOne w x) (h2 : ∀ x, wantOk (some q) x = isOne v x) (h3 : ∀ x, wantOk (some r) x = isOne u x) : ∀ i, i < [w, v, u].length → ∀ x, wantOk [p, q, r][i]? x = isOne ([w, v, u].getD i 0) x := by
  intro i hi x
  match i, hi with
  | 0, _ => exact h x
  | 1, _ => exact h2 x
  | 2, _ => exact h3 x
theorem ex4 (p q r s : PredD) (w v u t : Int) (h : ∀ x, wantOk (some p) x = isOne w x) (h2 : ∀ x, wantOk (some q) x = isOne v x) (h3 : ∀ x, wantOk (some r) x = isOne u x) (h4 : ∀ x, wantOk (some s) x = isOne t x) : ∀ i, i < [w, v, u, t].length → ∀ x, wantOk [p, q, r, s][i]? x = isOne ([w, v, u, t].getD i 0) x := by
  intro i hi x
  match i, hi with
  | 0, _ => exact h x
  | 1, _ => exact h2 x
  | 2, _ => exact h3 x
  | 3, _ => exact h4 x
theorem ex0 : ∀ i, i < ([] : List Int).length → ∀ x, wantOk ([] : List PredD)[i]? x = isOne (([] : List Int).getD i 0) x := by
  intro i hi
  simp at hi
theorem isR_nil (l : List Int) : isR l [] = (l.length == 0) := by
  cases l <;> simp [isR]
set_option maxRecDepth 10000 in
theorem fits_law (kind num : Int) (text : List UInt8) (l : List Int) : fitsN kind num text l = (decide (1 ≤ kind) && (decide (kind ≤ 26) && (wordsN kind num text && kidsOk kind l))) := by
  by_cases hk : 1 ≤ kind ∧ kind ≤ 26
  · rw [decide_eq_true hk.1, decide_eq_true hk.2, Bool.true_and, Bool.true_and]
    have hc : kind = 1 ∨ kind = 2 ∨ kind = 3 ∨ kind = 4 ∨ kind = 5 ∨ kind = 6 ∨ kind = 7 ∨ kind = 8 ∨ kind = 9 ∨ kind = 10 ∨ kind = 11 ∨ kind = 12 ∨ kind = 13 ∨ kind = 14 ∨ kind = 15 ∨ kind = 16 ∨ kind = 17 ∨ kind = 18 ∨ kind = 19 ∨ kind = 20 ∨ kind = 21 ∨ kind = 22 ∨ kind = 23 ∨ kind = 24 ∨ kind = 25 ∨ kind = 26 := by omega
    rcases hc with rfl | rfl | rfl | rfl | rfl | rfl | rfl | rfl | rfl | rfl | rfl | rfl | rfl | rfl | rfl | rfl | rfl | rfl | rfl | rfl | rfl | rfl | rfl | rfl | rfl | rfl
    · exact fits_one _ _ _ _ _ _ _ _ rfl rfl rfl (fits_more _ _ _ _)
    · refine fits_one _ _ _ _ _ _ _ _ rfl rfl rfl ((fits_from _ _ _ _ _).trans ?_)
      show _ = (decide (0 < l.length) && allR l 0 5)
      cases l <;> rfl
    · exact fits_one _ _ _ _ _ _ _ _ rfl rfl rfl (fits_exact _ _ _ _ rfl (ex2 _ _ _ _ (one_just 4 (by decide)) (one_just 6 (by decide))) l)
    · exact fits_one _ _ _ _ _ _ _ _ rfl rfl rfl (fits_more _ _ _ _)
    · exact fits_one _ _ _ _ _ _ _ _ rfl rfl rfl ((fits_exact [] [] _ _ rfl ex0 l).trans (isR_nil l))
    · exact fits_one _ _ _ _ _ _ _ _ rfl rfl rfl (fits_more _ _ _ _)
    · exact fits_one _ _ _ _ _ _ _ _ rfl rfl rfl (fits_exact _ _ _ _ rfl (ex2 _ _ _ _ (one_just 20 (by decide)) (one_just 5 (by decide))) l)
    · exact fits_one _ _ _ _ _ _ _ _ rfl rfl rfl (fits_exact _ _ _ _ rfl (ex3 _ _ _ _ _ _ (one_just 20 (by decide)) (one_just 5 (by decide)) one_expr) l)
    · refine fits_one _ _ _ _ _ _ _ _ rfl rfl rfl ((fits_from2 _ _ _ _ _ _).trans ?_)
      show _ = (decide (1 < l.length) && (l.getD 0 0 == 20 && allR l 1 0))
      match l with
      | [] => rfl
      | [x] => rfl
      | x :: y :: l => rfl
    · exact fits_one _ _ _ _ _ _ _ _ rfl rfl rfl (fits_exact _ _ _ _ rfl (ex1 _ _ (one_just 20 (by decide))) l)
    · exact fits_one _ _ _ _ _ _ _ _ rfl rfl rfl (fits_exact _ _ _ _ rfl (ex2 _ _ _ _ (one_just 5 (by decide)) (one_just 5 (by decide))) l)
    · exact fits_one _ _ _ _ _ _ _ _ rfl rfl rfl (fits_exact _ _ _ _ rfl (ex1 _ _ (one_just 5 (by decide))) l)
    · refine fits_two _ _ _ _ _ _ _ rfl rfl rfl ?_
      rw [fits_exact _ [5] _ _ rfl (ex1 _ _ (one_just 5 (by decide))) l, fits_exact _ [20] _ _ rfl (ex1 _ _ (one_just 20 (by decide))) l]
      rfl
    · refine fits_two _ _ _ _ _ _ _ rfl rfl rfl ?_
      rw [fits_exact _ [0, 0, 6] _ _ rfl (ex3 _ _ _ _ _ _ one_expr one_expr (one_just 6 (by decide))) l, fits_exact _ [0, 0, 6, 6] _ _ rfl (ex4 _ _ _ _ _ _ _ _ one_expr one_expr (one_just 6 (by decide)) (one_just 6 (by decide))) l]
      rfl
    · exact fits_one _ _ _ _ _ _ _ _ rfl rfl rfl (fits_exact _ _ _ _ rfl (ex3 _ _ _ _ _ _ (one_just 21 (by decide)) (one_just 21 (by decide)) (one_just 6 (by decide))) l)
    · exact fits_one _ _ _ _ _ _ _ _ rfl rfl rfl (fits_exact _ _ _ _ rfl (ex1 _ _ one_expr) l)
    · exact fits_one _ _ _ _ _ _ _ _ rfl rfl rfl (fits_exact _ _ _ _ rfl (ex1 _ _ one_expr) l)
    · exact fits_one _ _ _ _ _ _ _ _ rfl rfl rfl ((fits_exact [] [] _ _ rfl ex0 l).trans (isR_nil l))
    · exact fits_one _ _ _ _ _ _ _ _ rfl rfl rfl ((fits_exact [] [] _ _ rfl ex0 l).trans (isR_nil l))
    · exact fits_one _ _ _ _ _ _ _ _ rfl rfl rfl (fits_exact _ _ _ _ rfl (ex1 _ _ one_expr) l)
    · exact fits_one _ _ _ _ _ _ _ _ rfl rfl rfl ((fits_exact [] [] _ _ rfl ex0 l).trans (isR_nil l))
    · exact fits_one _ _ _ _ _ _ _ _ rfl rfl rfl ((fits_exact [] [] _ _ rfl ex0 l).trans (isR_nil l))
    · exact fits_one _ _ _ _ _ _ _ _ rfl rfl rfl (fits_exact _ _ _ _ rfl (ex2 _ _ _ _ one_expr one_expr) l)
    · exact fits_one _ _ _ _ _ _ _ _ rfl rfl rfl (fits_exact _ _ _ _ rfl (ex2 _ _ _ _ one_expr one_expr) l)
    · exact fits_one _ _ _ _ _ _ _ _ rfl rfl rfl (fits_exact _ _ _ _ rfl (ex2 _ _ _ _ one_expr one_expr) l)
    · exact fits_one _ _ _ _ _ _ _ _ rfl rfl rfl (fits_exact _ _ _ _ rfl (ex1 _ _ one_expr) l)
  · have h0 : formsN kind = [] := by
      unfold formsN
      repeat (rw [if_neg (by omega)])
    have h1 : (decide (1 ≤ kind) && (decide (kind ≤ 26) && (wordsN kind num text && kidsOk kind l))) = false := by
      by_cases h1 : 1 ≤ kind
      · rw [decide_eq_false (show ¬ kind ≤ 26 from by omega)]
        simp
      · rw [decide_eq_false h1]
        simp
    rw [h1]
    unfold fitsN
    rw [h0]
    rfl
end Go.Proofs.Ythofccoefiogiaa
