/- The plain law of right trees: told by rows and told by the document, the same. No program in sight. -/
import Derived.Test.YthofccoefiogiaaTDeep
import Derived.Test.YthofccoefiogiaaTree
namespace Go.Proofs.Ythofccoefiogiaa
set_option linter.unusedVariables false
set_option linter.unusedSimpArgs false
def kindAt (l : List NodeM) (k : Int) : Int := match l[k.toNat]? with | some x => x.kind | none => 0
def kindsOf (l : List NodeM) (ks : List Int) : List Int := ks.map (kindAt l)
def InRange (l : List NodeM) (ks : List Int) : Prop := ∀ k ∈ ks, ∃ a : Nat, k = (a : Int) ∧ a < l.length
theorem kindAt_eq {l : List NodeM} {a : Nat} (h : a < l.length) : kindAt l (a : Int) = l[a].kind := by
  unfold kindAt
  rw [Int.toNat_natCast, List.getElem?_eq_getElem h]
def ksOf (l : List NodeM) : List (List Int) := l.map (·.kids)
def kdOf (l : List NodeM) : List Int := l.map (·.kind)
theorem ksOf_len (l : List NodeM) : (ksOf l).length = l.length := by simp [ksOf]
theorem kdOf_len (l : List NodeM) : (kdOf l).length = l.length := by simp [kdOf]
theorem ksOf_getD (l : List NodeM) (i : Nat) (h : i < l.length) : (ksOf l).getD i [] = l[i].kids := by simp [ksOf, List.getD_eq_getElem?_getD, h]
theorem kdOf_getD (l : List NodeM) (i : Nat) (h : i < l.length) : (kdOf l).getD i 0 = l[i].kind := by simp [kdOf, List.getD_eq_getElem?_getD, h]
def fitsM (l : List NodeM) (x : NodeM) : Bool := fitsN x.kind x.num x.text.data.toList (kindsOf l x.kids)
def rightN (l : List NodeM) : Bool := (endsN (ksOf l)).isSome && (kindAt l 0 == 1 && l.all (fitsM l))
/-- Kids stand behind their node, and in the row. -/
def rangeB (l : List NodeM) : Bool := (List.range l.length).all fun i => ((ksOf l).getD i []).all fun k => decide ((i : Int) < k) && decide (k < (l.length : Int))
def nodeB (l : List NodeM) (x : NodeM) : Bool := decide (1 ≤ x.kind) && (decide (x.kind ≤ 26) && (wordsN x.kind x.num x.text.data.toList && kidsOk x.kind (kindsOf l x.kids)))
def rightR (l : List NodeM) : Bool := decide (0 < l.length) && (kindAt l 0 == 1 && (rangeB l && (decide (endD (ksOf l) 0 = some l.length) && l.all (nodeB l))))
theorem rangeB_iff (l : List NodeM) : rangeB l = true ↔ ∀ i, i < l.length → ∀ k ∈ (ksOf l).getD i [], (i : Int) < k ∧ k < (l.length : Int) := by
  unfold rangeB
  rw [List.all_eq_true]
  simp only [List.mem_range, List.all_eq_true, Bool.and_eq_true, decide_eq_true_eq]
theorem ends_range {l : List NodeM} {Z : List Nat} (h : endsN (ksOf l) = some Z) : rangeB l = true := by
  rw [rangeB_iff]
  obtain ⟨_, _, _, hz⟩ := ends_some h
  intro i hi k hk
  obtain ⟨a, h1, h2, h3⟩ := kids_range (hz i (by rw [ksOf_len]; exact hi)) k hk
  rw [ksOf_len] at h3
  omega
theorem ends_iff (l : List NodeM) : (endsN (ksOf l)).isSome = (decide (0 < l.length) && (rangeB l && decide (endD (ksOf l) 0 = some l.length))) := by
  cases h : endsN (ksOf l) with
  | none =>
    have := ends_none h
    rw [ksOf_len] at this
    rw [decide_eq_false this]
    simp
  | some Z =>
    obtain ⟨h1, h2, h3, _⟩ := ends_some h
    rw [ksOf_len] at h2 h3
    rw [ends_range h, decide_eq_true h3, decide_eq_true (by omega)]
    rfl
theorem nodeB_eq (l : List NodeM) (x : NodeM) : fitsM l x = nodeB l x := fits_law _ _ _ _
theorem right_law (l : List NodeM) : rightN l = rightR l := by
  unfold rightN rightR
  rw [ends_iff, show fitsM l = nodeB l from funext (nodeB_eq l)]
  cases decide (0 < l.length) <;> cases (kindAt l 0 == 1) <;> cases rangeB l <;> cases decide (endD (ksOf l) 0 = some l.length) <;> simp
theorem right_some {l : List NodeM} (h : rightN l = true) : ∃ Z, endsN (ksOf l) = some Z := by
  unfold rightN at h
  rw [Bool.and_eq_true] at h
  exact Option.isSome_iff_exists.1 h.1
theorem right_inRange {l : List NodeM} {Z : List Nat} (h : endsN (ksOf l) = some Z) : ∀ x ∈ l, InRange l x.kids := by
  intro x hx k hk
  obtain ⟨i, hi, rfl⟩ := List.getElem_of_mem hx
  have h1 := (rangeB_iff l).1 (ends_range h) i hi k (by rw [ksOf_getD l i hi]; exact hk)
  exact ⟨k.toNat, by omega, by omega⟩
/-- Kids of a reckoning are reckonings. -/
theorem kids_expr {l : List NodeM} (h : rightN l = true) : ∀ i, i < (ksOf l).length → exprB ((kdOf l).getD i 0) = true → ∀ k ∈ (ksOf l).getD i [], exprB ((kdOf l).getD k.toNat 0) = true := by
  obtain ⟨Z, hZ⟩ := right_some h
  have hr := right_inRange hZ
  rw [right_law] at h
  unfold rightR at h
  simp only [Bool.and_eq_true] at h
  have hall := List.all_eq_true.1 h.2.2.2.2
  intro i hi he k hk
  rw [ksOf_len] at hi
  rw [kdOf_getD l i hi] at he
  rw [ksOf_getD l i hi] at hk
  obtain ⟨a, ha, hal⟩ := hr l[i] (List.getElem_mem hi) k hk
  have hn := hall l[i] (List.getElem_mem hi)
  unfold nodeB at hn
  simp only [Bool.and_eq_true] at hn
  have hkid := hn.2.2.2
  have hmem : kindAt l k ∈ kindsOf l l[i].kids := List.mem_map_of_mem hk
  rw [ha, kindAt_eq hal] at hmem
  rw [ha, Int.toNat_natCast, kdOf_getD l a hal]
  generalize kindsOf l l[i].kids = ws at *
  generalize l[i].kind = kd at *
  generalize l[a].kind = x at *
  have hbound : 21 ≤ kd ∧ kd ≤ 26 := by
    unfold exprB at he
    simpa using he
  have hc : kd = 21 ∨ kd = 22 ∨ kd = 23 ∨ kd = 24 ∨ kd = 25 ∨ kd = 26 := by omega
  have one : ∀ {ws : List Int}, isR ws [0] = true → x ∈ ws → exprB x = true := by
    intro ws h hm
    unfold isR at h
    rw [Bool.and_eq_true, beq_iff_eq] at h
    obtain ⟨h1, h2⟩ := h
    match ws, h1 with
    | [y], _ =>
      rw [List.mem_singleton.1 hm]
      have := List.all_eq_true.1 h2 0 (by simp)
      simpa [isOne] using this
  have two : ∀ {ws : List Int}, isR ws [0, 0] = true → x ∈ ws → exprB x = true := by
    intro ws h hm
    unfold isR at h
    rw [Bool.and_eq_true, beq_iff_eq] at h
    obtain ⟨h1, h2⟩ := h
    match ws, h1 with
    | [y, z], _ =>
      have h3 := List.all_eq_true.1 h2 0 (by simp)
      have h4 := List.all_eq_true.1 h2 1 (by simp)
      rcases List.mem_cons.1 hm with rfl | hm
      · simpa [isOne] using h3
      · rw [List.mem_singleton.1 hm]
        simpa [isOne] using h4
  rcases hc with rfl | rfl | rfl | rfl | rfl | rfl
  · simp [kidsOk] at hkid; rw [hkid] at hmem; cases hmem
  · simp [kidsOk] at hkid; rw [hkid] at hmem; cases hmem
  · exact two (by simpa [kidsOk] using hkid) hmem
  · exact two (by simpa [kidsOk] using hkid) hmem
  · exact two (by simpa [kidsOk] using hkid) hmem
  · exact one (by simpa [kidsOk] using hkid) hmem
def deepM (l : List NodeM) : Int := if rightN l = true then deepN (kdOf l) (ksOf l) else 0
def deepRM (l : List NodeM) : Int := if rightR l = true then deepF (kdOf l) (ksOf l) l.length 0 0 else 0
theorem deepM_law (l : List NodeM) : deepM l = deepRM l := by
  unfold deepM deepRM
  rw [← right_law]
  by_cases h : rightN l = true
  · rw [if_pos h, if_pos h]
    obtain ⟨Z, hZ⟩ := right_some h
    obtain ⟨_, _, he, _⟩ := ends_some hZ
    rw [deep_law (kids_expr h) he, ksOf_len]
  · rw [if_neg h, if_neg h]
/-- How many nodes one is. -/
def sizeM (l : List NodeM) (i : Int) : Int := if rightN l = true ∧ 0 ≤ i ∧ i < (l.length : Int) then ((endD (ksOf l) i.toNat).getD 0 : Int) - i else 0
theorem sizeM_ends {l : List NodeM} {Z : List Nat} (hr : rightN l = true) (h : endsN (ksOf l) = some Z) (i : Nat) (hi : i < l.length) : sizeM l i = (Z.getD i 0 : Int) - i := by
  obtain ⟨_, _, _, hz⟩ := ends_some h
  unfold sizeM
  rw [if_pos ⟨hr, by omega, by omega⟩, Int.toNat_natCast, hz i (by rw [ksOf_len]; exact hi)]
  rfl
def sameNode (x y : NodeM) : Bool := x.kind == y.kind && (x.text.toList == y.text.toList && (x.num == y.num && x.kids == y.kids))
def sameM : List NodeM → List NodeM → Bool
  | [], [] => true
  | x :: l, y :: m => sameNode x y && sameM l m
  | _, _ => false
theorem sameM_len : ∀ {l m : List NodeM}, l.length ≠ m.length → sameM l m = false
  | [], [], h => absurd rfl h
  | [], _ :: _, _ => rfl
  | _ :: _, [], _ => rfl
  | x :: l, y :: m, h => by
    show (sameNode x y && sameM l m) = false
    rw [sameM_len (l := l) (m := m) (fun e => h (by simp [e])), Bool.and_false]
theorem sameM_yes : ∀ {l m : List NodeM}, l.length = m.length → (∀ i (h1 : i < l.length) (h2 : i < m.length), sameNode l[i] m[i] = true) → sameM l m = true
  | [], [], _, _ => rfl
  | x :: l, y :: m, h, ha => by
    show (sameNode x y && sameM l m) = true
    rw [show sameNode x y = true from ha 0 (by simp) (by simp), sameM_yes (l := l) (m := m) (by simpa using h) (fun i h1 h2 => ha (i + 1) (by simpa using h1) (by simpa using h2)), Bool.and_true]
theorem sameM_no : ∀ {l m : List NodeM} (i : Nat) (h1 : i < l.length) (h2 : i < m.length), sameNode l[i] m[i] = false → sameM l m = false
  | x :: l, y :: m, 0, _, _, h => by
    show (sameNode x y && sameM l m) = false
    rw [show sameNode x y = false from h, Bool.false_and]
  | x :: l, y :: m, i + 1, h1, h2, h => by
    show (sameNode x y && sameM l m) = false
    rw [sameM_no (l := l) (m := m) i (by simpa using h1) (by simpa using h2) h, Bool.and_false]
def findTo (l : List NodeM) (p : Int) : Nat → Int
  | 0 => -1
  | k + 1 => match l[k]? with | none => -1 | some x => if x.pos = p then (k : Int) else findTo l p k
def findM (l : List NodeM) (p : Int) : Int := findTo l p l.length
theorem findTo_hit {l : List NodeM} {p : Int} {k : Nat} (hk : k < l.length) (h : l[k].pos = p) : findTo l p (k + 1) = (k : Int) := by
  show (match l[k]? with | none => (-1 : Int) | some x => if x.pos = p then (k : Int) else findTo l p k) = (k : Int)
  rw [List.getElem?_eq_getElem hk]
  exact if_pos h
theorem findTo_miss {l : List NodeM} {p : Int} {k : Nat} (hk : k < l.length) (h : l[k].pos ≠ p) : findTo l p (k + 1) = findTo l p k := by
  show (match l[k]? with | none => (-1 : Int) | some x => if x.pos = p then (k : Int) else findTo l p k) = findTo l p k
  rw [List.getElem?_eq_getElem hk]
  exact if_neg h
def fewM (l : List NodeM) (top : Int) : Bool := decide ((l.length : Int) ≤ top) && l.all fun x => decide ((x.kids.length : Int) ≤ top) && decide (x.text.size ≤ 100)
theorem endsTo_none {ks : List (List Int)} {j : Nat} (h : endsTo ks j = none) : ∀ m, j ≤ m → endsTo ks m = none := by
  intro m
  induction m with
  | zero => intro hm; rw [show j = 0 from by omega] at h; exact h
  | succ m ih =>
    intro hm
    by_cases he : j = m + 1
    · rw [← he]; exact h
    · unfold endsTo
      rw [ih (by omega)]
theorem endsN_none {ks : List (List Int)} {j : Nat} (hj : j ≤ ks.length) (h : endsTo ks j = none) : endsN ks = none := by
  unfold endsN
  rw [endsTo_none h _ hj]
end Go.Proofs.Ythofccoefiogiaa
