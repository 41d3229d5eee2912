/- A law on regions that draw their order, over any program: each operation is shown once, from the facts of what it looks at; whatever order is drawn, at the end all facts hold. Conditions: the Bool 'factsB' on the region's operations; each fact stays true while the world goes on by R. -/
import Derived.Orders
import Derived.BigRegion
import Derived.Below
import Derived.Laws.OwnMore
import Derived.Deep.Draws
import Derived.Laws.Rows
namespace Go.Proofs.Ytngbpaiohfokbaa
open Go Go.RowKit
set_option linter.unusedVariables false
set_option linter.unusedSimpArgs false

/-- The world went on: what was there stays. -/
def Ext (w w' : World) : Prop := Below w.heap.size w w'
theorem Ext.refl (w : World) : Ext w w := Below.refl _ _
theorem Ext.trans {a b c : World} (h : Ext a b) (k : Ext b c) : Ext a c := Below.trans h (Below.mono k h.size)

def YieldsF (P : Program) (ρ : Operand → Value) (o : Oper) (w : World) (F : Value → World → Prop) : Prop :=
  match (execOp ρ o).run P w with
  | .ok (.value u) w' => F u w'
  | .ok .skip w' => F undef w'
  | .ok (.enter f args) w' => Calls P f args w' fun e w'' => ∃ u, e = .returned u ∧ F u w''
  | _ => False

theorem YieldsF.mono {P : Program} {ρ : Operand → Value} {o : Oper} {w : World} {F G : Value → World → Prop} (h : YieldsF P ρ o w F) (hFG : ∀ v w', F v w' → G v w') : YieldsF P ρ o w G := by
  unfold YieldsF at *
  generalize (execOp ρ o).run P w = r at *
  cases r with
  | ok n w' =>
    cases n with
    | value u => exact hFG _ _ h
    | skip => exact hFG _ _ h
    | enter f args => exact Calls.mono h fun e w'' ⟨u, he, hf⟩ => ⟨u, he, hFG _ _ hf⟩
    | _ => exact h
  | halt x w' => exact h

theorem wp_of_yieldsF {P : Program} {o : Oper} {a : Act} {w : World} {F : Value → World → Prop} {K : Act → World → Prop} {Q : Exit → Act → World → Prop}
    (h : YieldsF P a.eval o w F) (hk : ∀ v w', F v w' → K (a.put o.dst v) w') : o.wp P a w K Q := by
  unfold YieldsF at h
  unfold Oper.wp
  generalize (execOp a.eval o).run P w = r at *
  cases r with
  | ok n w' =>
    cases n with
    | value u => exact hk _ _ h
    | skip => exact hk _ _ h
    | enter f args => exact Calls.mono h fun e w'' ⟨u, he, hf⟩ => by subst he; exact hk _ _ hf
    | _ => exact h.elim
  | halt x w' => exact h.elim

/-- How an operation is taken: it leaves this very value; or a value of which this is known. -/
inductive Take where
  | det (v : Value)
  | fact (F : Value → World → Prop)
def Take.says : Take → Value → World → Prop
  | .det v0, v, _ => v = v0
  | .fact F, v, w => F v w
def Take.val : Take → Value → Value
  | .det v0, _ => v0
  | .fact _, v => v
theorem Take.val_of {k : Take} {v : Value} {w : World} (h : k.says v w) : k.val v = v := by
  cases k with
  | det v0 => exact h.symm
  | fact F => rfl

section
variable (P : Program) (ops : Array Oper) (R : World → World → Prop) (w0 : World) (Q : Act → World → Prop)

/-- What operation o owes, in the frame a, where the facts H of what it looks at are known. -/
def Owes (o : Oper) (a : Act) (H : List (Option Tmp × (World → Prop))) (F : Value → World → Prop) : Prop :=
  ∀ w, R w0 w → (∀ p ∈ H, (∃ t, p.1 = some t ∧ t ∈ o.looksAt ops) → p.2 w) →
    if Region.wanted o (yielded ops a.tmps) = true then YieldsF P a.eval o w (fun v w' => F v w' ∧ R w w') else F undef w

/-- The walk in the order of the text; how each operation is taken is chosen ahead. -/
def WalkF : List Oper → List Take → Act → List (Option Tmp × (World → Prop)) → Prop
  | [], _, a, H => ∀ w, R w0 w → (∀ p ∈ H, p.2 w) → Q a w
  | o :: l, .det v0 :: ks, a, H => Owes P ops R w0 o a H (fun v _ => v = v0) ∧ WalkF l ks (a.put o.dst v0) H
  | o :: l, .fact F :: ks, a, H => (∀ v w w', F v w → R w w' → F v w') ∧ Owes P ops R w0 o a H F ∧ ∀ v, WalkF l ks (a.put o.dst v) ((o.dst, F v) :: H)
  | _ :: _, [], _, _ => False
end

/-- Is j done ahead of i, by so many edges? -/
def reachB (ops : Array Oper) : Nat → Nat → Nat → Bool
  | 0, _, _ => false
  | f + 1, i, j => match ops[i]? with
    | none => false
    | some o => o.after.any fun e => Region.binds .any e && (e.on == j || reachB ops f e.on j)
/-- From m on the operations come in their order, behind all others. -/
def tailB (ops : Array Oper) (m : Nat) : Bool :=
  (List.range ops.size).all fun i => decide (i < m) || (match ops[i]? with
    | none => false
    | some o => o.after.all (fun e => !Region.binds .any e || decide (e.on < i)) && (List.range i).all fun j => reachB ops 8 i j)
/-- The Bool on a region: no select; edges lead back; every destination is written once; what an operation looks at is written by one that it waits for, or by one that waits for it. -/
def factsB (ops : Array Oper) (m : Nat) : Bool :=
  decide (m ≤ ops.size) && (List.range m).all fun i => match ops[i]? with
    | none => false
    | some o => (match o.op with | .select _ _ => false | _ => true) && o.after.all (fun e => !Region.binds .any e || decide (e.on < i)) &&
      (List.range m).all fun j => match ops[j]? with
        | none => false
        | some p => match p.dst with
          | none => true
          | some d => (i == j || o.dst != some d) &&
            (!((o.looksAt ops).contains d) || (decide (j < i) && o.after.any (fun e => e.on == j && Region.binds .any e)) || (decide (i < j) && p.after.any (fun e => e.on == i && Region.binds .any e)))

section
variable {P : Program} {ops : Array Oper} {R : World → World → Prop} {w0 : World} {Q : Act → World → Prop}

theorem WalkF_nil {a : Act} {H : List (Option Tmp × (World → Prop))} (h : ∀ w, R w0 w → (∀ p ∈ H, p.2 w) → Q a w) : WalkF P ops R w0 Q [] [] a H := h
theorem WalkF_det {o : Oper} {l : List Oper} {ks : List Take} {a : Act} {H : List (Option Tmp × (World → Prop))} (v0 : Value)
    (h : Owes P ops R w0 o a H (fun v _ => v = v0)) (hk : WalkF P ops R w0 Q l ks (a.put o.dst v0) H) : WalkF P ops R w0 Q (o :: l) (.det v0 :: ks) a H := ⟨h, hk⟩
theorem WalkF_fact {o : Oper} {l : List Oper} {ks : List Take} {a : Act} {H : List (Option Tmp × (World → Prop))} (F : Value → World → Prop)
    (hs : ∀ v w w', F v w → R w w' → F v w') (h : Owes P ops R w0 o a H F) (hk : ∀ v, WalkF P ops R w0 Q l ks (a.put o.dst v) ((o.dst, F v) :: H)) : WalkF P ops R w0 Q (o :: l) (.fact F :: ks) a H := ⟨hs, h, hk⟩

theorem factsB_le {m : Nat} (h : factsB ops m = true) : m ≤ ops.size := by
  unfold factsB at h
  simp only [Bool.and_eq_true, decide_eq_true_eq] at h
  exact h.1
theorem factsB_one {m : Nat} (h : factsB ops m = true) {i : Nat} {o : Oper} (hm : i < m) (hi : ops[i]? = some o) : (∀ cs b, o.op ≠ .select cs b) ∧ ∀ e ∈ o.after, Region.binds .any e = true → e.on < i := by
  unfold factsB at h
  simp only [Bool.and_eq_true] at h
  have h1 := List.all_eq_true.1 h.2 i (List.mem_range.2 hm)
  simp only [hi, Bool.and_eq_true] at h1
  refine ⟨fun cs b e => ?_, fun e he hb => ?_⟩
  · rw [e] at h1
    cases h1.1.1
  · have h2 := Array.all_eq_true_iff_forall_mem.1 h1.1.2 e he
    simp only [hb, Bool.not_true, Bool.false_or, decide_eq_true_eq] at h2
    exact h2

theorem factsB_pair {m : Nat} (h : factsB ops m = true) {i j : Nat} {o p : Oper} (him : i < m) (hjm : j < m) (hi : ops[i]? = some o) (hj : ops[j]? = some p) {d : Tmp} (hd : p.dst = some d) :
    (o.dst = some d → i = j) ∧ (d ∈ o.looksAt ops → (j < i ∧ ∃ e ∈ o.after, e.on = j ∧ Region.binds .any e = true) ∨ (i < j ∧ ∃ e ∈ p.after, e.on = i ∧ Region.binds .any e = true)) := by
  unfold factsB at h
  simp only [Bool.and_eq_true] at h
  have h1 := List.all_eq_true.1 h.2 i (List.mem_range.2 him)
  simp only [hi, Bool.and_eq_true] at h1
  have h2 := List.all_eq_true.1 h1.2 j (List.mem_range.2 hjm)
  simp only [hj, hd, Bool.and_eq_true, Bool.or_eq_true, beq_iff_eq, bne_iff_ne, Bool.not_eq_true', decide_eq_true_eq, Array.any_eq_true'] at h2
  refine ⟨fun e => h2.1.resolve_right (fun hne => hne e), fun hm => ?_⟩
  have hc : (o.looksAt ops).contains d = true := by simpa using hm
  rcases h2.2 with (h3 | ⟨a, e, he, b, c⟩) | ⟨a, e, he, b, c⟩
  · rw [hc] at h3; cases h3
  · exact .inl ⟨a, e, he, b, c⟩
  · exact .inr ⟨a, e, he, b, c⟩

theorem reachB_spec {listed : Array Bool} (hcl : ∀ i o, ops[i]? = some o → listed.getD i false = true → ∀ e ∈ o.after, Region.binds .any e = true → listed.getD e.on false = true) :
    ∀ (f i j : Nat) (o : Oper), ops[i]? = some o → (∀ e ∈ o.after, Region.binds .any e = true → listed.getD e.on false = true) → reachB ops f i j = true → listed.getD j false = true := by
  intro f
  induction f with
  | zero => intro i j o _ _ h; cases h
  | succ f ih =>
    intro i j o ho hl h
    unfold reachB at h
    simp only [ho, Array.any_eq_true', Bool.and_eq_true, Bool.or_eq_true, beq_iff_eq] at h
    obtain ⟨e, he, hb, h⟩ := h
    have h1 := hl e he hb
    rcases h with h | h
    · rw [← h]; exact h1
    · cases hoe : ops[e.on]? with
      | none =>
        cases f with
        | zero => cases h
        | succ f => unfold reachB at h; simp [hoe] at h
      | some oe => exact ih e.on j oe hoe (hcl e.on oe hoe h1) h
theorem tailB_spec {m : Nat} (h : tailB ops m = true) {i : Nat} {o : Oper} (hi : ops[i]? = some o) (hm : m ≤ i) :
    (∀ e ∈ o.after, Region.binds .any e = true → e.on < i) ∧ ∀ j, j < i → reachB ops 8 i j = true := by
  have hlt : i < ops.size := (Array.getElem?_eq_some_iff.1 hi).1
  unfold tailB at h
  have h1 := List.all_eq_true.1 h i (List.mem_range.2 hlt)
  simp only [hi, Bool.or_eq_true, Bool.and_eq_true, decide_eq_true_eq] at h1
  have h2 := h1.resolve_left (by omega)
  refine ⟨fun e he hb => ?_, fun j hj => List.all_eq_true.1 h2.2 j (List.mem_range.2 hj)⟩
  have h3 := Array.all_eq_true_iff_forall_mem.1 h2.1 e he
  simp only [hb, Bool.not_true, Bool.false_or, decide_eq_true_eq] at h3
  exact h3

/-- The tail: its operations come one behind the other. -/
theorem wpAny_tail {m : Nat} (hT : tailB ops m = true) {Q' : Exit → Act → World → Prop} : ∀ (n k : Nat) (listed : Array Bool) (a : Act) (w : World), m ≤ k → k + n = ops.size → listed.size = ops.size → (∀ j, j < ops.size → listed.getD j true = decide (j < k)) →
    (∀ i o, ops[i]? = some o → listed.getD i false = true → ∀ e ∈ o.after, Region.binds .any e = true → listed.getD e.on false = true) →
    wpList P ops Q' (ops.toList.drop k) a w → wpAny P .any ops Q' n listed a w := by
  intro n
  induction n with
  | zero =>
    intro k listed a w hmk hkn hls hl hcl h
    have hk : k = ops.size := by omega
    subst hk
    refine ⟨?_, by rw [List.drop_of_length_le (by simp)] at h; simpa [wpList] using h⟩
    cases hr : Region.ready .any ops listed with
    | nil => rfl
    | cons x xs =>
      exfalso
      have hm : x ∈ Region.ready .any ops listed := by rw [hr]; exact List.mem_cons_self
      obtain ⟨h0, o, ho, _⟩ := mem_ready.1 hm
      have hx := (Array.getElem?_eq_some_iff.1 ho).1
      rw [hl x hx] at h0
      simp at h0
      omega
  | succ n ih =>
    intro k listed a w hmk hkn hls hl hcl h
    have hk : k < ops.size := by omega
    have hok : ops[k]? = some ops[k] := Array.getElem?_eq_getElem hk
    have hfalse : ∀ j, j < ops.size → listed.getD j false = listed.getD j true := fun j hj => by
      have : j < listed.size := by omega
      simp [this]
    have only : ∀ i ∈ Region.ready .any ops listed, i = k := by
      intro i hi
      obtain ⟨h0, o, ho, hall⟩ := mem_ready.1 hi
      have hi' := (Array.getElem?_eq_some_iff.1 ho).1
      rw [hl i hi'] at h0
      have hge : k ≤ i := by simpa using h0
      by_cases hik : i = k
      · exact hik
      · exfalso
        have hr := (tailB_spec hT ho (by omega)).2 k (by omega)
        have := reachB_spec hcl 8 i k o ho hall hr
        rw [hfalse k hk, hl k hk] at this
        simp at this
    have hkr : k ∈ Region.ready .any ops listed := by
      rw [mem_ready]
      refine ⟨by rw [hl k hk]; simp, _, hok, fun e he hb => ?_⟩
      have := (tailB_spec hT hok hmk).1 e he hb
      rw [hfalse e.on (by omega), hl e.on (by omega)]
      simpa using this
    refine ⟨fun hr => (by rw [hr] at hkr; cases hkr), fun i hi => ?_⟩
    have hik := only i hi
    subst hik
    have hd : ops.toList.drop i = ops[i] :: ops.toList.drop (i + 1) := by
      rw [List.drop_eq_getElem_cons (by simpa using hk)]
      simp
    rw [hd] at h
    have go : ∀ a' w', wpList P ops Q' (ops.toList.drop (i + 1)) a' w' → wpAny P .any ops Q' n (listed.setIfInBounds i true) a' w' := by
      intro a' w' h'
      refine ih (i + 1) _ a' w' (by omega) (by omega) (by simpa using hls) (fun j hj => ?_) (fun j o ho hjl e he hb => ?_) h'
      · by_cases hji : j = i
        · subst hji
          have : j < listed.size := by omega
          simp [this]
        · rw [getD_set_ne true (Ne.symm hji), hl j hj]
          have : (j < i) ↔ (j < i + 1) := by omega
          simp [this]
      · by_cases hji : j = i
        · subst hji
          have hlt := (tailB_spec hT ho hmk).1 e he hb
          apply getD_set_true
          rw [hfalse e.on (by omega), hl e.on (by omega)]
          simpa using hlt
        · rw [getD_set_ne false (Ne.symm hji)] at hjl
          exact getD_set_true (hcl j o ho hjl e he hb)
    unfold wpOp
    simp only [hok]
    simp only [wpList] at h
    split
    · rename_i hw
      simp only [hw, if_true] at h
      exact h.imp (fun h => Oper.wp_mono go h) id
    · rename_i hw
      simp only [hw] at h
      exact go _ _ h

/-- The frame of the text's order ahead of operation i, if the operations' values are vs. -/
def lexA (ops : Array Oper) (ks : List Take) (vs : Nat → Value) (a0 : Act) : Nat → Act
  | 0 => a0
  | i + 1 => (lexA ops ks vs a0 i).put ((ops[i]?).bind (·.dst)) ((ks.getD i (.det undef)).val (vs i))
def lexH (ops : Array Oper) (ks : List Take) (vs : Nat → Value) : Nat → List (Option Tmp × (World → Prop))
  | 0 => []
  | i + 1 => match ks.getD i (.det undef) with
    | .det _ => lexH ops ks vs i
    | .fact F => ((ops[i]?).bind (·.dst), F (vs i)) :: lexH ops ks vs i

theorem lexH_mem {ks : List Take} {vs : Nat → Value} {p : Option Tmp × (World → Prop)} : ∀ {i : Nat}, p ∈ lexH ops ks vs i → ∃ j, j < i ∧ p.1 = (ops[j]?).bind (·.dst) ∧ ∀ w, (ks.getD j (.det undef)).says (vs j) w → p.2 w
  | 0, h => by cases h
  | i + 1, h => by
    unfold lexH at h
    cases hk : ks.getD i (.det undef) with
    | det v0 =>
      rw [hk] at h
      obtain ⟨j, hj, r⟩ := lexH_mem h
      exact ⟨j, by omega, r⟩
    | fact F =>
      rw [hk] at h
      rcases List.mem_cons.1 h with h | h
      · subst h
        exact ⟨i, by omega, rfl, fun w hw => by rw [hk] at hw; exact hw⟩
      · obtain ⟨j, hj, r⟩ := lexH_mem h
        exact ⟨j, by omega, r⟩

theorem put_tmps_ne (a : Act) (d : Option Tmp) (v : Value) {t : Tmp} (h : d ≠ some t) : (a.put d v).tmps[t]? = a.tmps[t]? := by
  cases d with
  | none => rfl
  | some d =>
    have hne : d ≠ t := fun e => h (by rw [e])
    simp [Act.put, Array.getElem?_setIfInBounds_ne hne]
theorem put_tmps_eq (a : Act) (v : Value) (t : Tmp) : (a.put (some t) v).tmps[t]? = (a.tmps[t]?).map fun _ => v := by
  by_cases h : t < a.tmps.size
  · simp [Act.put, h]
  · simp [Act.put, h]
theorem put_size (a : Act) (d : Option Tmp) (v : Value) : (a.put d v).tmps.size = a.tmps.size := by
  cases d <;> simp [Act.put]
theorem put_defers' (a : Act) (d : Option Tmp) (v : Value) : (a.put d v).defers = a.defers := by
  cases d <;> rfl

theorem lexA_none {ks : List Take} {vs : Nat → Value} {a0 : Act} {t : Tmp} : ∀ {i : Nat}, (∀ j, j < i → (ops[j]?).bind (·.dst) ≠ some t) → (lexA ops ks vs a0 i).tmps[t]? = a0.tmps[t]?
  | 0, _ => rfl
  | i + 1, h => by
    unfold lexA
    rw [put_tmps_ne _ _ _ (h i (by omega))]
    exact lexA_none fun j hj => h j (by omega)
theorem lexA_some {m : Nat} (hB : factsB ops m = true) {ks : List Take} {vs : Nat → Value} {a0 : Act} {t : Tmp} {j : Nat} (hd : (ops[j]?).bind (·.dst) = some t) :
    ∀ {i : Nat}, j < i → i ≤ m → (lexA ops ks vs a0 i).tmps[t]? = (a0.tmps[t]?).map fun _ => (ks.getD j (.det undef)).val (vs j)
  | 0, h, _ => by omega
  | i + 1, h, him => by
    obtain ⟨o, ho, hdo⟩ := Option.bind_eq_some_iff.1 hd
    have uniq : ∀ k, k < m → k ≠ j → (ops[k]?).bind (·.dst) ≠ some t := fun k hkm hk e => by
      obtain ⟨o', ho', hdo'⟩ := Option.bind_eq_some_iff.1 e
      exact hk ((factsB_pair hB hkm (by omega) ho' ho hdo).1 hdo')
    unfold lexA
    by_cases hji : j = i
    · subst hji
      rw [hd, put_tmps_eq, lexA_none fun k hk => uniq k (by omega) (by omega)]
    · rw [put_tmps_ne _ _ _ (uniq i (by omega) (Ne.symm hji))]
      exact lexA_some hB hd (by omega) (by omega)
theorem lexA_defers {ks : List Take} {vs : Nat → Value} {a0 : Act} : ∀ (i : Nat), (lexA ops ks vs a0 i).defers = a0.defers
  | 0 => rfl
  | i + 1 => by unfold lexA; rw [put_defers', lexA_defers i]
theorem lexA_size {ks : List Take} {vs : Nat → Value} {a0 : Act} : ∀ (i : Nat), (lexA ops ks vs a0 i).tmps.size = a0.tmps.size
  | 0 => rfl
  | i + 1 => by unfold lexA; rw [put_size, lexA_size i]

/-- What the walk shows, operation by operation, whatever the values. -/
theorem WalkF_spec {ks : List Take} {a0 : Act} (vs : Nat → Value) : ∀ (l : List Oper) (k : Nat), (∀ j, j < l.length → l[j]? = ops[k + j]?) → WalkF P ops R w0 Q l (ks.drop k) (lexA ops ks vs a0 k) (lexH ops ks vs k) →
    (∀ i o, k ≤ i → i < k + l.length → ops[i]? = some o → (∀ v w w', (ks.getD i (.det undef)).says v w → R w w' → (ks.getD i (.det undef)).says v w') ∧ Owes P ops R w0 o (lexA ops ks vs a0 i) (lexH ops ks vs i) (ks.getD i (.det undef)).says) ∧
    ∀ w, R w0 w → (∀ p ∈ lexH ops ks vs (k + l.length), p.2 w) → Q (lexA ops ks vs a0 (k + l.length)) w
  | [], k, hl, h => by
    refine ⟨fun i o hi hlt ho => ?_, by simpa [WalkF] using h⟩
    simp at hlt
    omega
  | o :: l, k, hl, h => by
    have h0 : ops[k]? = some o := by simpa using (hl 0 (by simp)).symm
    have hl' : ∀ j, j < l.length → l[j]? = ops[k + 1 + j]? := fun j hj => by
      have := hl (j + 1) (by simpa using hj)
      simpa [Nat.add_assoc, Nat.add_comm 1 j] using this
    cases hd : ks.drop k with
    | nil => rw [hd] at h; simp [WalkF] at h
    | cons x ks' =>
      rw [hd] at h
      have hx : ks[k]? = some x := by
        have := congrArg (fun l => l[0]?) hd
        simpa using this
      have hg : ks.getD k (.det undef) = x := by simp [List.getD, hx]
      have hd' : ks.drop (k + 1) = ks' := by
        rw [← List.drop_drop, hd]; rfl
      have hlen : k + (o :: l).length = k + 1 + l.length := by simp; omega
      cases x with
      | det v0 =>
        simp only [WalkF] at h
        have hA : lexA ops ks vs a0 (k + 1) = (lexA ops ks vs a0 k).put o.dst v0 := by
          show (lexA ops ks vs a0 k).put ((ops[k]?).bind (·.dst)) ((ks.getD k (.det undef)).val (vs k)) = _
          rw [hg, h0]; rfl
        have hH : lexH ops ks vs (k + 1) = lexH ops ks vs k := by
          show (match ks.getD k (.det undef) with | .det _ => _ | .fact F => _) = _
          rw [hg]
        obtain ⟨r1, r2⟩ := WalkF_spec vs l (k + 1) hl' (by rw [hd', hA, hH]; exact h.2)
        rw [hlen]
        refine ⟨fun i oi hi hlt ho => ?_, r2⟩
        by_cases hik : i = k
        · subst hik
          rw [h0] at ho
          obtain rfl := Option.some.inj ho
          rw [hg]
          exact ⟨fun v w w' e _ => e, h.1⟩
        · exact r1 i oi (by omega) (by omega) ho
      | fact F =>
        simp only [WalkF] at h
        have hA : lexA ops ks vs a0 (k + 1) = (lexA ops ks vs a0 k).put o.dst (vs k) := by
          show (lexA ops ks vs a0 k).put ((ops[k]?).bind (·.dst)) ((ks.getD k (.det undef)).val (vs k)) = _
          rw [hg, h0]; rfl
        have hH : lexH ops ks vs (k + 1) = (o.dst, F (vs k)) :: lexH ops ks vs k := by
          show (match ks.getD k (.det undef) with | .det _ => _ | .fact F => _) = _
          rw [hg, h0]; rfl
        obtain ⟨r1, r2⟩ := WalkF_spec vs l (k + 1) hl' (by rw [hd', hA, hH]; exact h.2.2 (vs k))
        rw [hlen]
        refine ⟨fun i oi hi hlt ho => ?_, r2⟩
        by_cases hik : i = k
        · subst hik
          rw [h0] at ho
          obtain rfl := Option.some.inj ho
          rw [hg]
          exact ⟨h.1, h.2.1⟩
        · exact r1 i oi (by omega) (by omega) ho

theorem execOp_same (o : Oper) (hs : ∀ cs b, o.op ≠ .select cs b) (a a' : Act) (h : ∀ t ∈ o.looksAt ops, a.tmps[t]? = a'.tmps[t]?) : execOp a.eval o = execOp a'.eval o :=
  execOp_congr o hs fun x hx => by
    cases x with
    | tmp t =>
      have := h t (List.mem_append_left _ (List.mem_filterMap.2 ⟨.tmp t, by simpa using hx, rfl⟩))
      simp [Act.eval, this]
    | _ => rfl
theorem wanted_same (o : Oper) (a a' : Act) (h : ∀ t ∈ o.looksAt ops, a.tmps[t]? = a'.tmps[t]?) : Region.wanted o (yielded ops a.tmps) = Region.wanted o (yielded ops a'.tmps) := by
  unfold Region.wanted
  cases hg : o.guard with
  | none => rfl
  | some gw =>
    obtain ⟨g, want⟩ := gw
    have hy : yielded ops a.tmps g = yielded ops a'.tmps g := by
      unfold yielded
      cases ht : (ops[g]?).bind (·.dst) with
      | none => rfl
      | some t => simp only [Option.bind_some]; rw [h t (by simp [Oper.looksAt, hg, ht])]
    simp only [hy]

theorem execOp_same_yields (o : Oper) (hs : ∀ cs b, o.op ≠ .select cs b) (a a' : Act) (h : ∀ t ∈ o.looksAt ops, a.tmps[t]? = a'.tmps[t]?) {w : World} {F : Value → World → Prop} : YieldsF P a.eval o w F = YieldsF P a'.eval o w F := by
  unfold YieldsF
  rw [execOp_same o hs a a' h]

/-- What holds on the way: the facts of all that is done; the frame is a0 but for what they left. -/
structure OnWay (P : Program) (ops : Array Oper) (m : Nat) (R : World → World → Prop) (w0 : World) (ks : List Take) (a0 : Act) (listed : Array Bool) (a : Act) (w : World) (vs : Nat → Value) : Prop where
  world : R w0 w
  defers : a.defers = a0.defers
  facts : ∀ i, i < m → listed.getD i true = true → (ks.getD i (.det undef)).says (vs i) w
  done : ∀ i o t, i < m → ops[i]? = some o → o.dst = some t → listed.getD i true = true → a.tmps[t]? = (a0.tmps[t]?).map fun _ => vs i
  other : ∀ t, (∀ i o, i < m → ops[i]? = some o → o.dst = some t → listed.getD i true = false) → a.tmps[t]? = a0.tmps[t]?
  closed : ∀ i o, ops[i]? = some o → listed.getD i false = true → ∀ e ∈ o.after, Region.binds .any e = true → listed.getD e.on false = true
  fresh : ∀ i, m ≤ i → i < ops.size → listed.getD i true = false

theorem act_ext {a a' : Act} (h : ∀ t : Nat, a.tmps[t]? = a'.tmps[t]?) (hd : a.defers = a'.defers) : a = a' := by
  obtain ⟨t, d⟩ := a
  obtain ⟨t', d'⟩ := a'
  simp only at h hd
  subst hd
  have : t = t' := by
    apply Array.ext_getElem?
    exact h
  rw [this]

theorem wpAny_facts {m : Nat} (hR : ∀ a b c, R a b → R b c → R a c) (hB : factsB ops m = true) (hT : tailB ops m = true) {ks : List Take} {a0 : Act} {Q' : Exit → Act → World → Prop}
    (hst : ∀ i o, i < m → ops[i]? = some o → ∀ v w w', (ks.getD i (.det undef)).says v w → R w w' → (ks.getD i (.det undef)).says v w')
    (how : ∀ vs i o, i < m → ops[i]? = some o → Owes P ops R w0 o (lexA ops ks vs a0 i) (lexH ops ks vs i) (ks.getD i (.det undef)).says)
    (hQ : ∀ vs w, R w0 w → (∀ p ∈ lexH ops ks vs m, p.2 w) → wpList P ops Q' (ops.toList.drop m) (lexA ops ks vs a0 m) w) :
    ∀ (n : Nat) (listed : Array Bool) (U : List Nat) (a : Act) (w : World) (vs : Nat → Value), listed.size = ops.size → U.length = n → U.Nodup → (∀ i, i ∈ U ↔ i < m ∧ listed.getD i true = false) →
      OnWay P ops m R w0 ks a0 listed a w vs → wpAny P .any ops Q' (n + (ops.size - m)) listed a w := by
  have hms := factsB_le hB
  have conv : ∀ (listed : Array Bool) (j : Nat), listed.size = ops.size → j < ops.size → listed.getD j false = listed.getD j true := fun listed j hls hj => by
    have : j < listed.size := by omega
    simp [this]
  intro n
  induction n with
  | zero =>
    intro listed U a w vs hls hlen hnd hU hway
    obtain rfl := List.length_eq_zero_iff.1 hlen
    have all : ∀ i, i < m → listed.getD i true = true := fun i hi => by
      cases hf : listed.getD i true with
      | true => rfl
      | false => have := (hU i).2 ⟨hi, hf⟩; cases this
    have ea : a = lexA ops ks vs a0 m := by
      refine act_ext (fun t => ?_) (by rw [hway.defers, lexA_defers])
      by_cases hex : ∃ (i : Nat) (o : Oper), i < m ∧ ops[i]? = some o ∧ o.dst = some t
      · obtain ⟨i, o, him, hi, hd⟩ := hex
        have hl := all i him
        rw [hway.done i o t him hi hd hl, lexA_some hB (j := i) (by rw [hi]; exact hd) him (Nat.le_refl _), Take.val_of (hway.facts i him hl)]
      · rw [hway.other t fun i o him hi hd => absurd ⟨i, o, him, hi, hd⟩ hex, lexA_none]
        intro j hj e
        obtain ⟨o, ho, hd⟩ := Option.bind_eq_some_iff.1 e
        exact hex ⟨j, o, hj, ho, hd⟩
    rw [Nat.zero_add]
    refine wpAny_tail hT _ m listed a w (Nat.le_refl _) (by omega) hls (fun j hj => ?_) hway.closed ?_
    · by_cases hjm : j < m
      · rw [all j hjm]; simp [hjm]
      · rw [hway.fresh j (by omega) hj]; simp [hjm]
    · rw [ea]
      refine hQ vs w hway.world fun p hp => ?_
      obtain ⟨j, hj, _, hs⟩ := lexH_mem hp
      exact hs w (hway.facts j hj (all j hj))
  | succ n ih =>
    intro listed U a w vs hls hlen hnd hU hway
    rw [show n + 1 + (ops.size - m) = n + (ops.size - m) + 1 from by omega]
    have some1 : Region.ready .any ops listed ≠ [] := fun hr => by
      have all : ∀ n i, i < n → i < m → listed.getD i true = true := by
        intro n
        induction n with
        | zero => intro i hi; omega
        | succ n ih' =>
          intro i hi hlt
          cases hf : listed.getD i true with
          | true => rfl
          | false =>
            exfalso
            have hoi : ops[i]? = some ops[i] := Array.getElem?_eq_getElem (by omega)
            have hm : i ∈ Region.ready .any ops listed := by
              rw [mem_ready]
              refine ⟨hf, _, hoi, fun e he hb => ?_⟩
              have hlt' := (factsB_one hB hlt hoi).2 e he hb
              rw [conv listed e.on hls (by omega)]
              exact ih' e.on (by omega) (by omega)
            rw [hr] at hm
            cases hm
      cases U with
      | nil => simp at hlen
      | cons x xs =>
        have := (hU x).1 List.mem_cons_self
        rw [all (x + 1) x (by omega) this.1] at this
        cases this.2
    refine ⟨fun hr => absurd hr some1, fun i hi => ?_⟩
    obtain ⟨h0, o, ho, hall⟩ := mem_ready.1 hi
    have hlt : i < ops.size := (Array.getElem?_eq_some_iff.1 ho).1
    have him : i < m := by
      rcases Nat.lt_or_ge i m with h | h
      · exact h
      · exfalso
        cases U with
        | nil => simp at hlen
        | cons x xs =>
          have hx := (hU x).1 List.mem_cons_self
          have := reachB_spec hway.closed 8 i x o ho hall ((tailB_spec hT ho h).2 x (by omega))
          rw [conv listed x hls (by omega), hx.2] at this
          cases this
    have hil : i < listed.size := by omega
    have hself : (listed.setIfInBounds i true).getD i true = true := by simp [hil]
    have hoth : ∀ j, j ≠ i → (listed.setIfInBounds i true).getD j true = listed.getD j true := fun j hj => getD_set_ne true (Ne.symm hj)
    have look : ∀ t ∈ o.looksAt ops, a.tmps[t]? = (lexA ops ks vs a0 i).tmps[t]? := fun t ht => by
      by_cases hex : ∃ (j : Nat) (p : Oper), j < m ∧ ops[j]? = some p ∧ p.dst = some t
      · obtain ⟨j, p, hjm, hj, hd⟩ := hex
        rcases (factsB_pair hB him hjm ho hj hd).2 ht with ⟨hji, e, he, heq, hb⟩ | ⟨hij, e, he, heq, hb⟩
        · have hlj : listed.getD j true = true := by
            have h1 := hall e he hb
            rw [heq, conv listed j hls (by omega)] at h1
            exact h1
          rw [hway.done j p t hjm hj hd hlj, lexA_some hB (j := j) (by rw [hj]; exact hd) hji (by omega), Take.val_of (hway.facts j hjm hlj)]
        · have hnl : listed.getD j true = false := by
            cases hf : listed.getD j true with
            | false => rfl
            | true =>
              have := hway.closed j p hj (by rw [conv listed j hls (by omega)]; exact hf) e he hb
              rw [heq, conv listed i hls hlt, h0] at this
              cases this
          rw [hway.other t fun k ok hkm hk hdk => by
              have := (factsB_pair hB hkm hjm hk hj hd).1 hdk
              subst this
              exact hnl, lexA_none]
          intro k hk e'
          obtain ⟨ok, hok, hdk⟩ := Option.bind_eq_some_iff.1 e'
          have := (factsB_pair hB (by omega) hjm hok hj hd).1 hdk
          omega
      · rw [hway.other t fun i o him hi hd => absurd ⟨i, o, him, hi, hd⟩ hex, lexA_none]
        intro j hj e
        obtain ⟨o, ho, hd⟩ := Option.bind_eq_some_iff.1 e
        exact hex ⟨j, o, by omega, ho, hd⟩
    have go : ∀ v w', (ks.getD i (.det undef)).says v w' → R w w' ∨ w' = w → wpAny P .any ops Q' (n + (ops.size - m)) (listed.setIfInBounds i true) (a.put o.dst v) w' := by
      intro v w' hv hww
      have hst' : ∀ j oj, j < m → ops[j]? = some oj → ∀ v, (ks.getD j (.det undef)).says v w → (ks.getD j (.det undef)).says v w' := fun j oj hjm hj v hs => by
        rcases hww with hww | rfl
        · exact hst j oj hjm hj v w w' hs hww
        · exact hs
      refine ih (listed.setIfInBounds i true) (U.erase i) _ w' (fun j => if j = i then v else vs j) (by simpa using hls) ?_ (hnd.erase i) (fun j => ?_) ?_
      · rw [List.length_erase_of_mem ((hU i).2 ⟨him, h0⟩), hlen]; rfl
      · rw [hnd.mem_erase_iff, hU j]
        by_cases hji : j = i
        · subst hji; simp [hil]
        · rw [hoth j hji]; simp [hji]
      · refine ⟨?_, by rw [put_defers']; exact hway.defers, fun j hj hl => ?_, fun j p t hjm hj hd hl => ?_, fun t ht => ?_, fun j p hj hl e he hb => ?_, fun j hj hjs => ?_⟩
        · rcases hww with hww | rfl
          · exact hR _ _ _ hway.world hww
          · exact hway.world
        · by_cases hji : j = i
          · subst hji; simpa using hv
          · rw [hoth j hji] at hl
            simp only [if_neg hji]
            exact hst' j _ hj (Array.getElem?_eq_getElem (by omega)) _ (hway.facts j hj hl)
        · by_cases hji : j = i
          · subst hji
            rw [ho] at hj
            obtain rfl := Option.some.inj hj
            rw [hd, put_tmps_eq, hway.other t fun k ok hkm hk hdk => by
              have := (factsB_pair hB hkm him hk ho hd).1 hdk
              subst this
              exact h0]
            simp
          · rw [hoth j hji] at hl
            rw [put_tmps_ne _ _ _ (fun e => hji ((factsB_pair hB him hjm ho hj hd).1 e).symm), hway.done j p t hjm hj hd hl]
            simp [hji]
        · rw [put_tmps_ne _ _ _ (fun e => by
            have := ht i o him ho e
            rw [hself] at this
            cases this)]
          refine hway.other t fun k ok hkm hk hdk => ?_
          have := ht k ok hkm hk hdk
          by_cases hki : k = i
          · subst hki; exact h0
          · rwa [hoth k hki] at this
        · by_cases hji : j = i
          · subst hji
            rw [ho] at hj
            obtain rfl := Option.some.inj hj
            exact getD_set_true (hall e he hb)
          · rw [getD_set_ne false (Ne.symm hji)] at hl
            exact getD_set_true (hway.closed j p hj hl e he hb)
        · rw [hoth j (by omega)]
          exact hway.fresh j hj hjs
    have ow := how vs i o him ho w hway.world (fun p hp ⟨t, hpt, ht⟩ => by
      obtain ⟨j, hj, hpd, hs⟩ := lexH_mem hp
      rw [hpt] at hpd
      obtain ⟨p', hp', hd'⟩ := Option.bind_eq_some_iff.1 hpd.symm
      rcases (factsB_pair hB him (by omega) ho hp' hd').2 ht with ⟨_, e, he, heq, hb⟩ | ⟨hij, _⟩
      · have h1 := hall e he hb
        rw [heq, conv listed j hls (by omega)] at h1
        exact hs w (hway.facts j (by omega) h1)
      · omega)
    unfold wpOp
    simp only [ho]
    rw [← wanted_same o a _ look, ← execOp_same_yields o (factsB_one hB him ho).1 a _ look] at ow
    split
    · rename_i hw
      simp only [hw, if_true] at ow
      exact .inl (wp_of_yieldsF ow fun v w' hv => go v w' hv.1 (.inl hv.2))
    · rename_i hw
      simp only [hw] at ow
      exact go undef w ow (.inr rfl)

/-- **A region that draws its order**: each of its first m operations owes its fact from the facts of what it looks at, in whatever world the region may have come to; behind them all facts hold at once; the others come one behind the other. -/
theorem wp_region_facts {id : Nat} {Q' : Exit → Act → World → Prop} {a : Act} {w : World} {l : List Oper} (m : Nat) (ks : List Take) (hm : P.follows .mixedOrders = true) (hB : factsB l.toArray m = true) (hT : tailB l.toArray m = true)
    (hR : ∀ a b c, R a b → R b c → R a c) (h0 : R w0 w.drew)
    (h : WalkF P l.toArray R w0 (fun a' w' => wpList P l.toArray Q' (l.drop m) a' w') (l.take m) ks a []) : (Code.region id l.toArray true).wp P Q' a w := by
  have hms := factsB_le hB
  simp only [List.size_toArray] at hms
  refine wp_region_any hm ?_
  have sp := fun vs => WalkF_spec (P := P) (ops := l.toArray) (R := R) (w0 := w0) (Q := fun a' w' => wpList P l.toArray Q' (l.drop m) a' w') (ks := ks) (a0 := a) vs (l.take m) 0 (fun j hj => by
    have hj' : j < m := by simp at hj; omega
    simp [List.getElem?_take, hj']) (by simpa [lexA, lexH] using h)
  have hlen : (l.take m).length = m := by simp; omega
  rw [show l.toArray.size = m + (l.toArray.size - m) from by simp; omega]
  refine wpAny_facts (P := P) (ops := l.toArray) (R := R) (w0 := w0) (ks := ks) (a0 := a) (m := m) hR hB hT ?_ ?_ ?_ m _ (List.range m) a _ (fun _ => undef) (by simp; omega) (by simp) List.nodup_range ?_ ?_
  · exact fun i o him hi => ((sp fun _ => undef).1 i o (Nat.zero_le _) (by omega) hi).1
  · exact fun vs i o him hi => ((sp vs).1 i o (Nat.zero_le _) (by omega) hi).2
  · intro vs w' hw' hp
    have := (sp vs).2 w' hw' (by rw [hlen]; simpa using hp)
    rw [hlen] at this
    simpa using this
  · intro i
    simp only [List.mem_range]
    constructor
    · intro h
      have : i < m + (l.length - m) := by omega
      exact ⟨h, by simp [this]⟩
    · exact fun h => h.1
  · refine ⟨h0, rfl, fun i hi hl => ?_, fun i o t him hi hd hl => ?_, fun t _ => rfl, fun i o hi hl => ?_, fun i hi his => ?_⟩
    · have : i < m + (l.length - m) := by omega
      simp [this] at hl
    · have : i < m + (l.length - m) := by omega
      simp [this] at hl
    · have hil : i < l.length := by simpa using (Array.getElem?_eq_some_iff.1 hi).1
      have : i < m + (l.length - m) := by omega
      simp [this] at hl
    · have hil : i < l.length := by simpa using his
      have : i < m + (l.length - m) := by omega
      simp [this]
/-- The same at 'the world went on'. -/
theorem wp_region_ext {id : Nat} {Q' : Exit → Act → World → Prop} {a : Act} {w : World} {l : List Oper} {ks : List Take} (hm : P.follows .mixedOrders = true) (hB : factsB l.toArray l.length = true) (hT : tailB l.toArray l.length = true)
    (h : WalkF P l.toArray Ext w (fun a' w' => Q' .normal a' w') l ks a []) : (Code.region id l.toArray true).wp P Q' a w := by
  refine wp_region_facts (R := Ext) l.length ks hm hB hT (fun _ _ _ => Ext.trans) (Below.drew (Below.refl _ _)) ?_
  rw [List.take_length, List.drop_length]
  exact h
/-- The same; behind the first m operations the others come one behind the other. -/
theorem wp_region_ext_tail (m : Nat) {id : Nat} {Q' : Exit → Act → World → Prop} {a : Act} {w : World} {l : List Oper} {ks : List Take} (hm : P.follows .mixedOrders = true) (hB : factsB l.toArray m = true) (hT : tailB l.toArray m = true)
    (h : WalkF P l.toArray Ext w (fun a' w' => wpList P l.toArray Q' (l.drop m) a' w') (l.take m) ks a []) : (Code.region id l.toArray true).wp P Q' a w :=
  wp_region_facts (R := Ext) m ks hm hB hT (fun _ _ _ => Ext.trans) (Below.drew (Below.refl _ _)) h
def looksOf (o : Oper) : List Tmp := o.op.operands.toList.filterMap fun | .tmp t => some t | _ => none
/-- One operation without a guard; d: where its value goes; L: what it looks at. -/
theorem step_det {o : Oper} {l : List Oper} {ks : List Take} {a : Act} {H : List (Option Tmp × (World → Prop))} {d : Option Tmp} {L : List Tmp} (v0 : Value) (hd : o.dst = d) (hg : o.guard = none) (hL : looksOf o = L)
    (h : ∀ w, R w0 w → (∀ p ∈ H, (∃ t, p.1 = some t ∧ t ∈ L) → p.2 w) → YieldsF P a.eval o w (fun v w' => v = v0 ∧ R w w')) (hk : WalkF P ops R w0 Q l ks (a.put d v0) H) : WalkF P ops R w0 Q (o :: l) (.det v0 :: ks) a H := by
  subst hd hL
  refine WalkF_det v0 (fun w hw hH => ?_) hk
  have : Region.wanted o (yielded ops a.tmps) = true := by unfold Region.wanted; rw [hg]
  rw [if_pos this]
  exact h w hw fun p hp ⟨t, ht, hm⟩ => hH p hp ⟨t, ht, List.mem_append_left _ hm⟩
theorem step_fact {o : Oper} {l : List Oper} {ks : List Take} {a : Act} {H : List (Option Tmp × (World → Prop))} {d : Option Tmp} {L : List Tmp} (F : Value → World → Prop) (hs : ∀ v w w', F v w → R w w' → F v w') (hd : o.dst = d) (hg : o.guard = none) (hL : looksOf o = L)
    (h : ∀ w, R w0 w → (∀ p ∈ H, (∃ t, p.1 = some t ∧ t ∈ L) → p.2 w) → YieldsF P a.eval o w (fun v w' => F v w' ∧ R w w')) (hk : ∀ v, WalkF P ops R w0 Q l ks (a.put d v) ((d, F v) :: H)) : WalkF P ops R w0 Q (o :: l) (.fact F :: ks) a H := by
  subst hd hL
  refine WalkF_fact F hs (fun w hw hH => ?_) hk
  have : Region.wanted o (yielded ops a.tmps) = true := by unfold Region.wanted; rw [hg]
  rw [if_pos this]
  exact h w hw fun p hp ⟨t, ht, hm⟩ => hH p hp ⟨t, ht, List.mem_append_left _ hm⟩
/-- One operation whose guard is decided: it runs. -/
theorem step_on {o : Oper} {l : List Oper} {ks : List Take} {a : Act} {H : List (Option Tmp × (World → Prop))} {d : Option Tmp} {L : List Tmp} (v0 : Value) (hw : Region.wanted o (yielded ops a.tmps) = true) (hd : o.dst = d) (hL : looksOf o = L)
    (h : ∀ w, R w0 w → (∀ p ∈ H, (∃ t, p.1 = some t ∧ t ∈ L) → p.2 w) → YieldsF P a.eval o w (fun v w' => v = v0 ∧ R w w')) (hk : WalkF P ops R w0 Q l ks (a.put d v0) H) : WalkF P ops R w0 Q (o :: l) (.det v0 :: ks) a H := by
  subst hd hL
  refine WalkF_det v0 (fun w hw' hH => ?_) hk
  rw [if_pos hw]
  exact h w hw' fun p hp ⟨t, ht, hm⟩ => hH p hp ⟨t, ht, List.mem_append_left _ hm⟩
/-- One operation whose guard is decided: it does not run. -/
theorem step_off {o : Oper} {l : List Oper} {ks : List Take} {a : Act} {H : List (Option Tmp × (World → Prop))} {d : Option Tmp} (hw : Region.wanted o (yielded ops a.tmps) = false) (hd : o.dst = d)
    (hk : WalkF P ops R w0 Q l ks (a.put d undef) H) : WalkF P ops R w0 Q (o :: l) (.det undef :: ks) a H := by
  subst hd
  refine WalkF_det undef (fun w _ _ => ?_) hk
  rw [if_neg (by rw [hw]; exact Bool.false_ne_true)]
/-- A copy. -/
theorem step_move {o : Oper} {l : List Oper} {ks : List Take} {a : Act} {H : List (Option Tmp × (World → Prop))} {d : Option Tmp} {x : Operand} {v0 : Value} (hR0 : ∀ w, R w w) (hd : o.dst = d) (hg : o.guard = none) (ho : o.op = .move x ∨ o.op = .assign x)
    (hv : a.eval x = v0) (hk : WalkF P ops R w0 Q l ks (a.put d v0) H) : WalkF P ops R w0 Q (o :: l) (.det v0 :: ks) a H := by
  refine step_det v0 hd hg rfl (fun w hw _ => ?_) hk
  unfold YieldsF
  rcases ho with ho | ho
  · rw [BigFrame.run_move x ho]; exact ⟨hv, hR0 _⟩
  · rw [BigFrame.run_assign x ho]; exact ⟨hv, hR0 _⟩
/-- A call: its contract. -/
theorem yields_call {ρ : Operand → Value} {o : Oper} {w : World} {F : Value → World → Prop} {f : FuncId} {args : Array Value} (he : ∀ w, (execOp ρ o).run P w = .ok (.enter f args) w)
    (h : Calls P f args w fun e w'' => ∃ u, e = .returned u ∧ F u w'') : YieldsF P ρ o w F := by
  unfold YieldsF; rw [he]; exact h
end

/-- A block that is known whole. -/
def Blk (w : World) (g : Nat) (t : TypeId) (cs : Array Value) : Prop := w.heap[g]? = some (.cells cs t (0, 0))
section
variable {w w' : World} {g : Nat} {t : TypeId} {cs : Array Value}
theorem Blk.lt (h : Blk w g t cs) : g < w.heap.size := by
  rcases Nat.lt_or_ge g w.heap.size with hlt | hge
  · exact hlt
  · unfold Blk at h; rw [Array.getElem?_eq_none hge] at h; cases h
theorem Blk.cell (h : Blk w g t cs) (i : Nat) : w.cell? ⟨g, i, none⟩ = cs[i]? := cell_of_row w g i cs t (0, 0) h
theorem Blk.new (w : World) (t : TypeId) (cs : Array Value) : Blk (w.alloc (.cells cs t)) w.heap.size t cs := heap_alloc_new w _
theorem Blk.ext (h : Blk w g t cs) (hb : Ext w w') : Blk w' g t cs := (hb.block g h.lt).trans h
end
theorem Ext.alloc (w : World) (o : Obj) : Ext w (w.alloc o) := (Below.refl _ _).alloc (Nat.le_refl _) _
/-- A slice over a block of its own that is known whole. -/
def IsLit (t : TypeId) (cs : Array Value) (v : Value) (w : World) : Prop := ∃ g, v = .slice (some ⟨g, 0, none⟩) cs.size cs.size ∧ Blk w g t cs
theorem IsLit.ext {t : TypeId} {cs : Array Value} (v : Value) (w w' : World) (h : IsLit t cs v w) (hb : Ext w w') : IsLit t cs v w' :=
  let ⟨g, hv, hg⟩ := h; ⟨g, hv, hg.ext hb⟩
/-- The address of a place of such a slice. -/
def IsPlace (t : TypeId) (cs : Array Value) (i : Nat) (v : Value) (w : World) : Prop := ∃ g, v = .pointer (some ⟨g, i, none⟩) ∧ Blk w g t cs
theorem IsPlace.ext {t : TypeId} {cs : Array Value} {i : Nat} (v : Value) (w w' : World) (h : IsPlace t cs i v w) (hb : Ext w w') : IsPlace t cs i v w' :=
  let ⟨g, hv, hg⟩ := h; ⟨g, hv, hg.ext hb⟩
end Go.Proofs.Ytngbpaiohfokbaa
