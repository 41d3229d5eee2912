/- The plain law of trees' depths, of kids' numbers, and of right trees. No program in sight. -/
import Derived.Test.YthofccoefiogiaaTLaw
import Derived.Test.YthofccoefiogiaaTForm
namespace Go.Proofs.Ythofccoefiogiaa
set_option linter.unusedVariables false
set_option linter.unusedSimpArgs false
theorem kidsR_lt {ks : List (List Int)} : ∀ (l : List Int) (a0 e : Nat), a0 ≤ ks.length → kidsR (endD ks) ks.length l (some a0) = some e → ∀ k ∈ l, ∃ a : Nat, k = (a : Int) ∧ a0 ≤ a ∧ a < e := by
  intro l
  induction l with
  | nil => intro a0 e _ _ k hk; cases hk
  | cons x r ih =>
    intro a0 e h0 h k hk
    rw [kidsR_cons] at h
    split at h
    · rename_i hc
      cases ha : endD ks a0 with
      | none => rw [ha, kidsR_none] at h; cases h
      | some a1 =>
        rw [ha] at h
        have h1 := endD_gt ha
        have h2 := kidsR_gt (fun a e he => endD_gt he) r a1 e h1.2 h
        rcases List.mem_cons.1 hk with rfl | hk
        · exact ⟨a0, hc.2, Nat.le_refl _, by omega⟩
        · obtain ⟨a, h3, h4, h5⟩ := ih a1 e h1.2 h k hk
          exact ⟨a, h3, by omega, h5⟩
    · cases h
def ownD (k : Int) : Int := if k = 6 ∨ k = 20 then 1 else 0
def exD (k : Int) : Int := if exprB k = true then 1 else 0
def setAll (v : Int) : List Int → List Int → List Int
  | [], D => D
  | k :: r, D => setAll v r (D.set k.toNat v)
theorem setAll_len (v : Int) (l : List Int) : ∀ D, (setAll v l D).length = D.length := by
  induction l with
  | nil => intro D; rfl
  | cons k r ih => intro D; unfold setAll; rw [ih]; simp
theorem setAll_snoc (v : Int) (l : List Int) (k : Int) : ∀ D, setAll v (l ++ [k]) D = (setAll v l D).set k.toNat v := by
  induction l with
  | nil => intro D; rfl
  | cons x r ih => intro D; exact ih _
theorem getD_set (D : List Int) (i j : Nat) (v : Int) : (D.set i v).getD j 0 = if i = j ∧ j < D.length then v else D.getD j 0 := by
  simp only [List.getD_eq_getElem?_getD, List.getElem?_set]
  by_cases h : i = j
  · subst h
    by_cases h2 : i < D.length
    · simp [h2]
    · simp [h2]
  · simp [h]
theorem setAll_out (v : Int) (l : List Int) : ∀ (D : List Int) (j : Nat), (∀ k ∈ l, k.toNat ≠ j) → (setAll v l D).getD j 0 = D.getD j 0 := by
  induction l with
  | nil => intro D j _; rfl
  | cons k r ih =>
    intro D j h
    unfold setAll
    rw [ih _ j (fun x hx => h x (by simp [hx])), getD_set, if_neg (fun hh => h k (by simp) hh.1)]
theorem setAll_in (v : Int) (l : List Int) : ∀ (D : List Int) (j : Nat), j < D.length → (∃ k ∈ l, k.toNat = j) → (setAll v l D).getD j 0 = v := by
  induction l with
  | nil => rintro D j hj ⟨k, hk, _⟩; cases hk
  | cons k r ih =>
    rintro D j hj ⟨x, hx, he⟩
    unfold setAll
    by_cases hr : ∃ x ∈ r, x.toNat = j
    · exact ih _ j (by simpa using hj) hr
    · rw [setAll_out v r _ j (fun x hx hh => hr ⟨x, hx, hh⟩)]
      rcases List.mem_cons.1 hx with rfl | hx
      · rw [getD_set, if_pos ⟨he, hj⟩]
      · exact absurd ⟨x, hx, he⟩ hr
/-- One node visited: its depth, and its kids'. -/
def depVisit (kd : List Int) (ks : List (List Int)) (i : Nat) (st : List Int × Int) : List Int × Int :=
  (setAll (st.1.getD i 0 + ownD (kd.getD i 0) + exD (kd.getD i 0)) (ks.getD i []) (st.1.set i (st.1.getD i 0 + ownD (kd.getD i 0))), max st.2 (st.1.getD i 0 + ownD (kd.getD i 0)))
def runs (kd : List Int) (ks : List (List Int)) : Nat → Nat → List Int × Int → List Int × Int
  | 0, _, st => st
  | c + 1, i, st => runs kd ks c (i + 1) (depVisit kd ks i st)
theorem runs_add (kd : List Int) (ks : List (List Int)) : ∀ (a b i : Nat) (st : List Int × Int), runs kd ks (a + b) i st = runs kd ks b (i + a) (runs kd ks a i st) := by
  intro a
  induction a with
  | zero => intro b i st; rw [Nat.zero_add]; rfl
  | succ a ih =>
    intro b i st
    rw [show a + 1 + b = (a + b) + 1 from by omega]
    show runs kd ks (a + b) (i + 1) _ = _
    rw [ih, show i + 1 + a = i + (a + 1) from by omega]
    rfl
def depTo (kd : List Int) (ks : List (List Int)) (i : Nat) : List Int × Int := runs kd ks i 0 (List.replicate ks.length 0, 0)
theorem depTo_succ (kd : List Int) (ks : List (List Int)) (i : Nat) : depTo kd ks (i + 1) = depVisit kd ks i (depTo kd ks i) := by
  unfold depTo
  rw [runs_add, Nat.zero_add]
  rfl
theorem runs_len (kd : List Int) (ks : List (List Int)) : ∀ (c i : Nat) (st : List Int × Int), (runs kd ks c i st).1.length = st.1.length := by
  intro c
  induction c with
  | zero => intro i st; rfl
  | succ c ih =>
    intro i st
    unfold runs
    rw [ih]
    unfold depVisit
    simp only [setAll_len, List.length_set]
def deepN (kd : List Int) (ks : List (List Int)) : Int := (depTo kd ks ks.length).2
def ownU (k u : Int) : Int := if (k = 6 ∨ k = 20) ∨ (exprB k = true ∧ exprB u = true) then 1 else 0
/-- The document's depth. -/
def deepF (kd : List Int) (ks : List (List Int)) : Nat → Nat → Int → Int
  | 0, _, _ => 0
  | f + 1, i, u => ownU (kd.getD i 0) u + (ks.getD i []).foldl (fun m k => max m (deepF kd ks f k.toNat (kd.getD i 0))) 0
theorem fold_max_add (h : Int → Int) (a : Int) : ∀ (l : List Int) (m c : Int), l.foldl (fun m k => max m (a + h k)) (max m (a + c)) = max m (a + l.foldl (fun m k => max m (h k)) c) := by
  intro l
  induction l with
  | nil => intro m c; rfl
  | cons k r ih =>
    intro m c
    rw [List.foldl_cons, List.foldl_cons, ← ih m (max c (h k))]
    congr 1
    omega
theorem fold_congr {f g : Int → Int} : ∀ (l : List Int) (m : Int), (∀ k ∈ l, f k = g k) → l.foldl (fun m k => max m (f k)) m = l.foldl (fun m k => max m (g k)) m := by
  intro l
  induction l with
  | nil => intro m _; rfl
  | cons k r ih => intro m h; rw [List.foldl_cons, List.foldl_cons, h k (by simp)]; exact ih _ (fun x hx => h x (by simp [hx]))
theorem fold_ge (f : Int → Int) : ∀ (l : List Int) (m : Int), m ≤ l.foldl (fun m k => max m (f k)) m := by
  intro l
  induction l with
  | nil => intro m; exact Int.le_refl _
  | cons k r ih => intro m; rw [List.foldl_cons]; exact Int.le_trans (by omega) (ih _)
theorem own_expr (k : Int) : ¬ ((k = 6 ∨ k = 20) ∧ exprB k = true) := by
  rintro ⟨h, h2⟩
  unfold exprB at h2
  simp at h2
  omega
theorem own_split (k u : Int) (h : exprB u = true → exprB k = true) : exD u + ownU k 0 = ownU k u := by
  have h0 : ¬ exprB 0 = true := by decide
  have h2 := own_expr k
  unfold exD ownU
  by_cases hu : exprB u = true
  · have hk := h hu
    rw [if_pos hu, if_neg (by
      rintro (hh | hh)
      · exact h2 ⟨hh, hk⟩
      · exact h0 hh.2), if_pos (.inr ⟨hk, hu⟩)]
    rfl
  · rw [if_neg hu, Int.zero_add]
    by_cases hk : k = 6 ∨ k = 20
    · rw [if_pos (.inl hk), if_pos (.inl hk)]
    · rw [if_neg (by rintro (hh | hh); exact hk hh; exact h0 hh.2), if_neg (by rintro (hh | hh); exact hk hh; exact hu hh.2)]
/-- A subtree's run. -/
theorem run_sub {kd : List Int} {ks : List (List Int)} (hex : ∀ i, i < ks.length → exprB (kd.getD i 0) = true → ∀ k ∈ ks.getD i [], exprB (kd.getD k.toNat 0) = true) :
    ∀ (f i e : Nat) (D : List Int) (m : Int), ks.length - i ≤ f → endD ks i = some e → D.length = ks.length →
      ∃ D', runs kd ks (e - i) i (D, m) = (D', max m (D.getD i 0 + deepF kd ks f i 0)) ∧ ∀ j, e ≤ j → D'.getD j 0 = D.getD j 0 := by
  intro f
  induction f with
  | zero => intro i e D m hf he; have := endD_lt he; omega
  | succ f ih =>
    intro i e D m hf he hD
    have hil := endD_lt he
    have hie := endD_gt he
    have hk := he
    rw [endD_eq, if_pos hil] at hk
    have kidsRun : ∀ (l : List Int) (a0 e0 : Nat) (D : List Int) (m b : Int), i < a0 → a0 ≤ ks.length → kidsR (endD ks) ks.length l (some a0) = some e0 → D.length = ks.length → (∀ k ∈ l, D.getD k.toNat 0 = b) →
        ∃ D', runs kd ks (e0 - a0) a0 (D, m) = (D', l.foldl (fun m k => max m (b + deepF kd ks f k.toNat 0)) m) ∧ ∀ j, e0 ≤ j → D'.getD j 0 = D.getD j 0 := by
      intro l
      induction l with
      | nil =>
        intro a0 e0 D m b _ _ h _ _
        injection h with h
        subst h
        exact ⟨D, by rw [Nat.sub_self]; rfl, fun j _ => rfl⟩
      | cons x r ihl =>
        intro a0 e0 D m b h0 h1 h hD hb
        rw [kidsR_cons] at h
        split at h
        · rename_i hc
          cases ha : endD ks a0 with
          | none => rw [ha, kidsR_none] at h; cases h
          | some a1 =>
            rw [ha] at h
            have hg1 := endD_gt ha
            have hg2 := kidsR_gt (fun a e he => endD_gt he) r a1 e0 hg1.2 h
            obtain ⟨D1, hr1, hk1⟩ := ih a0 a1 D m (by omega) ha hD
            have hD1 : D1.length = ks.length := by
              have := runs_len kd ks (a1 - a0) a0 (D, m)
              rw [hr1] at this
              exact this.trans hD
            have hb0 := hb x (by simp)
            obtain ⟨D2, hr2, hk2⟩ := ihl a1 e0 D1 (max m (D.getD a0 0 + deepF kd ks f a0 0)) b (by omega) hg1.2 h hD1 (fun k hk => by
              obtain ⟨a, h3, h4, h5⟩ := kidsR_lt r a1 e0 hg1.2 h k hk
              rw [hk1 k.toNat (by rw [h3]; simpa using h4)]
              exact hb k (by simp [hk]))
            refine ⟨D2, ?_, fun j hj => ?_⟩
            · rw [show e0 - a0 = (a1 - a0) + (e0 - a1) from by omega, runs_add, hr1, show a0 + (a1 - a0) = a1 from by omega, hr2, List.foldl_cons]
              rw [hc.2] at hb0 ⊢
              rw [Int.toNat_natCast] at hb0 ⊢
              rw [hb0]
            · rw [hk2 j hj, hk1 j (by omega)]
        · cases h
    have hv : runs kd ks (e - i) i (D, m) = runs kd ks (e - (i + 1)) (i + 1) (depVisit kd ks i (D, m)) := by
      rw [show e - i = (e - (i + 1)) + 1 from by omega]
      rfl
    have hD1 : (D.set i (D.getD i 0 + ownD (kd.getD i 0))).length = ks.length := by simpa using hD
    obtain ⟨D2, hr2, hk2⟩ := kidsRun (ks.getD i []) (i + 1) e (setAll (D.getD i 0 + ownD (kd.getD i 0) + exD (kd.getD i 0)) (ks.getD i []) (D.set i (D.getD i 0 + ownD (kd.getD i 0)))) (max m (D.getD i 0 + ownD (kd.getD i 0))) (D.getD i 0 + ownD (kd.getD i 0) + exD (kd.getD i 0)) (by omega) (by omega) hk (by rw [setAll_len]; exact hD1) (fun k hkm => by
        obtain ⟨a, h3, h4, h5⟩ := kidsR_lt _ _ _ (by omega) hk k hkm
        exact setAll_in _ _ _ _ (by rw [hD1, h3, Int.toNat_natCast]; omega) ⟨k, hkm, rfl⟩)
    refine ⟨D2, ?_, fun j hj => ?_⟩
    · rw [hv]
      unfold depVisit
      simp only
      rw [hr2]
      congr 1
      rw [show deepF kd ks (f + 1) i 0 = ownU (kd.getD i 0) 0 + (ks.getD i []).foldl (fun m k => max m (deepF kd ks f k.toNat (kd.getD i 0))) 0 from rfl]
      have hu : ownU (kd.getD i 0) 0 = ownD (kd.getD i 0) := by
        unfold ownU ownD
        have : ¬ exprB 0 = true := by decide
        simp [this]
      rw [hu]
      have hsub : ∀ k ∈ ks.getD i [], exD (kd.getD i 0) + deepF kd ks f k.toNat 0 = deepF kd ks f k.toNat (kd.getD i 0) := by
        intro k hkm
        obtain ⟨a, h3, h4, h5⟩ := kidsR_lt _ _ _ (by omega) hk k hkm
        cases f with
        | zero => omega
        | succ f =>
          unfold deepF
          have := own_split (kd.getD k.toNat 0) (kd.getD i 0) (fun hx => hex i hil hx k hkm)
          omega
      rw [← fold_congr _ _ hsub]
      have := fold_max_add (fun k => exD (kd.getD i 0) + deepF kd ks f k.toNat 0) (D.getD i 0 + ownD (kd.getD i 0)) (ks.getD i []) m 0
      rw [Int.add_zero] at this
      rw [← Int.add_assoc, ← this]
      apply fold_congr
      intro k _
      omega
    · rw [hk2 j hj, setAll_out _ _ _ j (fun k hkm => by
        obtain ⟨a, h3, h4, h5⟩ := kidsR_lt _ _ _ (by omega) hk k hkm
        rw [h3, Int.toNat_natCast]
        omega), getD_set, if_neg (by omega)]
theorem deepF_ge (kd : List Int) (ks : List (List Int)) (f i : Nat) (u : Int) : 0 ≤ deepF kd ks f i u := by
  cases f with
  | zero => exact Int.le_refl _
  | succ f =>
    unfold deepF
    have := fold_ge (fun k => deepF kd ks f k.toNat (kd.getD i 0)) (ks.getD i []) 0
    have h2 : 0 ≤ ownU (kd.getD i 0) u := by unfold ownU; split <;> omega
    omega
/-- Depths by rows, and by the document, are the same. -/
theorem deep_law {kd : List Int} {ks : List (List Int)} (hex : ∀ i, i < ks.length → exprB (kd.getD i 0) = true → ∀ k ∈ ks.getD i [], exprB (kd.getD k.toNat 0) = true) (h : endD ks 0 = some ks.length) :
    deepN kd ks = deepF kd ks ks.length 0 0 := by
  obtain ⟨D', hr, _⟩ := run_sub hex ks.length 0 ks.length (List.replicate ks.length 0) 0 (by omega) h (by simp)
  unfold deepN depTo
  rw [Nat.sub_zero] at hr
  rw [hr]
  have := deepF_ge kd ks ks.length 0 0
  simp only
  have h0 : (List.replicate ks.length (0 : Int)).getD 0 0 = 0 := by
    cases ks with
    | nil => rfl
    | cons a l => rfl
  rw [h0]
  omega
/-- How often a number is a kid, of some nodes. -/
def kidCount (ks : List (List Int)) (j : Nat) : Nat → Nat → Nat
  | 0, _ => 0
  | c + 1, i => (ks.getD i []).count (j : Int) + kidCount ks j c (i + 1)
theorem kidCount_add (ks : List (List Int)) (j : Nat) : ∀ (a b i : Nat), kidCount ks j (a + b) i = kidCount ks j a i + kidCount ks j b (i + a) := by
  intro a
  induction a with
  | zero => intro b i; rw [Nat.zero_add]; show _ = 0 + _; rw [Nat.zero_add]; rfl
  | succ a ih =>
    intro b i
    rw [show a + 1 + b = (a + b) + 1 from by omega]
    show (ks.getD i []).count (j : Int) + kidCount ks j (a + b) (i + 1) = ((ks.getD i []).count (j : Int) + kidCount ks j a (i + 1)) + kidCount ks j b (i + (a + 1))
    rw [ih, show i + 1 + a = i + (a + 1) from by omega]
    omega
theorem kids_once {ks : List (List Int)} (j : Nat) : ∀ (n i e : Nat), ks.length - i ≤ n → endD ks i = some e → kidCount ks j (e - i) i = if i < j ∧ j < e then 1 else 0 := by
  intro n
  induction n with
  | zero => intro i e h he; have := endD_lt he; omega
  | succ n ih =>
    intro i e hn he
    have hil := endD_lt he
    have hie := endD_gt he
    have hk := he
    rw [endD_eq, if_pos hil] at hk
    have kidsOnce : ∀ (l : List Int) (a0 e0 : Nat), i < a0 → a0 ≤ ks.length → kidsR (endD ks) ks.length l (some a0) = some e0 → l.count (j : Int) + kidCount ks j (e0 - a0) a0 = if a0 ≤ j ∧ j < e0 then 1 else 0 := by
      intro l
      induction l with
      | nil =>
        intro a0 e0 _ _ h
        injection h with h
        subst h
        rw [Nat.sub_self, if_neg (by omega)]
        rfl
      | cons x r ihl =>
        intro a0 e0 h0 h1 h
        rw [kidsR_cons] at h
        split at h
        · rename_i hc
          cases ha : endD ks a0 with
          | none => rw [ha, kidsR_none] at h; cases h
          | some a1 =>
            rw [ha] at h
            have hg1 := endD_gt ha
            have hg2 := kidsR_gt (fun a e he => endD_gt he) r a1 e0 hg1.2 h
            have i1 := ih a0 a1 (by omega) ha
            have i2 := ihl a1 e0 (by omega) hg1.2 h
            rw [show e0 - a0 = (a1 - a0) + (e0 - a1) from by omega, kidCount_add, show a0 + (a1 - a0) = a1 from by omega, i1, List.count_cons, hc.2]
            by_cases hj : a0 = j
            · subst hj
              rw [if_pos (by simp)]
              rw [if_neg (by omega)] at i2
              rw [if_neg (by omega), if_pos (by omega)]
              omega
            · rw [if_neg (by simp; omega)]
              by_cases h2 : a0 < j ∧ j < a1
              · rw [if_neg (by omega)] at i2
                rw [if_pos h2, if_pos (by omega)]
                omega
              · rw [if_neg h2]
                by_cases h3 : a1 ≤ j ∧ j < e0
                · rw [if_pos h3] at i2
                  rw [if_pos (by omega)]
                  omega
                · rw [if_neg h3] at i2
                  rw [if_neg (by omega)]
                  omega
        · cases h
    have := kidsOnce (ks.getD i []) (i + 1) e (by omega) (by omega) hk
    rw [show e - i = (e - (i + 1)) + 1 from by omega]
    unfold kidCount
    rw [this]
    by_cases h : i < j ∧ j < e
    · rw [if_pos h, if_pos (by omega)]
    · rw [if_neg h, if_neg (by omega)]
theorem kids_after {ks : List (List Int)} (hr : ∀ i, i < ks.length → ∀ k ∈ ks.getD i [], ∃ a : Nat, k = (a : Int) ∧ i < a) (j : Nat) : ∀ (c i : Nat), j ≤ i → kidCount ks j c i = 0 := by
  intro c
  induction c with
  | zero => intro i _; rfl
  | succ c ih =>
    intro i hi
    unfold kidCount
    rw [ih (i + 1) (by omega), Nat.add_zero]
    rw [List.count_eq_zero]
    intro hm
    by_cases h : i < ks.length
    · obtain ⟨a, h1, h2⟩ := hr i h _ hm
      omega
    · rw [List.getD_eq_getElem?_getD, List.getElem?_eq_none (by omega)] at hm
      cases hm
theorem kid_one {ks : List (List Int)} {Z : List Nat} (h : endsN ks = some Z) (i : Nat) (h0 : 0 < i) (hi : i < ks.length) : kidCount ks i (i + 1) 0 = 1 := by
  obtain ⟨_, _, he, hz⟩ := ends_some h
  have h1 := kids_once (ks := ks) i ks.length 0 ks.length (by omega) he
  rw [Nat.sub_zero, if_pos ⟨h0, hi⟩] at h1
  have h2 := kidCount_add ks i (i + 1) (ks.length - (i + 1)) 0
  rw [show i + 1 + (ks.length - (i + 1)) = ks.length from by omega, h1, Nat.zero_add, kids_after (fun a ha k hk => by
    obtain ⟨b, h3, h4, _⟩ := kids_range (hz a ha) k hk
    exact ⟨b, h3, h4⟩) i (ks.length - (i + 1)) (i + 1) (by omega)] at h2
  omega
end Go.Proofs.Ythofccoefiogiaa
