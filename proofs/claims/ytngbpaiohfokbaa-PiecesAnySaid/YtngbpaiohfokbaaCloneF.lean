/- slices.Clone of rows of terms, and of rows of such rows; pieces.own: the same cells in memory of the call's own. Condition: they fit into memory. -/
import Derived.Test.YtngbpaiohfokbaaFull
namespace Go.Proofs.Ytngbpaiohfokbaa
open Go Go.RowKit
set_option linter.unusedVariables false
set_option linter.unusedSimpArgs false
theorem infoTerm : (Try.prog.info? 71).map (fun i => (i.zero, i.size, i.bytes)) = some (some (.agg #[.int .u8 0, .int .i64 0, .int .i64 0]), 3, 24) := by kernel_rfl
theorem infoTerms : (Try.prog.info? 46).map (fun i => (i.zero, i.size, i.bytes)) = some (some (.slice none 0 0), 1, 24) := by kernel_rfl
theorem tcells_one (ts : List TermD) : ∀ u ∈ tcells ts, u.oneCell' = true := by
  intro u hu
  unfold tcells at hu
  obtain ⟨t, _, h⟩ := List.mem_flatMap.1 hu
  simp only [List.mem_cons, List.not_mem_nil, or_false] at h
  rcases h with rfl | rfl | rfl <;> rfl
theorem pcells_one (ps : List (HeadD × List TermD)) : ∀ u ∈ pcells ps, u.oneCell' = true := by
  intro u hu
  unfold pcells at hu
  obtain ⟨p, _, rfl⟩ := List.mem_map.1 hu
  rfl
theorem clone1_any (A : Option Addr) (ts : List TermD) (n c : Nat) (w : World) (hn : n = ts.length) (hbig : ts.length * 24 ≤ 140737488355000) (hz : A = none → c = 0) (hc : Cells w A (tcells ts)) :
    Calls Try.prog 45 #[.slice A n c] w fun e w' => ∃ v, e = .returned v ∧ OwnT w.heap.size 71 ts v w' ∧ Ext w w' := by
  subst hn
  cases A with
  | none =>
    have h0 := hz rfl
    subst h0
    have ht : ts = [] := by
      rcases hc with hc | ⟨b, off, h, _⟩
      · cases ts with
        | nil => rfl
        | cons t ts => simp [tcells] at hc
      · cases h
    subst ht
    refine (clone1_nil w).mono ?_
    rintro e w' ⟨rfl, rfl⟩
    exact ⟨_, rfl, World.ownsRow_nil _ _ _ _, Ext.refl _⟩
  | some a =>
    obtain ⟨i0, hi, hz0, hz1, hz2⟩ := info_parts infoTerm
    have q := fun w : World => Lib.run_eql_slice_nil (P := Try.prog) w 46 _ (some a) ts.length c 0 0 Try.underlying46
    have HC := Lib.hid hc
    have hl : (tcells ts).length = ts.length * 3 := tcells_len ts
    have HL := Lib.hid hl
    clear hc hl hz
    go_enter Try.func45, Try.ntmps45
    go_wp2_with (at_builtin; refine wpList_grow rfl (.tmp 5) (.tmp 6) 46 rfl w.heap.size 71 i0 _ 3 24 Try.underlying46 hi hz0 hz1 hz2 rfl (by decide) (.slice (some ⟨w.heap.size, 0, none⟩) 0 0) 0 [] rfl ⟨rfl, .inr ⟨w.heap.size, 0, #[], rfl, Nat.le_refl _, Blk.new w _ _, Nat.le_refl _, by decide, rfl, rfl⟩⟩ (some a) ts.length c (tcells ts) rfl (fun h => by cases h) HL.out (HC.out.ext (Ext.alloc _ _)) (tcells_one ts) (by unfold maxLen; omega) (by omega) (by simp) ?_; intro A' c' w1 h0 ho hg)
    have hX : Ext w w1 := Below.grown ((Below.refl _ w).alloc (Nat.le_refl _) _) hg (by simp) (fun j ej => by simp [Value.ownBlock] at ej; omega)
    rw [List.nil_append, Nat.zero_add] at ho
    have HO := Lib.hid ho
    have HX := Lib.hid hX
    clear ho hX hg h0
    go_wp2
    go_ret
    exact ⟨_, rfl, HO.out, HX.out⟩
theorem own_any (A : Option Addr) (ts : List TermD) (n c : Nat) (w : World) (hn : n = ts.length) (hbig : ts.length * 24 ≤ 140737488355000) (hz : A = none → c = 0) (hc : Cells w A (tcells ts)) :
    Calls Try.prog 27 #[.slice A n c] w fun e w' => ∃ v, e = .returned v ∧ OwnT w.heap.size 71 ts v w' ∧ Ext w w' := by
  subst hn
  go_enter Try.func27, Try.ntmps27
  go_wp2_with fail
  refine (clone1_any A ts _ c w rfl hbig hz hc).mono ?_
  rintro e w1 ⟨v, rfl, h1, h2⟩
  have H1 := Lib.hid h1
  have H2 := Lib.hid h2
  clear h1 h2
  go_wp2
  go_ret
  exact ⟨_, rfl, H1.out, H2.out⟩
theorem clone2_any (A : Option Addr) (ps : List (HeadD × List TermD)) (n c : Nat) (w : World) (hn : n = ps.length) (hbig : ps.length * 24 ≤ 140737488355000) (hz : A = none → c = 0) (hc : Cells w A (pcells ps)) :
    Calls Try.prog 28 #[.slice A n c] w fun e w' => ∃ v, e = .returned v ∧ w'.ownsRow w.heap.size 46 1 v ps.length (pcells ps) ∧ Ext w w' := by
  subst hn
  cases A with
  | none =>
    have h0 := hz rfl
    subst h0
    have ht : ps = [] := by
      rcases hc with hc | ⟨b, off, h, _⟩
      · cases ps with
        | nil => rfl
        | cons t ts => simp [pcells] at hc
      · cases h
    subst ht
    refine (clone2_nil w).mono ?_
    rintro e w' ⟨rfl, rfl⟩
    exact ⟨_, rfl, World.ownsRow_nil _ _ _ _, Ext.refl _⟩
  | some a =>
    obtain ⟨i0, hi, hz0, hz1, hz2⟩ := info_parts infoTerms
    have q := fun w : World => Lib.run_eql_slice_nil (P := Try.prog) w 47 _ (some a) ps.length c 0 0 Try.underlying47
    have HC := Lib.hid hc
    have hl : (pcells ps).length = ps.length * 1 := by rw [pcells_len]; omega
    have HL := Lib.hid hl
    clear hc hl hz
    go_enter Try.func28, Try.ntmps28
    go_wp2_with (at_builtin; refine wpList_grow rfl (.tmp 5) (.tmp 6) 47 rfl w.heap.size 46 i0 _ 1 24 Try.underlying47 hi hz0 hz1 hz2 rfl (by decide) (.slice (some ⟨w.heap.size, 0, none⟩) 0 0) 0 [] rfl ⟨rfl, .inr ⟨w.heap.size, 0, #[], rfl, Nat.le_refl _, Blk.new w _ _, Nat.le_refl _, by decide, rfl, rfl⟩⟩ (some a) ps.length c (pcells ps) rfl (fun h => by cases h) HL.out (HC.out.ext (Ext.alloc _ _)) (pcells_one ps) (by unfold maxLen; omega) (by omega) (by simp) ?_; intro A' c' w1 h0 ho hg)
    have hX : Ext w w1 := Below.grown ((Below.refl _ w).alloc (Nat.le_refl _) _) hg (by simp) (fun j ej => by simp [Value.ownBlock] at ej; omega)
    rw [List.nil_append, Nat.zero_add] at ho
    have HO := Lib.hid ho
    have HX := Lib.hid hX
    clear ho hX hg h0
    go_wp2
    go_ret
    exact ⟨_, rfl, HO.out, HX.out⟩
end Go.Proofs.Ytngbpaiohfokbaa
