/- code.Eval: what a reckoning tells, walked: for every row of terms and every row of variables, in whatever memory; what was in memory stays. -/
import Derived.Test.YtngbpaiohfokbaaBase
namespace Go.Proofs.Ytngbpaiohfokbaa
open Go Go.RowKit
set_option linter.unusedVariables false
set_option linter.unusedSimpArgs false
theorem infoI64 : (Try.prog.info? 2).map (fun i => (i.zero, i.size, i.bytes)) = some (some (.int .i64 0), 1, 8) := by kernel_rfl
def takesN (k : Int) : Int := if k = 3 ∨ k = 4 ∨ k = 5 then 2 else if k = 6 then 1 else 0
theorem takes_any (k : Int) (w : World) (h0 : 0 ≤ k) (h1 : k < 256) :
    Calls Try.prog 46 #[.int .u8 k] w fun e w' => e = .returned (.int .i64 (takesN k)) ∧ w = w' := by
  by_cases h3 : k = 3
  · subst h3
    go_enter Try.func46, Try.ntmps46
    go_wp2
    go_ret
    exact ⟨rfl, rfl⟩
  by_cases h4 : k = 4
  · subst h4
    go_enter Try.func46, Try.ntmps46
    go_wp2
    go_ret
    exact ⟨rfl, rfl⟩
  by_cases h5 : k = 5
  · subst h5
    go_enter Try.func46, Try.ntmps46
    go_wp2
    go_ret
    exact ⟨rfl, rfl⟩
  by_cases h6 : k = 6
  · subst h6
    go_enter Try.func46, Try.ntmps46
    go_wp2
    go_ret
    exact ⟨rfl, rfl⟩
  · go_enter Try.func46, Try.ntmps46
    go_wp2
    go_ret
    exact ⟨ret_int (by unfold takesN; rw [if_neg (by omega), if_neg h6]), rfl⟩
/-- A pile: block g holds a slice over a row of the call's own, these numbers, the last uppermost. -/
def Pile (w : World) (B g : Nat) (xs : List Int) : Prop :=
  ∃ A c, Blk w g 87 #[.slice A xs.length c] ∧ (A = none → c = 0) ∧ w.ownsRow B 2 1 (.slice A xs.length c) xs.length (xs.map (Value.int .i64)) ∧ B ≤ g
theorem Pile.ext {w w' : World} {B g : Nat} {xs : List Int} (h : Pile w B g xs) (hx : Ext w w') : Pile w' B g xs := by
  obtain ⟨A, c, hb, hA, ho, hg⟩ := h
  exact ⟨A, c, hb.ext hx, hA, own_ext ho hx, hg⟩
theorem pop_any (w : World) (B g : Nat) (xs : List Int) (x : Int) (h : Pile w B g (xs ++ [x])) (hl : xs.length < 1000) :
    Calls Try.prog 47 #[.pointer (some ⟨g, 0, none⟩)] w fun e w' => e = .returned (.int .i64 x) ∧ Pile w' B g xs ∧ Below B w w' ∧ (∀ k, k ≠ g → w'.heap[k]? = w.heap[k]?) ∧ w'.heap.size = w.heap.size := by
  obtain ⟨A, c, hb, hA, ho, hg⟩ := h
  rw [List.map_append, List.map_singleton] at ho
  simp only [List.length_append, List.length_singleton] at ho hb
  obtain ⟨b, rfl, hbl, hc, hx, ho'⟩ := own_less ho
  have hcell : w.cell? ⟨g, 0, none⟩ = some (.slice (some ⟨b, 0, none⟩) (xs.length + 1) c) := hb.cell 0
  have hfz := hb.frozen 0
  have hne : (Value.slice (some ⟨b, 0, none⟩) xs.length c).ownBlock ≠ some g := own_differ ho' hb (by decide)
  have fin : Pile (w.setCell ⟨g, 0, none⟩ (.slice (some ⟨b, 0, none⟩) xs.length c)) B g xs := ⟨_, c, hb.put 0 _, (fun h => by cases h), own_far ho' (p := ⟨g, 0, none⟩) hne _, hg⟩
  have HF := Lib.hid fin
  have HB : Hid (Below B w (w.setCell ⟨g, 0, none⟩ (.slice (some ⟨b, 0, none⟩) xs.length c))) := (Below.refl B w).setCell (p := ⟨g, 0, none⟩) hg _
  have HK : Hid ((∀ k, k ≠ g → (w.setCell ⟨g, 0, none⟩ (.slice (some ⟨b, 0, none⟩) xs.length c)).heap[k]? = w.heap[k]?) ∧ (w.setCell ⟨g, 0, none⟩ (.slice (some ⟨b, 0, none⟩) xs.length c)).heap.size = w.heap.size) :=
    ⟨fun k hk => Below.heap_setCell w ⟨g, 0, none⟩ _ k hk, by simp⟩
  clear fin hne ho ho' hb hA
  go_enter Try.func47, Try.ntmps47
  go_wp2_with fail
  go_ret
  exact ⟨rfl, HF.out, HB.out, HK.out.1, HK.out.2⟩
set_option maxHeartbeats 400000 in
theorem push_any (w : World) (B g : Nat) (xs : List Int) (x : Int) (h : Pile w B g xs) (hl : xs.length < 1000) (hB : B ≤ w.heap.size) :
    Calls Try.prog 48 #[.pointer (some ⟨g, 0, none⟩), .int .i64 x] w fun e w' => e = .returned (.tuple #[]) ∧ Pile w' B g (xs ++ [x]) ∧ Below B w w' := by
  obtain ⟨i0, hi, hz0, hz1, hz2⟩ := info_parts infoI64
  obtain ⟨A, c, hb, hA, ho, hg⟩ := h
  have hcell : w.cell? ⟨g, 0, none⟩ = some (.slice A xs.length c) := hb.cell 0
  have HBK := Lib.hid (hb.alloc (.cells #[.int .i64 x] 2))
  have HLT := Lib.hid ho.lt
  have hne := Lib.hid (own_differ ho hb (by decide))
  clear hb hA
  go_enter Try.func48, Try.ntmps48
  go_wp2_with (at_builtin; refine wpList_grow rfl _ _ 87 rfl B 2 i0 (.int .i64 0) 1 8 Try.underlying87 hi hz0 hz1 hz2 rfl (by decide) _ _ _ rfl (ho.alloc _) _ 1 1 [.int .i64 x] rfl (by simp) rfl ?c1 ?c2 ?c3 ?c4 ?c5 ?_)
  case c1 => exact Cells.new w 2 #[.int .i64 x]
  case c2 => intro u hu; simp at hu; subst hu; rfl
  case c3 => unfold maxLen; omega
  case c4 => omega
  case c5 => simp; omega
  intro A' c' w1 hA' hown' hgrow
  have hb1 := HBK.out.grown hgrow (Ne.symm hne.out)
  have hcell1 : w1.cell? ⟨g, 0, none⟩ = some (.slice A xs.length c) := hb1.cell 0
  have hfz1 := hb1.frozen 0
  have hne' := own_differ hown' hb1 (by decide)
  have HF : Hid (Pile (w1.setCell ⟨g, 0, none⟩ (.slice A' (xs.length + 1) c')) B g (xs ++ [x])) := by
    refine ⟨A', c', ?_, hA', ?_, hg⟩
    · have := hb1.put 0 (.slice A' (xs.length + 1) c')
      simpa using this
    · have := own_far hown' (p := ⟨g, 0, none⟩) hne' (.slice A' (xs.length + 1) c')
      simpa using this
  have HB : Hid (Below B w (w1.setCell ⟨g, 0, none⟩ (.slice A' (xs.length + 1) c'))) :=
    Below.setCell (Below.grown ((Below.refl B w).alloc hB _) hgrow (by simp; omega) (fun k hk => (HLT.out k hk).1)) (p := ⟨g, 0, none⟩) hg _
  clear hb1 hne' hown' hgrow hA' ho
  go_wp2_with fail
  go_end0
  exact ⟨rfl, HF.out, HB.out⟩
end Go.Proofs.Ytngbpaiohfokbaa
