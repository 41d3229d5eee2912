/- Chapter 01, modes: walks of the program and of its reference, function by function: what each call returns, for every input of its kind and in whatever memory; what was in memory stays. -/
import Derived.Test.YtinakfhijcmodaaT2
import Derived.Test.YtinakfhijcmodaaFacts
import Derived.WalkSpells
namespace Go.Proofs.Ytinakfhijcmodaa
open Go.RowKit
set_option linter.unusedVariables false
set_option linter.unusedSimpArgs false
theorem ofM_bd (m : Int) (h0 : 0 ≤ m) (h1 : m < 256) : 0 ≤ ofM m ∧ ofM m < 6 := by unfold ofM; split <;> omega
theorem six {x : Int} (h : 0 ≤ x ∧ x < 6) : x = 0 ∨ x = 1 ∨ x = 2 ∨ x = 3 ∨ x = 4 ∨ x = 5 := by omega
theorem of_at (m x : Int) (w : World) (h0 : 0 ≤ m) (h1 : m < 256) (h : Hid (ofM m = x)) :
    Calls Try.prog 33 #[.int .u8 m] w fun e w' => e = .returned (.int .u8 x) ∧ w = w' := by
  rw [← h.out]; exact of_any m w h0 h1
def besideT (x y : Int) : Bool := x == 0 || y == 0 || (x == 1 && y != 5) || (y == 1 && x != 5) || (x == 2 && y == 2) || (x == 3 && y == 3)
def besideS (x : Int) : ByteArray := ⟨#[121, if x == 5 then 110 else 121, if x == 0 || x == 1 || x == 2 then 121 else 110, if x == 0 || x == 1 || x == 3 then 121 else 110, if x == 0 || x == 1 then 121 else 110, if x == 0 then 121 else 110]⟩
def besideV (x y : Int) : Int := if besideT x y then 121 else 110
theorem besideV_eq (x y : Int) : (besideV x y == 121) = besideT x y := by unfold besideV; cases besideT x y <;> rfl
theorem idx_run (x y : Int) (hx : 0 ≤ x ∧ x < 6) (hy : 0 ≤ y ∧ y < 6) (w : World) : (Instr.index 9 (.string (besideS x)) (.int .u8 y)).run Try.prog w = .ok (.int .u8 (besideV x y)) w := by
  rcases six hx with rfl | rfl | rfl | rfl | rfl | rfl <;> rcases six hy with rfl | rfl | rfl | rfl | rfl | rfl
  all_goals kernel_rfl
theorem load_run (x : Int) (hx : 0 ≤ x ∧ x < 6) (w : World) (g : Nat) (hg : Blk w g 9 #[Value.string { data := #[121, 121, 121, 121, 121, 121] }, Value.string { data := #[121, 121, 121, 121, 121, 110] }, Value.string { data := #[121, 121, 121, 110, 110, 110] }, Value.string { data := #[121, 121, 110, 121, 110, 110] }, Value.string { data := #[121, 121, 110, 110, 110, 110] }, Value.string { data := #[121, 110, 110, 110, 110, 110] }]) :
    w.cell? ⟨g, x.toNat, none⟩ = some (.string (besideS x)) := by
  rw [hg.cell]
  rcases six hx with rfl | rfl | rfl | rfl | rfl | rfl <;> rfl
set_option maxHeartbeats 400000 in
theorem refbeside_at (a b : Int) (w : World) (h0 : 0 ≤ a) (h1 : a < 256) (h2 : 0 ≤ b) (h3 : b < 256) (x y : Int) (hx : 0 ≤ x ∧ x < 6) (hy : 0 ≤ y ∧ y < 6) (ha : Hid (ofM a = x)) (hb : Hid (ofM b = y)) :
    Calls Try.prog 21 #[.int .u8 a, .int .u8 b] w fun e w' => e = .returned (.bool (besideT x y)) ∧ Below w.heap.size w w' := by
  go_enter Try.func21, Try.ntmps21
  go_wp2_with fail
  apply wp_region_ext (by kernel_rfl) (by kernel_rfl)
  apply step_fact (IsLit 9 _) IsLit.ext rfl rfl rfl
  · intro w' hw' hH
    simp [YieldsF, go_sem]
    exact ⟨⟨_, rfl, Blk.new _ _ _⟩, Ext.alloc _ _⟩
  intro v5
  apply step_move (R := Ext) Ext.refl rfl rfl (.inl rfl)
  · simp [Act.eval, Act.put]; rfl
  apply step_det (.int .u8 x) rfl rfl rfl
  · intro w' hw' hH
    simp [YieldsF, go_sem]
    refine (of_at a _ _ h0 h1 ha).mono ?_
    rintro e w' ⟨rfl, rfl⟩
    exact ⟨_, rfl, rfl, Ext.refl _⟩
  apply step_fact (IsPlace 9 _ x.toNat) IsPlace.ext rfl rfl rfl
  · intro w' hw' hH
    obtain ⟨g, rfl, hg⟩ := hH _ (.head _) ⟨5, rfl, by decide⟩
    simp [YieldsF, go_sem, hx]
    exact ⟨⟨_, rfl, hg⟩, Ext.refl _⟩
  intro v8
  apply step_det (.string (besideS x)) rfl rfl rfl
  · intro w' hw' hH
    obtain ⟨g, rfl, hg⟩ := hH _ (.head _) ⟨8, rfl, by decide⟩
    simp [YieldsF, go_sem, load_run x hx w' g hg]
    exact Ext.refl _
  apply step_move (R := Ext) Ext.refl rfl rfl (.inl rfl)
  · simp [Act.eval, Act.put]; rfl
  apply step_det (.int .u8 y) rfl rfl rfl
  · intro w' hw' hH
    simp [YieldsF, go_sem]
    refine (of_at b _ _ h2 h3 hb).mono ?_
    rintro e w' ⟨rfl, rfl⟩
    exact ⟨_, rfl, rfl, Ext.refl _⟩
  apply step_det (.int .u8 (besideV x y)) rfl rfl rfl
  · intro w' hw' hH
    simp [YieldsF, go_sem, ↓idx_run x y hx hy]
    exact Ext.refl _
  apply step_det (.bool (besideT x y)) rfl rfl rfl
  · intro w' hw' hH
    simp [YieldsF, go_sem, besideV_eq]
    exact Ext.refl _
  apply step_move (R := Ext) Ext.refl rfl rfl (.inr rfl)
  · simp [Act.eval, Act.put]; rfl
  apply WalkF_nil
  intro w' hw' hH
  simp [Act.put]
  have hw2 : Below w.heap.size w w' := hw'
  clear hw' hH
  go_wp2
  go_ret
  exact ⟨rfl, hw2⟩
end Go.Proofs.Ytinakfhijcmodaa
