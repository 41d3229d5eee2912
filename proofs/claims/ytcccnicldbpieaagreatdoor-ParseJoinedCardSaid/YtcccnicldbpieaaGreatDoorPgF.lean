/- How many nodes a source gives. No condition. -/
import Derived.Test.YtcccnicldbpieaaGreatDoorPgE
import Derived.Test.YtcccnicldbpieaaGreatDoorPsW
namespace Go.Proofs.YtcccnicldbpieaaGreatDoor
set_option linter.unusedVariables false
set_option linter.unusedSimpArgs false
theorem fine_whole : ∀ f, Fine (wholeL f)
  | 0 => fun s _ => by unfold wholeL; trivial
  | f + 1 => fun s h => by
    unfold wholeL
    split
    · exact Later.refl h
    · split
      · exact (fine_table 0 s h).bind fun _ t _ ht => fine_whole f t ht
      · split
        · exact (fine_proc 0 s h).bind fun _ t _ ht => fine_whole f t ht
        · trivial
theorem nodes_few {l : Bs} {y : List Nd} (h : parseS l = .ok y) : y.length ≤ 2 * l.length + 3 ∧ ∀ n ∈ y, n.kids.length ≤ 2 * l.length + 3 := by
  obtain ⟨ts, h1, h2, _⟩ := parseS_ok h
  obtain ⟨_, hlen, _⟩ := lexL_toks h1
  have hw := fine_whole (ts.length + 1) _ (root_good (lexL_ends h1))
  rw [parseT_eq] at h2
  cases hq : wholeL (ts.length + 1) ⟨ts, [rootN ts], 0⟩ with
  | err e p => rw [hq] at h2; cases h2
  | ok a s =>
    rw [hq] at h2 hw
    injection h2 with h2
    subst h2
    have hp := hw.phi
    unfold Ps.phi at hp
    simp only [List.length_cons, List.length_nil] at hp
    exact ⟨by omega, fun n hn => by have := hw.good.few n hn; omega⟩
end Go.Proofs.YtcccnicldbpieaaGreatDoor
