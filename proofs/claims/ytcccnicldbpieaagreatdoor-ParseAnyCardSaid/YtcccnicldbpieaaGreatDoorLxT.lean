/- What asks the tape alone, and reads and lays whole objects, leaves the tape's text as it was: of a map's iterator. No condition. -/
import Derived.Test.YtcccnicldbpieaaGreatDoorMap
import Derived.Laws.IdiomRangeMap
namespace Go.Proofs.YtcccnicldbpieaaGreatDoor
open Go Go.RowKit
set_option linter.unusedVariables false
set_option linter.unusedSimpArgs false
def Tame {α : Type} : Sem α → Prop
  | .pure _ => True
  | .getObj _ k => ∀ o, Tame (k o)
  | .setObj _ _ k => Tame k
  | .choose _ k => ∀ n, Tame (k n)
  | .halt _ => True
  | _ => False
theorem tame_tape {α : Type} {P : Program} : ∀ (s : Sem α), Tame s → ∀ (w : World) (v : α) (w' : World), s.run P w = .ok v w' → w'.tape = w.tape
  | .pure a, _, w, v, w', h => by
    simp only [Sem.run] at h
    injection h with _ h
    rw [h]
  | .getObj r k, ht, w, v, w', h => by
    simp only [Sem.run] at h
    split at h
    · cases h
    · have hh := tame_tape (k _) (ht _) _ _ _ h
      exact hh
    · cases h
  | .setObj r o k, ht, w, v, w', h => by
    simp only [Sem.run] at h
    split at h
    · cases h
    · have hh := tame_tape k ht _ _ _ h
      exact hh
    · cases h
  | .choose q k, ht, w, v, w', h => by
    simp only [Sem.run] at h
    split at h
    · have hh := tame_tape (k _) (ht _) _ _ _ h
      exact hh
    · have hh := tame_tape (k _) (ht _) _ _ _ h
      exact hh
  | .halt x, _, w, v, w', h => by simp [Sem.run] at h
  | .load .., ht, _, _, _, _ => ht.elim
  | .store .., ht, _, _, _, _ => ht.elim
  | .new .., ht, _, _, _, _ => ht.elim
  | .shape .., ht, _, _, _, _ => ht.elim
  | .freeze .., ht, _, _, _, _ => ht.elim
  | .frozen .., ht, _, _, _, _ => ht.elim
  | .sys .., ht, _, _, _, _ => ht.elim
  | .program .., ht, _, _, _, _ => ht.elim
  | .mark .., ht, _, _, _, _ => ht.elim
theorem tame_bind {α β : Type} : ∀ (s : Sem α) (f : α → Sem β), Tame s → (∀ a, Tame (f a)) → Tame (s >>= f)
  | .pure a, f, _, hf => hf a
  | .getObj r k, f, hs, hf => fun o => tame_bind (k o) f (hs o) hf
  | .setObj r o k, f, hs, hf => tame_bind k f hs hf
  | .choose q k, f, hs, hf => fun n => tame_bind (k n) f (hs n) hf
  | .halt x, f, _, _ => trivial
  | .load .., _, hs, _ => hs.elim
  | .store .., _, hs, _ => hs.elim
  | .new .., _, hs, _ => hs.elim
  | .shape .., _, hs, _ => hs.elim
  | .freeze .., _, hs, _ => hs.elim
  | .frozen .., _, hs, _ => hs.elim
  | .sys .., _, hs, _ => hs.elim
  | .program .., _, hs, _ => hs.elim
  | .mark .., _, hs, _ => hs.elim
theorem tame_next (r : Nat) (ty : TypeId) : Tame (Instr.next (.pointer (some ⟨r, 0, none⟩)) false ty) := by
  unfold Instr.next
  refine tame_bind _ _ (fun _ => trivial) fun o => ?_
  split
  · rename_i h; cases h
  · exact trivial
  · refine tame_bind _ _ (fun _ => trivial) fun o => ?_
    split
    · split
      · exact trivial
      · refine tame_bind _ _ (fun _ => trivial) fun n => ?_
        split
        · exact tame_bind _ _ trivial fun _ => trivial
        · exact trivial
        · exact trivial
    · exact trivial
  · exact trivial
theorem next_tape {P : Program} {r : Nat} {ty : TypeId} {w w' : World} {v : Value} (h : (Instr.next (.pointer (some ⟨r, 0, none⟩)) false ty).run P w = .ok v w') : w'.tape = w.tape := tame_tape _ (tame_next r ty) _ _ _ h
end Go.Proofs.YtcccnicldbpieaaGreatDoor
