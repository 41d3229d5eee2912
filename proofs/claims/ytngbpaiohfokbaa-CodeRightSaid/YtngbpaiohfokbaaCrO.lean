/- code.Same, walked. -/
import Derived.Test.YtngbpaiohfokbaaCrN
import Derived.Test.YtngbpaiohfokbaaCrJ
namespace Go.Proofs.Ytngbpaiohfokbaa
open Go Go.RowKit
set_option linter.unusedVariables false
set_option linter.unusedSimpArgs false
set_option maxRecDepth 100000 in
set_option maxHeartbeats 8000000 in
theorem sameI_any (w : World) (A B : Option Addr) (l m : List FullI) (c d : Nat) (hlen : l.length ≤ 900) (hA : Row w A l) (hB : Row w B m) (hf : ∀ f ∈ l, f.few8) (b : Bool) (hb : Hid (all2 sameP l m = b)) :
    Calls Try.prog 19 #[.slice A l.length c, .slice B m.length d] w fun e w' => e = .returned (.bool b) ∧ Ext w w' := by
  have HA := Lib.hid hA
  have HB := Lib.hid hB
  have HF := Lib.hid hf
  clear hA hB hf
  go_enter Try.func19, Try.ntmps19
  go_wp2_with (refine wpList_setJ rfl _ _ _ rfl w.heap.size 0 rfl (.func (.func 36) #[] #[]) rfl _ _ (Blk.new _ _ _) (Nat.zero_lt_succ _) rfl rfl (fun w => by kernel_rfl) ?_)
  intro w1 ht hb1
  have HX1 : Hid (Ext w w1) := Lib.hid (ht.ext (Ext.alloc w _) (Nat.le_refl _))
  have HB1 := Lib.hid hb1
  clear ht hb1
  have hz : w1.cell? ⟨w.heap.size, 0, none⟩ = some (.func (.func 36) #[] #[]) := HB1.out.cell 0
  have HZ := Lib.hid hz
  have HZL := Lib.hid HB1.out.lt
  clear hz HB1
  generalize w.heap.size = gc at *
  go_wp2_with fail
  refine (eqI_any w1 gc A B l m c d hlen (HA.out.ext HX1.out) (HB.out.ext HX1.out) HF.out HZL.out HZ.out b hb).mono ?_
  rintro e w2 ⟨rfl, hx2⟩
  have HX2 := Lib.hid (HX1.out.trans hx2)
  clear hx2
  go_wp2_with fail
  go_ret
  exact ⟨rfl, HX2.out⟩
end Go.Proofs.Ytngbpaiohfokbaa
