/- interlockref08.Same, walked, of any two rows of instructions. Condition: they lie in memory. -/
import Derived.Test.YtngbpaiohfokbaaCrHA
import Derived.Test.YtngbpaiohfokbaaCrHB
import Derived.Test.YtngbpaiohfokbaaCrHC
namespace Go.Proofs.Ytngbpaiohfokbaa
open Go Go.RowKit
set_option linter.unusedVariables false
set_option linter.unusedSimpArgs false
theorem rsame_any (A B : Option Addr) (l m : List FullI) (n n2 c d : Nat) (w : World) (hn : n = l.length) (hm : n2 = m.length) (hlen : l.length ≤ 1000) (hA : Row w A l) (hB : Row w B m) (hf : ∀ f ∈ l, f.fits) :
    Calls Try.prog 12 #[.slice A n c, .slice B n2 d] w fun e w' => e = .returned (.bool (sameR l m)) ∧ Ext w w' := rsame_anyX.2.2.2.2.2.2.2.2.2.2.2 ⟨rsame_anyP1⟩ ⟨rsame_anyP2⟩ ⟨rsame_anyP3⟩ ⟨rsame_anyP4⟩ ⟨rsame_anyP5⟩ ⟨rsame_anyP6⟩ ⟨rsame_anyP7⟩ ⟨rsame_anyP8⟩ ⟨rsame_anyP9⟩ ⟨rsame_anyP10⟩ ⟨rsame_anyP11⟩ A B l m n n2 c d w hn hm hlen hA hB hf
end Go.Proofs.Ytngbpaiohfokbaa
