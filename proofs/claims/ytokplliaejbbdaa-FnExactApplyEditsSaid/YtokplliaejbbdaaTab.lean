/-
  What is known of the package-level variables when a call begins: here nothing is wanted.
-/
import Derived.Test.YtokplliaejbbdaaAt
namespace Go.Proofs.Ytokplliaejbbdaa
open Go.RowKit
set_option linter.unusedSimpArgs false
set_option linter.unusedVariables false
def TabP (w : World) : Prop := True
theorem tab_stay {w w' : World} (h : TabP w) (hb : Below w.heap.size w w') : TabP w' := trivial
end Go.Proofs.Ytokplliaejbbdaa
