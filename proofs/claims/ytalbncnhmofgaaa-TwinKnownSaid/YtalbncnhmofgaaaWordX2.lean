/-
  (Nothing of its own: it names the text ahead of it.) Conditions: none.
-/
import Derived.Test.YtalbncnhmofgaaaWordX
namespace Go.Proofs.Ytalbncnhmofgaaa
open Go.RowKit

end Go.Proofs.Ytalbncnhmofgaaa
