/-
  The document's package 2: a number put behind bytes (contract).
-/
import Derived.Test.YtfdddipmeadecaaOct
set_option linter.unusedVariables false
set_option linter.unusedSimpArgs false
namespace Go.Proofs.Ytfdddipmeadecaa
open Go.RowKit

end Go.Proofs.Ytfdddipmeadecaa
