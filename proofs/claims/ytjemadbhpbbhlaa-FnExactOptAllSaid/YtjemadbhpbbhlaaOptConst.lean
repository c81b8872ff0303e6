/-
  A block with its constants folded: both sides.
-/
import Derived.Test.YtjemadbhpbbhlaaConstI
import Derived.Test.YtjemadbhpbbhlaaConstS
namespace Go.Proofs.Ytjemadbhpbbhlaa
open Go.RowKit

set_option linter.unusedVariables false
set_option linter.unusedSimpArgs false
set_option maxRecDepth 100000

theorem optConst_both : True := trivial

end Go.Proofs.Ytjemadbhpbbhlaa
