/-
  A block without what is set in vain: both.
-/
import Derived.Test.YtjemadbhpbbhlaaOptSetsI
import Derived.Test.YtjemadbhpbbhlaaOptSetsS
namespace Go.Proofs.Ytjemadbhpbbhlaa
open Go.RowKit

set_option linter.unusedVariables false
set_option linter.unusedSimpArgs false
set_option maxRecDepth 100000

theorem optSets_both : True := trivial

end Go.Proofs.Ytjemadbhpbbhlaa
