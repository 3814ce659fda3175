/-
  The helpers of the laws: measure, copy, compare.
-/
import Derived.Test.YtpgpkomolheinaaSM
set_option linter.unusedVariables false
set_option linter.unusedSimpArgs false
namespace Go.Proofs.Ytpgpkomolheinaa
open Go.Vx

end Go.Proofs.Ytpgpkomolheinaa

