/-
  Layer 14: the reference's Convert; layer 10: primitive kinds.
-/
import Derived.Test.YtbdjbmbghfbenaaQ14d

namespace Go.Proofs.Ytbdjbmbghfbenaa
open Go Go.Tp
set_option linter.unusedVariables false
set_option linter.unusedSimpArgs false
set_option maxRecDepth 100000
set_option maxHeartbeats 4000000
end Go.Proofs.Ytbdjbmbghfbenaa
