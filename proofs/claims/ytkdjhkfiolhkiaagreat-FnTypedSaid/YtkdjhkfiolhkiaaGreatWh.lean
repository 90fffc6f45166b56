/- The text of a mark. -/
import Derived.Test.YtkdjhkfiolhkiaaGreatVv
set_option linter.unusedVariables false
set_option linter.unusedSimpArgs false
namespace Go.Proofs.YtkdjhkfiolhkiaaGreat
open Go Go.Proofs Go.Proofs.Tryz Go.IntWalk
set_option maxHeartbeats 4000000
set_option maxRecDepth 100000
end Go.Proofs.YtkdjhkfiolhkiaaGreat
