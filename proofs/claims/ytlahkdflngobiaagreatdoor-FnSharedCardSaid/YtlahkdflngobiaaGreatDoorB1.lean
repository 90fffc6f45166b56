/- The text of a mark. -/
import Derived.Test.YtlahkdflngobiaaGreatDoorA4
set_option linter.unusedVariables false
set_option linter.unusedSimpArgs false
namespace Go.Proofs.YtlahkdflngobiaaGreatDoor
open Go Go.Proofs Go.Proofs.Tryz Go.IntWalk
set_option maxHeartbeats 4000000
set_option maxRecDepth 100000
end Go.Proofs.YtlahkdflngobiaaGreatDoor
