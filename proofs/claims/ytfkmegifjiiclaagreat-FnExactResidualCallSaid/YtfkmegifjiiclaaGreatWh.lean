/- The text of a mark. -/
import Derived.Test.YtfkmegifjiiclaaGreatVw
set_option linter.unusedVariables false
set_option linter.unusedSimpArgs false
namespace Go.Proofs.YtfkmegifjiiclaaGreat
open Go Go.Proofs Go.Proofs.Tryz Go.IntWalk

/-! marks -/
end Go.Proofs.YtfkmegifjiiclaaGreat

/- The laws' marks on terms, told exactly. -/
set_option linter.unusedVariables false
set_option linter.unusedSimpArgs false
namespace Go.Proofs.YtfkmegifjiiclaaGreat
open Go Go.Proofs Go.Proofs.Tryz Go.IntWalk

set_option maxHeartbeats 4000000
set_option maxRecDepth 100000
end Go.Proofs.YtfkmegifjiiclaaGreat
