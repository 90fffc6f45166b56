/- Equal terms. -/
import Derived.Test.YtmfjakahanbnlaaGreatDoorA5
import Derived.Test.YtmfjakahanbnlaaGreatDoorKu
set_option linter.unusedVariables false
set_option linter.unusedSimpArgs false
namespace Go.Proofs.YtmfjakahanbnlaaGreatDoor
open Go Go.Proofs Go.Proofs.Tryz Go.IntWalk
end Go.Proofs.YtmfjakahanbnlaaGreatDoor
