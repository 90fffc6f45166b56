/- Printed by gen.py: what the functions come to. -/
import Derived.Test.YtobhcgffgpcjgaaGreatJh
set_option linter.unusedVariables false
set_option maxRecDepth 100000
namespace Go.Proofs.YtobhcgffgpcjgaaGreat
open Go Go.Proofs Go.Proofs.Tryz
end Go.Proofs.YtobhcgffgpcjgaaGreat
