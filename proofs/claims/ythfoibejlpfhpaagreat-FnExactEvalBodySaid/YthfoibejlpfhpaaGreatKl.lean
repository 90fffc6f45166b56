/- Printed by gen.py: what the functions come to. -/
import Derived.Test.YthfoibejlpfhpaaGreatJh
set_option linter.unusedVariables false
set_option maxRecDepth 100000
namespace Go.Proofs.YthfoibejlpfhpaaGreat
open Go Go.Proofs Go.Proofs.Tryz

end Go.Proofs.YthfoibejlpfhpaaGreat
