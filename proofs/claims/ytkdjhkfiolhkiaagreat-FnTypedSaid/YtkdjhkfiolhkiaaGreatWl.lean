/- Printed by gen.py: what the functions come to. -/
import Derived.Test.YtkdjhkfiolhkiaaGreatJh
import Derived.Test.YtkdjhkfiolhkiaaGreatVv
import Derived.Test.YtkdjhkfiolhkiaaGreatVn
import Derived.Test.YtkdjhkfiolhkiaaGreatWh
set_option linter.unusedVariables false
set_option maxRecDepth 100000
namespace Go.Proofs.YtkdjhkfiolhkiaaGreat
open Go Go.Proofs Go.Proofs.Tryz
set_option linter.unusedSimpArgs false
open Go Go.Proofs Go.Proofs.Tryz Go.IntWalk
theorem Bel.mono {N M:Nat} {x:D} (h:Bel N x) (hM:N<=M):Bel M x:=fun b hb=>oe (h b hb) hM
end Go.Proofs.YtkdjhkfiolhkiaaGreat
