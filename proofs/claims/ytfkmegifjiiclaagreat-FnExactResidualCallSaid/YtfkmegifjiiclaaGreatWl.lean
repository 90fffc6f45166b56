/- Printed by gen.py: what the functions come to. -/
import Derived.Test.YtfkmegifjiiclaaGreatJh
import Derived.Test.YtfkmegifjiiclaaGreatVw
import Derived.Test.YtfkmegifjiiclaaGreatVt
import Derived.Test.YtfkmegifjiiclaaGreatWh
set_option linter.unusedVariables false
set_option maxRecDepth 100000
namespace Go.Proofs.YtfkmegifjiiclaaGreat
open Go Go.Proofs Go.Proofs.Tryz

end Go.Proofs.YtfkmegifjiiclaaGreat

/- The law FnExactTypeOf: for all data it answers true. -/
set_option linter.unusedVariables false
set_option linter.unusedSimpArgs false
namespace Go.Proofs.YtfkmegifjiiclaaGreat
open Go Go.Proofs Go.Proofs.Tryz Go.IntWalk

theorem Bel.mono {N M : Nat} {x : D} (h : Bel N x) (hM : N ≤ M) : Bel M x := fun b hb => Nat.lt_of_lt_of_le (h b hb) hM
end Go.Proofs.YtfkmegifjiiclaaGreat
