/- The text of a mark. -/
import Derived.Test.YtlahkdflngobiaaGreatA4
import Derived.Test.YtlahkdflngobiaaGreatA6
import Derived.Test.YtlahkdflngobiaaGreatKa
set_option linter.unusedVariables false
set_option linter.unusedSimpArgs false
namespace Go.Proofs.YtlahkdflngobiaaGreat
open Go Go.Proofs Go.Proofs.Tryz Go.IntWalk
set_option maxHeartbeats 4000000
set_option maxRecDepth 100000
theorem Bel.mono {N M:Nat} {x:D} (h:Bel N x) (I:N<=M):Bel M x:=λb J=>o9 (h b J) I
end Go.Proofs.YtlahkdflngobiaaGreat
