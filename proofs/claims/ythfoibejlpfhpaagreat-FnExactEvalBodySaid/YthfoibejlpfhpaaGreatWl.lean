/- The law FnExactTypeOf: for all data it answers true. -/
import Derived.Test.YthfoibejlpfhpaaGreatVw
import Derived.Test.YthfoibejlpfhpaaGreatVt
import Derived.Test.YthfoibejlpfhpaaGreatKl
set_option linter.unusedVariables false
set_option linter.unusedSimpArgs false
namespace Go.Proofs.YthfoibejlpfhpaaGreat
open Go Go.Proofs Go.Proofs.Tryz Go.IntWalk

theorem Bel.mono {N M : Nat} {x : D} (h : Bel N x) (hM : N ≤ M) : Bel M x := fun b hb => Nat.lt_of_lt_of_le (h b hb) hM
end Go.Proofs.YthfoibejlpfhpaaGreat
