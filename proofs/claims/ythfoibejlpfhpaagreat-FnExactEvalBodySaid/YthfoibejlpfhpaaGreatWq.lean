/- Which parts of a body come late, one by one: lists of truth values; the reference and the program. -/
import Derived.Test.YthfoibejlpfhpaaGreatWp
import Derived.Test.YthfoibejlpfhpaaGreatWm
set_option linter.unusedVariables false
set_option linter.unusedSimpArgs false
namespace Go.Proofs.YthfoibejlpfhpaaGreat
open Go Go.Proofs Go.Proofs.Tryz Go.IntWalk

end Go.Proofs.YthfoibejlpfhpaaGreat

/- CountDynamic and TimesOf: the laws. -/
set_option linter.unusedVariables false
set_option linter.unusedSimpArgs false
namespace Go.Proofs.YthfoibejlpfhpaaGreat
open Go Go.Proofs Go.Proofs.Tryz Go.IntWalk

theorem c_l1Bit (b : Bool) : RetI 45 [.bool b] ((if b then 1 else 0 : Nat) : Int) := fun N Q hQ => w_spec_l1Bit N b Q (Br.of (fun h N1 hN1 => Qi (hQ _ hN1) (by rw [h]; rfl)) fun h N1 hN1 => Qi (hQ _ hN1) (by rw [h]; rfl))
theorem c_bit (b : Bool) : RetI 49 [.bool b] ((if b then 1 else 0 : Nat) : Int) := fun N Q hQ => w_impl_bit N b Q (Br.of (fun h N1 hN1 => Qi (hQ _ hN1) (by rw [h]; rfl)) fun h N1 hN1 => Qi (hQ _ hN1) (by rw [h]; rfl))
end Go.Proofs.YthfoibejlpfhpaaGreat
