/- Printed by gen.py: what the functions come to. -/
import Derived.Test.YtfkmegifjiiclaaGreatJh
import Derived.Test.YtfkmegifjiiclaaGreatVw
import Derived.Test.YtfkmegifjiiclaaGreatVt
import Derived.Test.YtfkmegifjiiclaaGreatWh
set_option linter.unusedVariables false
set_option maxRecDepth 100000
namespace Go.Proofs.YtfkmegifjiiclaaGreat
open Go Go.Proofs Go.Proofs.Tryz

end Go.Proofs.YtfkmegifjiiclaaGreat

/- The law FnExactTypeOf: for all data it answers true. -/
set_option linter.unusedVariables false
set_option linter.unusedSimpArgs false
namespace Go.Proofs.YtfkmegifjiiclaaGreat
open Go Go.Proofs Go.Proofs.Tryz Go.IntWalk

mutual
theorem zNX : ∀ (t : Ty) (k : Int), (zKp t k).1.cnt = t.cnt
 | .mk kk l, k => by simp only [zKp, Ty.cnt, su l]
theorem su : ∀ (l : List Ty) (k : Int), zH (zL l k).1 = zH l
 | [], k => rfl
 | t :: ts, k => by simp only [zL, zH, zNX t, su ts]
end
theorem Own.tree {N N' : Nat} {d : D} (h : Own N N' d) : Tree d := ⟨h.nd, h.fl⟩
theorem Own.low {N N' M : Nat} {d : D} (h : Own N N' d) (hM : M ≤ N) : Low M d := ⟨fun b hb => Nat.le_trans hM (h.lo b hb)⟩
/-- blocks below a bound and blocks from it on -/
theorem yY {N N' : Nat} {d x : D} (h : Own N N' d) (hx : Bel N x) : ∀ b ∈ d.foot, b ∉ x.foot := fun b hb hc => by
 have := h.lo b hb; have := hx b hc; omega
theorem ra {N N' M M' : Nat} {d x : D} (h : Own N N' d) (hx : Own M M' x) (hM : N' ≤ M) : ∀ b ∈ d.foot, b ∉ x.foot := fun b hb hc => by
 have := h.hi b hb; have := hx.lo b hc; omega
theorem Bel.mono {N M : Nat} {x : D} (h : Bel N x) (hM : N ≤ M) : Bel M x := fun b hb => Nat.lt_of_lt_of_le (h b hb) hM
end Go.Proofs.YtfkmegifjiiclaaGreat
