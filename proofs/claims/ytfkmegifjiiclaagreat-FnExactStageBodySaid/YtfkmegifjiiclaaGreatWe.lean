/- Which parts of a body come late, one by one: lists of truth values; the reference and the program. -/
import Derived.Test.YtfkmegifjiiclaaGreatWp
import Derived.Test.YtfkmegifjiiclaaGreatWm
set_option linter.unusedVariables false
set_option linter.unusedSimpArgs false
namespace Go.Proofs.YtfkmegifjiiclaaGreat
open Go Go.Proofs Go.Proofs.Tryz Go.IntWalk

end Go.Proofs.YtfkmegifjiiclaaGreat

/- CountDynamic and TimesOf: the laws. -/
set_option linter.unusedVariables false
set_option linter.unusedSimpArgs false
namespace Go.Proofs.YtfkmegifjiiclaaGreat
open Go Go.Proofs Go.Proofs.Tryz Go.IntWalk

end Go.Proofs.YtfkmegifjiiclaaGreat

/- What bodies come to: values, and that a typed body's value fits its type. -/
set_option linter.unusedVariables false
set_option linter.unusedSimpArgs false
namespace Go.Proofs.YtfkmegifjiiclaaGreat
open Go Go.Proofs Go.Proofs.Tryz Go.IntWalk

/-- a name and its number -/
abbrev Nb := ByteArray × Int
def lastN (nm : ByteArray) (v : List Nb) : Option Int := (v.reverse.find? fun p => decide (p.1 = nm)).map (·.2)
theorem lastN_snoc {nm : ByteArray} {v : List Nb} {b : Nb} : lastN nm (v ++ [b]) = if b.1 = nm then some b.2 else lastN nm v := by
 unfold lastN
 rw [List.reverse_append]
 by_cases h : b.1 = nm <;> simp [h]
def red (n : Int) : Int := n % 10007
def bI (b : Bool) : Int := if b then 1 else 0
def fits (t : Ty) (n : Int) : Bool := if t.k = 2 then inB n 0 1 else inB n 0 10006
theorem bI_in (b : Bool) : 0 ≤ bI b ∧ bI b ≤ 1 := by cases b <;> decide
theorem red_in (n : Int) : 0 ≤ red n ∧ red n ≤ 10006 := by unfold red; omega
/-- numbers for the names of a typing -/
structure Fit (v : List Nb) (g : List Tg) : Prop where
 len : v.length = g.length
 at_ : ∀ (i : Nat) (x : Tg) (y : Nb), g[i]? = some x → v[i]? = some y → x.nm = y.1 ∧ fits x.ty y.2 = true
theorem fits_bool {n : Int} {t : Ty} (ht : t.k = 2) (h : fits t n = true) : n = 0 ∨ n = 1 := by
 unfold fits at h
 rw [if_pos ht, inB_iff] at h
 omega
theorem fits_of {n : Int} {t : Ty} (h : 0 ≤ n ∧ n ≤ (if t.k = 2 then 1 else 10006)) : fits t n = true := by
 unfold fits
 split at h <;> rename_i hk
 ·rw [if_pos hk, inB_iff]; omega
 ·rw [if_neg hk, inB_iff]; omega
end Go.Proofs.YtfkmegifjiiclaaGreat

/- What bodies come to: the reference's and the program's functions. -/
set_option linter.unusedVariables false
set_option linter.unusedSimpArgs false
namespace Go.Proofs.YtfkmegifjiiclaaGreat
open Go Go.Proofs Go.Proofs.Tryz Go.IntWalk

end Go.Proofs.YtfkmegifjiiclaaGreat

/- What bodies come to: the two evaluators. -/
set_option linter.unusedVariables false
set_option linter.unusedSimpArgs false
namespace Go.Proofs.YtfkmegifjiiclaaGreat
open Go Go.Proofs Go.Proofs.Tryz Go.IntWalk

def plN (p : Pl) : Nb := (p.1, p.2.1)
end Go.Proofs.YtfkmegifjiiclaaGreat

/- EvalBody: lists of numbers, bodies with arguments, the law. -/
set_option linter.unusedVariables false
set_option linter.unusedSimpArgs false
namespace Go.Proofs.YtfkmegifjiiclaaGreat
open Go Go.Proofs Go.Proofs.Tryz Go.IntWalk

/-! bodies with arguments -/
end Go.Proofs.YtfkmegifjiiclaaGreat
