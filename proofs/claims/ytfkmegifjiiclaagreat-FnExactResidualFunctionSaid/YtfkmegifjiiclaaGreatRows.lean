/-
  NARROWER THAN 'FOR EVERY INPUT', by the rows' own cells (each row's printed sentence says how): FnExactCodeFor: loops · FnExactResidualCall: loops · FnExactSpecialize: loops · FnExactStageBody: loops · FnExactResidualFunction: loops · FnExactCandidates: loops.
  DERIVED. THE GIVEN ROWS OF THIS SEAT. 6 by the template 'for every input the law returns true; each argument reads behind the call as it read before'; 0 by the template 'total and deterministic' (their statements: YtfkmegifjiiclaaGreatTotals.lean).
  GIVEN WITH THE SEED: the statements are not yours to turn. If you find one false, say at which input.
  Laid BY PROGRAM, IN A SANDBOX (cutbox-rows.mjs): the forced cells as the released guide's own fill.sh prints them over the translation 7a1ee286fe98e82b… (all of the seat's roots in one cut). By AI agents, Wed Nov 11 2026. No macro, syntax, notation, axiom, sorry.
-/
import Derived.Test.YtfkmegifjiiclaaGreatChecked
import GoSem.Claim
import GoSem.ClaimJoined
import GoSem.ClaimMapViews
import Derived.JoinedTies
import Derived.KernelRfl
namespace Go.Proofs.YtfkmegifjiiclaaGreat
/- THE CELL 'sum', in the pinned program and in every row, IS THE sha256 OF THE DUMP (.gsa) THAT YtfkmegifjiiclaaGreatProg.lean LOADS. Nothing in Lean hashes anything: it is a label: what it is worth is what the hold of that sum in a sandbox is worth. -/
noncomputable def Tryz.pinned : Pinned := { name := "ytfkmegifjiiclaagreat", sum := "7a1ee286fe98e82b5e15fcd94b7e033b98ee7857829d385572201cc193ab52be", checked := Tryz.checked }
namespace Rows
def none {H : Type} : Left H := { results := [], args := [] }

/-- 'laws.FnExactCodeFor': WHATEVER THE INPUT: true; the input reads as it did. -/
def fnExactCodeForSpec : ChangeSpec := { name := "fnExactCodeFor", fn := fun _ => fun
  | [d1, d2] => { results := [.lit (.bool true)], args := [d1, d2] }
  | _ => none }
def fnExactCodeForRow : OpenClaim := { program := "ytfkmegifjiiclaagreat", sum := "7a1ee286fe98e82b5e15fcd94b7e033b98ee7857829d385572201cc193ab52be", func := "loop.example/g00589/laws.FnExactCodeFor", spec := "fnExactCodeFor", unfollowed := true, recurses := true, loops := true, apart := false }
def FnExactCodeForSaid : Prop := fnExactCodeForRow.holds Tryz.pinned (OpenSpec.ofChange fnExactCodeForSpec)

/-- ITS FALSE NEIGHBOUR: 'it returns false'. Refute it at one input. -/
def fnExactCodeForWrong : ChangeSpec := { name := "fnExactCodeFor", fn := fun _ => fun
  | [d1, d2] => { results := [.lit (.bool false)], args := [d1, d2] }
  | _ => none }
def FnExactCodeForWrongFalsely : Prop := fnExactCodeForRow.holds Tryz.pinned (OpenSpec.ofChange fnExactCodeForWrong)

/-- 'laws.FnExactResidualCall': WHATEVER THE INPUT: true; the input reads as it did. -/
def fnExactResidualCallSpec : ChangeSpec := { name := "fnExactResidualCall", fn := fun _ => fun
  | [d1, d2, d3, d4] => { results := [.lit (.bool true)], args := [d1, d2, d3, d4] }
  | _ => none }
def fnExactResidualCallRow : OpenClaim := { program := "ytfkmegifjiiclaagreat", sum := "7a1ee286fe98e82b5e15fcd94b7e033b98ee7857829d385572201cc193ab52be", func := "loop.example/g00589/laws.FnExactResidualCall", spec := "fnExactResidualCall", unfollowed := true, recurses := true, loops := true, apart := false }
def FnExactResidualCallSaid : Prop := fnExactResidualCallRow.holds Tryz.pinned (OpenSpec.ofChange fnExactResidualCallSpec)

/-- ITS FALSE NEIGHBOUR: 'it returns false'. Refute it at one input. -/
def fnExactResidualCallWrong : ChangeSpec := { name := "fnExactResidualCall", fn := fun _ => fun
  | [d1, d2, d3, d4] => { results := [.lit (.bool false)], args := [d1, d2, d3, d4] }
  | _ => none }
def FnExactResidualCallWrongFalsely : Prop := fnExactResidualCallRow.holds Tryz.pinned (OpenSpec.ofChange fnExactResidualCallWrong)

/-- 'laws.FnExactSpecialize': WHATEVER THE INPUT: true; the input reads as it did. -/
def fnExactSpecializeSpec : ChangeSpec := { name := "fnExactSpecialize", fn := fun _ => fun
  | [d1, d2, d3] => { results := [.lit (.bool true)], args := [d1, d2, d3] }
  | _ => none }
def fnExactSpecializeRow : OpenClaim := { program := "ytfkmegifjiiclaagreat", sum := "7a1ee286fe98e82b5e15fcd94b7e033b98ee7857829d385572201cc193ab52be", func := "loop.example/g00589/laws.FnExactSpecialize", spec := "fnExactSpecialize", unfollowed := true, recurses := true, loops := true, apart := false }
def FnExactSpecializeSaid : Prop := fnExactSpecializeRow.holds Tryz.pinned (OpenSpec.ofChange fnExactSpecializeSpec)

/-- ITS FALSE NEIGHBOUR: 'it returns false'. Refute it at one input. -/
def fnExactSpecializeWrong : ChangeSpec := { name := "fnExactSpecialize", fn := fun _ => fun
  | [d1, d2, d3] => { results := [.lit (.bool false)], args := [d1, d2, d3] }
  | _ => none }
def FnExactSpecializeWrongFalsely : Prop := fnExactSpecializeRow.holds Tryz.pinned (OpenSpec.ofChange fnExactSpecializeWrong)

/-- 'laws.FnExactStageBody': WHATEVER THE INPUT: true; the input reads as it did. -/
def fnExactStageBodySpec : ChangeSpec := { name := "fnExactStageBody", fn := fun _ => fun
  | [d1, d2] => { results := [.lit (.bool true)], args := [d1, d2] }
  | _ => none }
def fnExactStageBodyRow : OpenClaim := { program := "ytfkmegifjiiclaagreat", sum := "7a1ee286fe98e82b5e15fcd94b7e033b98ee7857829d385572201cc193ab52be", func := "loop.example/g00589/laws.FnExactStageBody", spec := "fnExactStageBody", unfollowed := true, recurses := true, loops := true, apart := false }
def FnExactStageBodySaid : Prop := fnExactStageBodyRow.holds Tryz.pinned (OpenSpec.ofChange fnExactStageBodySpec)

/-- ITS FALSE NEIGHBOUR: 'it returns false'. Refute it at one input. -/
def fnExactStageBodyWrong : ChangeSpec := { name := "fnExactStageBody", fn := fun _ => fun
  | [d1, d2] => { results := [.lit (.bool false)], args := [d1, d2] }
  | _ => none }
def FnExactStageBodyWrongFalsely : Prop := fnExactStageBodyRow.holds Tryz.pinned (OpenSpec.ofChange fnExactStageBodyWrong)

/-- 'laws.FnExactResidualFunction': WHATEVER THE INPUT: true; the input reads as it did. -/
def fnExactResidualFunctionSpec : ChangeSpec := { name := "fnExactResidualFunction", fn := fun _ => fun
  | [d1, d2, d3] => { results := [.lit (.bool true)], args := [d1, d2, d3] }
  | _ => none }
def fnExactResidualFunctionRow : OpenClaim := { program := "ytfkmegifjiiclaagreat", sum := "7a1ee286fe98e82b5e15fcd94b7e033b98ee7857829d385572201cc193ab52be", func := "loop.example/g00589/laws.FnExactResidualFunction", spec := "fnExactResidualFunction", unfollowed := true, recurses := true, loops := true, apart := false }
def FnExactResidualFunctionSaid : Prop := fnExactResidualFunctionRow.holds Tryz.pinned (OpenSpec.ofChange fnExactResidualFunctionSpec)

/-- ITS FALSE NEIGHBOUR: 'it returns false'. Refute it at one input. -/
def fnExactResidualFunctionWrong : ChangeSpec := { name := "fnExactResidualFunction", fn := fun _ => fun
  | [d1, d2, d3] => { results := [.lit (.bool false)], args := [d1, d2, d3] }
  | _ => none }
def FnExactResidualFunctionWrongFalsely : Prop := fnExactResidualFunctionRow.holds Tryz.pinned (OpenSpec.ofChange fnExactResidualFunctionWrong)

/-- 'laws.FnExactCandidates': WHATEVER THE INPUT: true; the input reads as it did. -/
def fnExactCandidatesSpec : ChangeSpec := { name := "fnExactCandidates", fn := fun _ => fun
  | [d1, d2] => { results := [.lit (.bool true)], args := [d1, d2] }
  | _ => none }
def fnExactCandidatesRow : OpenClaim := { program := "ytfkmegifjiiclaagreat", sum := "7a1ee286fe98e82b5e15fcd94b7e033b98ee7857829d385572201cc193ab52be", func := "loop.example/g00589/laws.FnExactCandidates", spec := "fnExactCandidates", unfollowed := true, recurses := true, loops := true, apart := false }
def FnExactCandidatesSaid : Prop := fnExactCandidatesRow.holds Tryz.pinned (OpenSpec.ofChange fnExactCandidatesSpec)

/-- ITS FALSE NEIGHBOUR: 'it returns false'. Refute it at one input. -/
def fnExactCandidatesWrong : ChangeSpec := { name := "fnExactCandidates", fn := fun _ => fun
  | [d1, d2] => { results := [.lit (.bool false)], args := [d1, d2] }
  | _ => none }
def FnExactCandidatesWrongFalsely : Prop := fnExactCandidatesRow.holds Tryz.pinned (OpenSpec.ofChange fnExactCandidatesWrong)

/- THE SECOND FORM. 'bulk': how many values and letters a reading holds, each counted each time it is reached (what is shared counts as often as it is met; a slice's spare places count too). A statement '..UptoSaid' is the law's where the arguments, and the package variables that the reading takes, are together of bulk at most 1048576: NARROWER than '..Said'. Prove '..Said' where nothing that the law and all that it calls make is longer than what came in: it says more and counts as full. Else prove '..UptoSaid'. A law counts once. -/
mutual
def uptoBulk {H : Type} : DataW H → Nat
  | .lit (.string bytes) => bytes.length + 1
  | .lit _ => 1
  | .nil => 1
  | .ptr d => uptoBulk d + 1
  | .slice elems spare => uptoBulkAll elems + uptoBulkAll spare + 1
  | .agg parts => uptoBulkAll parts + 1
  | .iface _ d => uptoBulk d + 1
  | .map entries => uptoBulkEntries entries + 1
  | .held _ => 1
def uptoBulkAll {H : Type} : List (DataW H) → Nat
  | [] => 0
  | d :: r => uptoBulk d + uptoBulkAll r
def uptoBulkEntries {H : Type} : List (Lit × DataW H) → Nat
  | [] => 0
  | x :: r => uptoBulkEntry x + uptoBulkEntries r
def uptoBulkEntry {H : Type} : Lit × DataW H → Nat
  | (.string bytes, d) => bytes.length + uptoBulk d + 1
  | (_, d) => uptoBulk d + 1
 end
def uptoSmall : (H : Type) → List (DataW H) → Bool := fun _ ds => decide (uptoBulkAll ds ≤ 1048576)
def OpenSpec.upto (s : _root_.Go.ChangeSpec) : _root_.Go.OpenSpec := { _root_.Go.OpenSpec.ofChange s with cond := some uptoSmall }

/-- 'laws.FnExactCodeFor', WHERE WHAT IT READS IS OF BULK AT MOST 1048576: true; the input reads as it did. -/
def fnExactCodeForUptoRow : OpenClaim := { program := "ytfkmegifjiiclaagreat", sum := "7a1ee286fe98e82b5e15fcd94b7e033b98ee7857829d385572201cc193ab52be", func := "loop.example/g00589/laws.FnExactCodeFor", spec := "fnExactCodeFor", unfollowed := true, recurses := true, loops := true, apart := false, narrowed := true }
def FnExactCodeForUptoSaid : Prop := fnExactCodeForUptoRow.holds Tryz.pinned (OpenSpec.upto fnExactCodeForSpec)

/-- 'laws.FnExactResidualCall', WHERE WHAT IT READS IS OF BULK AT MOST 1048576: true; the input reads as it did. -/
def fnExactResidualCallUptoRow : OpenClaim := { program := "ytfkmegifjiiclaagreat", sum := "7a1ee286fe98e82b5e15fcd94b7e033b98ee7857829d385572201cc193ab52be", func := "loop.example/g00589/laws.FnExactResidualCall", spec := "fnExactResidualCall", unfollowed := true, recurses := true, loops := true, apart := false, narrowed := true }
def FnExactResidualCallUptoSaid : Prop := fnExactResidualCallUptoRow.holds Tryz.pinned (OpenSpec.upto fnExactResidualCallSpec)

/-- 'laws.FnExactSpecialize', WHERE WHAT IT READS IS OF BULK AT MOST 1048576: true; the input reads as it did. -/
def fnExactSpecializeUptoRow : OpenClaim := { program := "ytfkmegifjiiclaagreat", sum := "7a1ee286fe98e82b5e15fcd94b7e033b98ee7857829d385572201cc193ab52be", func := "loop.example/g00589/laws.FnExactSpecialize", spec := "fnExactSpecialize", unfollowed := true, recurses := true, loops := true, apart := false, narrowed := true }
def FnExactSpecializeUptoSaid : Prop := fnExactSpecializeUptoRow.holds Tryz.pinned (OpenSpec.upto fnExactSpecializeSpec)

/-- 'laws.FnExactStageBody', WHERE WHAT IT READS IS OF BULK AT MOST 1048576: true; the input reads as it did. -/
def fnExactStageBodyUptoRow : OpenClaim := { program := "ytfkmegifjiiclaagreat", sum := "7a1ee286fe98e82b5e15fcd94b7e033b98ee7857829d385572201cc193ab52be", func := "loop.example/g00589/laws.FnExactStageBody", spec := "fnExactStageBody", unfollowed := true, recurses := true, loops := true, apart := false, narrowed := true }
def FnExactStageBodyUptoSaid : Prop := fnExactStageBodyUptoRow.holds Tryz.pinned (OpenSpec.upto fnExactStageBodySpec)

/-- 'laws.FnExactResidualFunction', WHERE WHAT IT READS IS OF BULK AT MOST 1048576: true; the input reads as it did. -/
def fnExactResidualFunctionUptoRow : OpenClaim := { program := "ytfkmegifjiiclaagreat", sum := "7a1ee286fe98e82b5e15fcd94b7e033b98ee7857829d385572201cc193ab52be", func := "loop.example/g00589/laws.FnExactResidualFunction", spec := "fnExactResidualFunction", unfollowed := true, recurses := true, loops := true, apart := false, narrowed := true }
def FnExactResidualFunctionUptoSaid : Prop := fnExactResidualFunctionUptoRow.holds Tryz.pinned (OpenSpec.upto fnExactResidualFunctionSpec)

/-- 'laws.FnExactCandidates', WHERE WHAT IT READS IS OF BULK AT MOST 1048576: true; the input reads as it did. -/
def fnExactCandidatesUptoRow : OpenClaim := { program := "ytfkmegifjiiclaagreat", sum := "7a1ee286fe98e82b5e15fcd94b7e033b98ee7857829d385572201cc193ab52be", func := "loop.example/g00589/laws.FnExactCandidates", spec := "fnExactCandidates", unfollowed := true, recurses := true, loops := true, apart := false, narrowed := true }
def FnExactCandidatesUptoSaid : Prop := fnExactCandidatesUptoRow.holds Tryz.pinned (OpenSpec.upto fnExactCandidatesSpec)

end Rows
end Go.Proofs.YtfkmegifjiiclaaGreat
