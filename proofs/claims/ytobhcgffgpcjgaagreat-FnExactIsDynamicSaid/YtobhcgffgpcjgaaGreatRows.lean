/-
  NARROWER THAN 'FOR EVERY INPUT', by the rows' own cells (each row's printed sentence says how): FnExactTypeOf: loops · FnExactBodyType: loops · FnExactIsDynamic: loops · FnExactNeededParams: loops.
  DERIVED. THE GIVEN ROWS OF THIS SEAT. 4 by the template 'for every input the law returns true; each argument reads behind the call as it read before'; 0 by the template 'total and deterministic' (their statements: YtobhcgffgpcjgaaGreatTotals.lean).
  GIVEN WITH THE SEED: the statements are not yours to turn. If you find one false, say at which input.
  Laid BY PROGRAM, IN A SANDBOX (cutbox-rows.mjs): the forced cells as the released guide's own fill.sh prints them over the translation 012dd07b7a4d231c… (all of the seat's roots in one cut). By AI agents, Wed Nov 11 2026. No macro, syntax, notation, axiom, sorry.
-/
import Derived.Test.YtobhcgffgpcjgaaGreatChecked
import GoSem.Claim
import GoSem.ClaimJoined
import GoSem.ClaimMapViews
import Derived.JoinedTies
import Derived.KernelRfl
namespace Go.Proofs.YtobhcgffgpcjgaaGreat
/- THE CELL 'sum', in the pinned program and in every row, IS THE sha256 OF THE DUMP (.gsa) THAT YtobhcgffgpcjgaaGreatProg.lean LOADS. Nothing in Lean hashes anything: it is a label: what it is worth is what the hold of that sum in a sandbox is worth. -/
noncomputable def Tryz.pinned : Pinned := { name := "ytobhcgffgpcjgaagreat", sum := "012dd07b7a4d231cc97e14c2acda605debd349793107255d9869462d502d46a1", checked := Tryz.checked }
namespace Rows
def none {H : Type} : Left H := { results := [], args := [] }

/-- 'laws.FnExactTypeOf': WHATEVER THE INPUT: true; the input reads as it did. -/
def fnExactTypeOfSpec : ChangeSpec := { name := "fnExactTypeOf", fn := fun _ => fun
  | [d1, d2, d3] => { results := [.lit (.bool true)], args := [d1, d2, d3] }
  | _ => none }
def fnExactTypeOfRow : OpenClaim := { program := "ytobhcgffgpcjgaagreat", sum := "012dd07b7a4d231cc97e14c2acda605debd349793107255d9869462d502d46a1", func := "loop.example/g00589/laws.FnExactTypeOf", spec := "fnExactTypeOf", unfollowed := true, recurses := true, loops := true, apart := false }
def FnExactTypeOfSaid : Prop := fnExactTypeOfRow.holds Tryz.pinned (OpenSpec.ofChange fnExactTypeOfSpec)

/-- ITS FALSE NEIGHBOUR: 'it returns false'. Refute it at one input. -/
def fnExactTypeOfWrong : ChangeSpec := { name := "fnExactTypeOf", fn := fun _ => fun
  | [d1, d2, d3] => { results := [.lit (.bool false)], args := [d1, d2, d3] }
  | _ => none }
def FnExactTypeOfWrongFalsely : Prop := fnExactTypeOfRow.holds Tryz.pinned (OpenSpec.ofChange fnExactTypeOfWrong)

/-- 'laws.FnExactBodyType': WHATEVER THE INPUT: true; the input reads as it did. -/
def fnExactBodyTypeSpec : ChangeSpec := { name := "fnExactBodyType", fn := fun _ => fun
  | [d1, d2] => { results := [.lit (.bool true)], args := [d1, d2] }
  | _ => none }
def fnExactBodyTypeRow : OpenClaim := { program := "ytobhcgffgpcjgaagreat", sum := "012dd07b7a4d231cc97e14c2acda605debd349793107255d9869462d502d46a1", func := "loop.example/g00589/laws.FnExactBodyType", spec := "fnExactBodyType", unfollowed := true, recurses := true, loops := true, apart := false }
def FnExactBodyTypeSaid : Prop := fnExactBodyTypeRow.holds Tryz.pinned (OpenSpec.ofChange fnExactBodyTypeSpec)

/-- ITS FALSE NEIGHBOUR: 'it returns false'. Refute it at one input. -/
def fnExactBodyTypeWrong : ChangeSpec := { name := "fnExactBodyType", fn := fun _ => fun
  | [d1, d2] => { results := [.lit (.bool false)], args := [d1, d2] }
  | _ => none }
def FnExactBodyTypeWrongFalsely : Prop := fnExactBodyTypeRow.holds Tryz.pinned (OpenSpec.ofChange fnExactBodyTypeWrong)

/-- 'laws.FnExactIsDynamic': WHATEVER THE INPUT: true; the input reads as it did. -/
def fnExactIsDynamicSpec : ChangeSpec := { name := "fnExactIsDynamic", fn := fun _ => fun
  | [d1, d2] => { results := [.lit (.bool true)], args := [d1, d2] }
  | _ => none }
def fnExactIsDynamicRow : OpenClaim := { program := "ytobhcgffgpcjgaagreat", sum := "012dd07b7a4d231cc97e14c2acda605debd349793107255d9869462d502d46a1", func := "loop.example/g00589/laws.FnExactIsDynamic", spec := "fnExactIsDynamic", unfollowed := true, recurses := true, loops := true, apart := false }
def FnExactIsDynamicSaid : Prop := fnExactIsDynamicRow.holds Tryz.pinned (OpenSpec.ofChange fnExactIsDynamicSpec)

/-- ITS FALSE NEIGHBOUR: 'it returns false'. Refute it at one input. -/
def fnExactIsDynamicWrong : ChangeSpec := { name := "fnExactIsDynamic", fn := fun _ => fun
  | [d1, d2] => { results := [.lit (.bool false)], args := [d1, d2] }
  | _ => none }
def FnExactIsDynamicWrongFalsely : Prop := fnExactIsDynamicRow.holds Tryz.pinned (OpenSpec.ofChange fnExactIsDynamicWrong)

/-- 'laws.FnExactNeededParams': WHATEVER THE INPUT: true; the input reads as it did. -/
def fnExactNeededParamsSpec : ChangeSpec := { name := "fnExactNeededParams", fn := fun _ => fun
  | [d1, d2] => { results := [.lit (.bool true)], args := [d1, d2] }
  | _ => none }
def fnExactNeededParamsRow : OpenClaim := { program := "ytobhcgffgpcjgaagreat", sum := "012dd07b7a4d231cc97e14c2acda605debd349793107255d9869462d502d46a1", func := "loop.example/g00589/laws.FnExactNeededParams", spec := "fnExactNeededParams", unfollowed := true, recurses := true, loops := true, apart := false }
def FnExactNeededParamsSaid : Prop := fnExactNeededParamsRow.holds Tryz.pinned (OpenSpec.ofChange fnExactNeededParamsSpec)

/-- ITS FALSE NEIGHBOUR: 'it returns false'. Refute it at one input. -/
def fnExactNeededParamsWrong : ChangeSpec := { name := "fnExactNeededParams", fn := fun _ => fun
  | [d1, d2] => { results := [.lit (.bool false)], args := [d1, d2] }
  | _ => none }
def FnExactNeededParamsWrongFalsely : Prop := fnExactNeededParamsRow.holds Tryz.pinned (OpenSpec.ofChange fnExactNeededParamsWrong)

/- THE SECOND FORM. 'bulk': how many values and letters a reading holds, each counted each time it is reached (what is shared counts as often as it is met; a slice's spare places count too). A statement '..UptoSaid' is the law's where the arguments, and the package variables that the reading takes, are together of bulk at most 1048576: NARROWER than '..Said'. Prove '..Said' where nothing that the law and all that it calls make is longer than what came in: it says more and counts as full. Else prove '..UptoSaid'. A law counts once. -/
mutual
def uptoBulk {H : Type} : DataW H → Nat
  | .lit (.string bytes) => bytes.length + 1
  | .lit _ => 1
  | .nil => 1
  | .ptr d => uptoBulk d + 1
  | .slice elems spare => uptoBulkAll elems + uptoBulkAll spare + 1
  | .agg parts => uptoBulkAll parts + 1
  | .iface _ d => uptoBulk d + 1
  | .map entries => uptoBulkEntries entries + 1
  | .held _ => 1
def uptoBulkAll {H : Type} : List (DataW H) → Nat
  | [] => 0
  | d :: r => uptoBulk d + uptoBulkAll r
def uptoBulkEntries {H : Type} : List (Lit × DataW H) → Nat
  | [] => 0
  | x :: r => uptoBulkEntry x + uptoBulkEntries r
def uptoBulkEntry {H : Type} : Lit × DataW H → Nat
  | (.string bytes, d) => bytes.length + uptoBulk d + 1
  | (_, d) => uptoBulk d + 1
 end
def uptoSmall : (H : Type) → List (DataW H) → Bool := fun _ ds => decide (uptoBulkAll ds ≤ 1048576)
def OpenSpec.upto (s : _root_.Go.ChangeSpec) : _root_.Go.OpenSpec := { _root_.Go.OpenSpec.ofChange s with cond := some uptoSmall }

/-- 'laws.FnExactTypeOf', WHERE WHAT IT READS IS OF BULK AT MOST 1048576: true; the input reads as it did. -/
def fnExactTypeOfUptoRow : OpenClaim := { program := "ytobhcgffgpcjgaagreat", sum := "012dd07b7a4d231cc97e14c2acda605debd349793107255d9869462d502d46a1", func := "loop.example/g00589/laws.FnExactTypeOf", spec := "fnExactTypeOf", unfollowed := true, recurses := true, loops := true, apart := false, narrowed := true }
def FnExactTypeOfUptoSaid : Prop := fnExactTypeOfUptoRow.holds Tryz.pinned (OpenSpec.upto fnExactTypeOfSpec)

/-- 'laws.FnExactBodyType', WHERE WHAT IT READS IS OF BULK AT MOST 1048576: true; the input reads as it did. -/
def fnExactBodyTypeUptoRow : OpenClaim := { program := "ytobhcgffgpcjgaagreat", sum := "012dd07b7a4d231cc97e14c2acda605debd349793107255d9869462d502d46a1", func := "loop.example/g00589/laws.FnExactBodyType", spec := "fnExactBodyType", unfollowed := true, recurses := true, loops := true, apart := false, narrowed := true }
def FnExactBodyTypeUptoSaid : Prop := fnExactBodyTypeUptoRow.holds Tryz.pinned (OpenSpec.upto fnExactBodyTypeSpec)

/-- 'laws.FnExactIsDynamic', WHERE WHAT IT READS IS OF BULK AT MOST 1048576: true; the input reads as it did. -/
def fnExactIsDynamicUptoRow : OpenClaim := { program := "ytobhcgffgpcjgaagreat", sum := "012dd07b7a4d231cc97e14c2acda605debd349793107255d9869462d502d46a1", func := "loop.example/g00589/laws.FnExactIsDynamic", spec := "fnExactIsDynamic", unfollowed := true, recurses := true, loops := true, apart := false, narrowed := true }
def FnExactIsDynamicUptoSaid : Prop := fnExactIsDynamicUptoRow.holds Tryz.pinned (OpenSpec.upto fnExactIsDynamicSpec)

/-- 'laws.FnExactNeededParams', WHERE WHAT IT READS IS OF BULK AT MOST 1048576: true; the input reads as it did. -/
def fnExactNeededParamsUptoRow : OpenClaim := { program := "ytobhcgffgpcjgaagreat", sum := "012dd07b7a4d231cc97e14c2acda605debd349793107255d9869462d502d46a1", func := "loop.example/g00589/laws.FnExactNeededParams", spec := "fnExactNeededParams", unfollowed := true, recurses := true, loops := true, apart := false, narrowed := true }
def FnExactNeededParamsUptoSaid : Prop := fnExactNeededParamsUptoRow.holds Tryz.pinned (OpenSpec.upto fnExactNeededParamsSpec)

end Rows
end Go.Proofs.YtobhcgffgpcjgaaGreat
