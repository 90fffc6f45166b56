/-
  NARROWER THAN 'FOR EVERY INPUT', by the rows' own cells (each row's printed sentence says how): FnExactStep: loops, laid · FnExactTermAfter: loops, laid · FnExactTraceOf: loops, laid · FnExactRunTerm: loops, laid · FnExactBigStep: loops, laid · FnExactSimplify: loops, laid.
  DERIVED. THE GIVEN ROWS OF THIS SEAT. 6 by the template 'for every input the law returns true; each argument reads behind the call as it read before'; 0 by the template 'total and deterministic' (their statements: YtnpjpplbkoammaaGreatDoorTotals.lean).
  GIVEN WITH THE SEED: the statements are not yours to turn. If you find one false, say at which input.
  Laid BY PROGRAM, IN A SANDBOX (cutbox-rows.mjs): the forced cells as the released guide's own fill.sh prints them over the translation b5fe02f96cb1f0d0… (all of the seat's roots in one cut). By AI agents, Wed Nov 11 2026. No macro, syntax, notation, axiom, sorry.
-/
import Derived.Test.YtnpjpplbkoammaaGreatDoorChecked
import GoSem.Claim
import GoSem.ClaimJoined
import GoSem.ClaimMapViews
import Derived.JoinedTies
import Derived.KernelRfl
namespace Go.Proofs.YtnpjpplbkoammaaGreatDoor
/- THE CELL 'sum', in the pinned program and in every row, IS THE sha256 OF THE DUMP (.gsa) THAT YtnpjpplbkoammaaGreatDoorProg.lean LOADS. Nothing in Lean hashes anything: it is a label: what it is worth is what the hold of that sum in a sandbox is worth. -/
noncomputable def Tryz.pinned : Pinned := { name := "ytnpjpplbkoammaagreatdoor", sum := "b5fe02f96cb1f0d0fb0b47e26af1379bcb1216d2e9399a37fced251419375563", checked := Tryz.checked }
namespace Rows
def none {H : Type} : Left H := { results := [], args := [] }

/- WHAT THE LISTED PACKAGE-LEVEL VARIABLES READ AS WHEN THE CALL BEGINS. Each datum BY PROGRAM (the guide's laid-datum.mjs) off the statement by which the dump's own 'gosem.cut.vars' lays the variable. In a bare row this is a premise. The card (YtnpjpplbkoammaaGreatDoorCards.lean) ties it to the program's text. -/
def laid_math_bits_deBruijn32tab {H : Type} : DataW H := .agg [.lit (.int .u8 0), .lit (.int .u8 1), .lit (.int .u8 28), .lit (.int .u8 2), .lit (.int .u8 29), .lit (.int .u8 14), .lit (.int .u8 24), .lit (.int .u8 3), .lit (.int .u8 30), .lit (.int .u8 22), .lit (.int .u8 20), .lit (.int .u8 15), .lit (.int .u8 25), .lit (.int .u8 17), .lit (.int .u8 4), .lit (.int .u8 8), .lit (.int .u8 31), .lit (.int .u8 27), .lit (.int .u8 13), .lit (.int .u8 23), .lit (.int .u8 21), .lit (.int .u8 19), .lit (.int .u8 16), .lit (.int .u8 7), .lit (.int .u8 26), .lit (.int .u8 12), .lit (.int .u8 18), .lit (.int .u8 6), .lit (.int .u8 11), .lit (.int .u8 5), .lit (.int .u8 10), .lit (.int .u8 9)]
def laid_math_bits_deBruijn64tab {H : Type} : DataW H := .agg [.lit (.int .u8 0), .lit (.int .u8 1), .lit (.int .u8 56), .lit (.int .u8 2), .lit (.int .u8 57), .lit (.int .u8 49), .lit (.int .u8 28), .lit (.int .u8 3), .lit (.int .u8 61), .lit (.int .u8 58), .lit (.int .u8 42), .lit (.int .u8 50), .lit (.int .u8 38), .lit (.int .u8 29), .lit (.int .u8 17), .lit (.int .u8 4), .lit (.int .u8 62), .lit (.int .u8 47), .lit (.int .u8 59), .lit (.int .u8 36), .lit (.int .u8 45), .lit (.int .u8 43), .lit (.int .u8 51), .lit (.int .u8 22), .lit (.int .u8 53), .lit (.int .u8 39), .lit (.int .u8 33), .lit (.int .u8 30), .lit (.int .u8 24), .lit (.int .u8 18), .lit (.int .u8 12), .lit (.int .u8 5), .lit (.int .u8 63), .lit (.int .u8 55), .lit (.int .u8 48), .lit (.int .u8 27), .lit (.int .u8 60), .lit (.int .u8 41), .lit (.int .u8 37), .lit (.int .u8 16), .lit (.int .u8 46), .lit (.int .u8 35), .lit (.int .u8 44), .lit (.int .u8 21), .lit (.int .u8 52), .lit (.int .u8 32), .lit (.int .u8 23), .lit (.int .u8 11), .lit (.int .u8 54), .lit (.int .u8 26), .lit (.int .u8 40), .lit (.int .u8 15), .lit (.int .u8 34), .lit (.int .u8 20), .lit (.int .u8 31), .lit (.int .u8 10), .lit (.int .u8 25), .lit (.int .u8 14), .lit (.int .u8 19), .lit (.int .u8 9), .lit (.int .u8 13), .lit (.int .u8 8), .lit (.int .u8 7), .lit (.int .u8 6)]
def laid_internal_strconv_uint64pow10 {H : Type} : DataW H := .agg [.lit (.int .u64 1), .lit (.int .u64 10), .lit (.int .u64 100), .lit (.int .u64 1000), .lit (.int .u64 10000), .lit (.int .u64 100000), .lit (.int .u64 1000000), .lit (.int .u64 10000000), .lit (.int .u64 100000000), .lit (.int .u64 1000000000), .lit (.int .u64 10000000000), .lit (.int .u64 100000000000), .lit (.int .u64 1000000000000), .lit (.int .u64 10000000000000), .lit (.int .u64 100000000000000), .lit (.int .u64 1000000000000000), .lit (.int .u64 10000000000000000), .lit (.int .u64 100000000000000000), .lit (.int .u64 1000000000000000000), .lit (.int .u64 10000000000000000000)]

/-- 'laws.FnExactStep': WHATEVER THE INPUT: true; the input reads as it did. -/
def fnExactStepSpec : ChangeSpec := { name := "fnExactStep", fn := fun _ => fun
  | [d] => { results := [.lit (.bool true)], args := [d] }
  | _ => none }
def fnExactStepRow : OpenClaim := { program := "ytnpjpplbkoammaagreatdoor", sum := "b5fe02f96cb1f0d0fb0b47e26af1379bcb1216d2e9399a37fced251419375563", func := "loop.example/g00589/laws.FnExactStep", spec := "fnExactStep", unfollowed := true, recurses := true, named := ["internal/strconv.uint64pow10", "math/bits.deBruijn32tab", "math/bits.deBruijn64tab"], loops := true, apart := false, laid := [("math/bits.deBruijn32tab", laid_math_bits_deBruijn32tab), ("math/bits.deBruijn64tab", laid_math_bits_deBruijn64tab), ("internal/strconv.uint64pow10", laid_internal_strconv_uint64pow10)] }
def FnExactStepSaid : Prop := fnExactStepRow.holds Tryz.pinned (OpenSpec.ofChange fnExactStepSpec)

/-- ITS FALSE NEIGHBOUR: 'it returns false'. Refute it at one input. -/
def fnExactStepWrong : ChangeSpec := { name := "fnExactStep", fn := fun _ => fun
  | [d] => { results := [.lit (.bool false)], args := [d] }
  | _ => none }
def FnExactStepWrongFalsely : Prop := fnExactStepRow.holds Tryz.pinned (OpenSpec.ofChange fnExactStepWrong)

/-- 'laws.FnExactTermAfter': WHATEVER THE INPUT: true; the input reads as it did. -/
def fnExactTermAfterSpec : ChangeSpec := { name := "fnExactTermAfter", fn := fun _ => fun
  | [d1, d2] => { results := [.lit (.bool true)], args := [d1, d2] }
  | _ => none }
def fnExactTermAfterRow : OpenClaim := { program := "ytnpjpplbkoammaagreatdoor", sum := "b5fe02f96cb1f0d0fb0b47e26af1379bcb1216d2e9399a37fced251419375563", func := "loop.example/g00589/laws.FnExactTermAfter", spec := "fnExactTermAfter", unfollowed := true, recurses := true, named := ["internal/strconv.uint64pow10", "math/bits.deBruijn32tab", "math/bits.deBruijn64tab"], loops := true, apart := false, laid := [("math/bits.deBruijn32tab", laid_math_bits_deBruijn32tab), ("math/bits.deBruijn64tab", laid_math_bits_deBruijn64tab), ("internal/strconv.uint64pow10", laid_internal_strconv_uint64pow10)] }
def FnExactTermAfterSaid : Prop := fnExactTermAfterRow.holds Tryz.pinned (OpenSpec.ofChange fnExactTermAfterSpec)

/-- ITS FALSE NEIGHBOUR: 'it returns false'. Refute it at one input. -/
def fnExactTermAfterWrong : ChangeSpec := { name := "fnExactTermAfter", fn := fun _ => fun
  | [d1, d2] => { results := [.lit (.bool false)], args := [d1, d2] }
  | _ => none }
def FnExactTermAfterWrongFalsely : Prop := fnExactTermAfterRow.holds Tryz.pinned (OpenSpec.ofChange fnExactTermAfterWrong)

/-- 'laws.FnExactTraceOf': WHATEVER THE INPUT: true; the input reads as it did. -/
def fnExactTraceOfSpec : ChangeSpec := { name := "fnExactTraceOf", fn := fun _ => fun
  | [d1, d2] => { results := [.lit (.bool true)], args := [d1, d2] }
  | _ => none }
def fnExactTraceOfRow : OpenClaim := { program := "ytnpjpplbkoammaagreatdoor", sum := "b5fe02f96cb1f0d0fb0b47e26af1379bcb1216d2e9399a37fced251419375563", func := "loop.example/g00589/laws.FnExactTraceOf", spec := "fnExactTraceOf", unfollowed := true, recurses := true, named := ["internal/strconv.uint64pow10", "math/bits.deBruijn32tab", "math/bits.deBruijn64tab"], loops := true, apart := false, laid := [("math/bits.deBruijn32tab", laid_math_bits_deBruijn32tab), ("math/bits.deBruijn64tab", laid_math_bits_deBruijn64tab), ("internal/strconv.uint64pow10", laid_internal_strconv_uint64pow10)] }
def FnExactTraceOfSaid : Prop := fnExactTraceOfRow.holds Tryz.pinned (OpenSpec.ofChange fnExactTraceOfSpec)

/-- ITS FALSE NEIGHBOUR: 'it returns false'. Refute it at one input. -/
def fnExactTraceOfWrong : ChangeSpec := { name := "fnExactTraceOf", fn := fun _ => fun
  | [d1, d2] => { results := [.lit (.bool false)], args := [d1, d2] }
  | _ => none }
def FnExactTraceOfWrongFalsely : Prop := fnExactTraceOfRow.holds Tryz.pinned (OpenSpec.ofChange fnExactTraceOfWrong)

/-- 'laws.FnExactRunTerm': WHATEVER THE INPUT: true; the input reads as it did. -/
def fnExactRunTermSpec : ChangeSpec := { name := "fnExactRunTerm", fn := fun _ => fun
  | [d1, d2] => { results := [.lit (.bool true)], args := [d1, d2] }
  | _ => none }
def fnExactRunTermRow : OpenClaim := { program := "ytnpjpplbkoammaagreatdoor", sum := "b5fe02f96cb1f0d0fb0b47e26af1379bcb1216d2e9399a37fced251419375563", func := "loop.example/g00589/laws.FnExactRunTerm", spec := "fnExactRunTerm", unfollowed := true, recurses := true, named := ["internal/strconv.uint64pow10", "math/bits.deBruijn32tab", "math/bits.deBruijn64tab"], loops := true, apart := false, laid := [("math/bits.deBruijn32tab", laid_math_bits_deBruijn32tab), ("math/bits.deBruijn64tab", laid_math_bits_deBruijn64tab), ("internal/strconv.uint64pow10", laid_internal_strconv_uint64pow10)] }
def FnExactRunTermSaid : Prop := fnExactRunTermRow.holds Tryz.pinned (OpenSpec.ofChange fnExactRunTermSpec)

/-- ITS FALSE NEIGHBOUR: 'it returns false'. Refute it at one input. -/
def fnExactRunTermWrong : ChangeSpec := { name := "fnExactRunTerm", fn := fun _ => fun
  | [d1, d2] => { results := [.lit (.bool false)], args := [d1, d2] }
  | _ => none }
def FnExactRunTermWrongFalsely : Prop := fnExactRunTermRow.holds Tryz.pinned (OpenSpec.ofChange fnExactRunTermWrong)

/-- 'laws.FnExactBigStep': WHATEVER THE INPUT: true; the input reads as it did. -/
def fnExactBigStepSpec : ChangeSpec := { name := "fnExactBigStep", fn := fun _ => fun
  | [d1, d2] => { results := [.lit (.bool true)], args := [d1, d2] }
  | _ => none }
def fnExactBigStepRow : OpenClaim := { program := "ytnpjpplbkoammaagreatdoor", sum := "b5fe02f96cb1f0d0fb0b47e26af1379bcb1216d2e9399a37fced251419375563", func := "loop.example/g00589/laws.FnExactBigStep", spec := "fnExactBigStep", unfollowed := true, recurses := true, named := ["internal/strconv.uint64pow10", "math/bits.deBruijn32tab", "math/bits.deBruijn64tab"], loops := true, apart := false, laid := [("math/bits.deBruijn32tab", laid_math_bits_deBruijn32tab), ("math/bits.deBruijn64tab", laid_math_bits_deBruijn64tab), ("internal/strconv.uint64pow10", laid_internal_strconv_uint64pow10)] }
def FnExactBigStepSaid : Prop := fnExactBigStepRow.holds Tryz.pinned (OpenSpec.ofChange fnExactBigStepSpec)

/-- ITS FALSE NEIGHBOUR: 'it returns false'. Refute it at one input. -/
def fnExactBigStepWrong : ChangeSpec := { name := "fnExactBigStep", fn := fun _ => fun
  | [d1, d2] => { results := [.lit (.bool false)], args := [d1, d2] }
  | _ => none }
def FnExactBigStepWrongFalsely : Prop := fnExactBigStepRow.holds Tryz.pinned (OpenSpec.ofChange fnExactBigStepWrong)

/-- 'laws.FnExactSimplify': WHATEVER THE INPUT: true; the input reads as it did. -/
def fnExactSimplifySpec : ChangeSpec := { name := "fnExactSimplify", fn := fun _ => fun
  | [d] => { results := [.lit (.bool true)], args := [d] }
  | _ => none }
def fnExactSimplifyRow : OpenClaim := { program := "ytnpjpplbkoammaagreatdoor", sum := "b5fe02f96cb1f0d0fb0b47e26af1379bcb1216d2e9399a37fced251419375563", func := "loop.example/g00589/laws.FnExactSimplify", spec := "fnExactSimplify", unfollowed := true, recurses := true, named := ["internal/strconv.uint64pow10", "math/bits.deBruijn32tab", "math/bits.deBruijn64tab"], loops := true, apart := false, laid := [("math/bits.deBruijn32tab", laid_math_bits_deBruijn32tab), ("math/bits.deBruijn64tab", laid_math_bits_deBruijn64tab), ("internal/strconv.uint64pow10", laid_internal_strconv_uint64pow10)] }
def FnExactSimplifySaid : Prop := fnExactSimplifyRow.holds Tryz.pinned (OpenSpec.ofChange fnExactSimplifySpec)

/-- ITS FALSE NEIGHBOUR: 'it returns false'. Refute it at one input. -/
def fnExactSimplifyWrong : ChangeSpec := { name := "fnExactSimplify", fn := fun _ => fun
  | [d] => { results := [.lit (.bool false)], args := [d] }
  | _ => none }
def FnExactSimplifyWrongFalsely : Prop := fnExactSimplifyRow.holds Tryz.pinned (OpenSpec.ofChange fnExactSimplifyWrong)

/- THE SECOND FORM. 'bulk': how many values and letters a reading holds, each counted each time it is reached (what is shared counts as often as it is met; a slice's spare places count too). A statement '..UptoSaid' is the law's where the arguments, and the package variables that the reading takes, are together of bulk at most 1048576: NARROWER than '..Said'. Prove '..Said' where nothing that the law and all that it calls make is longer than what came in: it says more and counts as full. Else prove '..UptoSaid'. A law counts once. -/
mutual
def uptoBulk {H : Type} : DataW H → Nat
  | .lit (.string bytes) => bytes.length + 1
  | .lit _ => 1
  | .nil => 1
  | .ptr d => uptoBulk d + 1
  | .slice elems spare => uptoBulkAll elems + uptoBulkAll spare + 1
  | .agg parts => uptoBulkAll parts + 1
  | .iface _ d => uptoBulk d + 1
  | .map entries => uptoBulkEntries entries + 1
  | .held _ => 1
def uptoBulkAll {H : Type} : List (DataW H) → Nat
  | [] => 0
  | d :: r => uptoBulk d + uptoBulkAll r
def uptoBulkEntries {H : Type} : List (Lit × DataW H) → Nat
  | [] => 0
  | x :: r => uptoBulkEntry x + uptoBulkEntries r
def uptoBulkEntry {H : Type} : Lit × DataW H → Nat
  | (.string bytes, d) => bytes.length + uptoBulk d + 1
  | (_, d) => uptoBulk d + 1
 end
def uptoSmall : (H : Type) → List (DataW H) → Bool := fun _ ds => decide (uptoBulkAll ds ≤ 1048576)
def OpenSpec.upto (s : _root_.Go.ChangeSpec) : _root_.Go.OpenSpec := { _root_.Go.OpenSpec.ofChange s with cond := some uptoSmall }

/-- 'laws.FnExactStep', WHERE WHAT IT READS IS OF BULK AT MOST 1048576: true; the input reads as it did. -/
def fnExactStepUptoRow : OpenClaim := { program := "ytnpjpplbkoammaagreatdoor", sum := "b5fe02f96cb1f0d0fb0b47e26af1379bcb1216d2e9399a37fced251419375563", func := "loop.example/g00589/laws.FnExactStep", spec := "fnExactStep", unfollowed := true, recurses := true, named := ["internal/strconv.uint64pow10", "math/bits.deBruijn32tab", "math/bits.deBruijn64tab"], loops := true, apart := false, laid := [("math/bits.deBruijn32tab", laid_math_bits_deBruijn32tab), ("math/bits.deBruijn64tab", laid_math_bits_deBruijn64tab), ("internal/strconv.uint64pow10", laid_internal_strconv_uint64pow10)], narrowed := true }
def FnExactStepUptoSaid : Prop := fnExactStepUptoRow.holds Tryz.pinned (OpenSpec.upto fnExactStepSpec)

/-- 'laws.FnExactTermAfter', WHERE WHAT IT READS IS OF BULK AT MOST 1048576: true; the input reads as it did. -/
def fnExactTermAfterUptoRow : OpenClaim := { program := "ytnpjpplbkoammaagreatdoor", sum := "b5fe02f96cb1f0d0fb0b47e26af1379bcb1216d2e9399a37fced251419375563", func := "loop.example/g00589/laws.FnExactTermAfter", spec := "fnExactTermAfter", unfollowed := true, recurses := true, named := ["internal/strconv.uint64pow10", "math/bits.deBruijn32tab", "math/bits.deBruijn64tab"], loops := true, apart := false, laid := [("math/bits.deBruijn32tab", laid_math_bits_deBruijn32tab), ("math/bits.deBruijn64tab", laid_math_bits_deBruijn64tab), ("internal/strconv.uint64pow10", laid_internal_strconv_uint64pow10)], narrowed := true }
def FnExactTermAfterUptoSaid : Prop := fnExactTermAfterUptoRow.holds Tryz.pinned (OpenSpec.upto fnExactTermAfterSpec)

/-- 'laws.FnExactTraceOf', WHERE WHAT IT READS IS OF BULK AT MOST 1048576: true; the input reads as it did. -/
def fnExactTraceOfUptoRow : OpenClaim := { program := "ytnpjpplbkoammaagreatdoor", sum := "b5fe02f96cb1f0d0fb0b47e26af1379bcb1216d2e9399a37fced251419375563", func := "loop.example/g00589/laws.FnExactTraceOf", spec := "fnExactTraceOf", unfollowed := true, recurses := true, named := ["internal/strconv.uint64pow10", "math/bits.deBruijn32tab", "math/bits.deBruijn64tab"], loops := true, apart := false, laid := [("math/bits.deBruijn32tab", laid_math_bits_deBruijn32tab), ("math/bits.deBruijn64tab", laid_math_bits_deBruijn64tab), ("internal/strconv.uint64pow10", laid_internal_strconv_uint64pow10)], narrowed := true }
def FnExactTraceOfUptoSaid : Prop := fnExactTraceOfUptoRow.holds Tryz.pinned (OpenSpec.upto fnExactTraceOfSpec)

/-- 'laws.FnExactRunTerm', WHERE WHAT IT READS IS OF BULK AT MOST 1048576: true; the input reads as it did. -/
def fnExactRunTermUptoRow : OpenClaim := { program := "ytnpjpplbkoammaagreatdoor", sum := "b5fe02f96cb1f0d0fb0b47e26af1379bcb1216d2e9399a37fced251419375563", func := "loop.example/g00589/laws.FnExactRunTerm", spec := "fnExactRunTerm", unfollowed := true, recurses := true, named := ["internal/strconv.uint64pow10", "math/bits.deBruijn32tab", "math/bits.deBruijn64tab"], loops := true, apart := false, laid := [("math/bits.deBruijn32tab", laid_math_bits_deBruijn32tab), ("math/bits.deBruijn64tab", laid_math_bits_deBruijn64tab), ("internal/strconv.uint64pow10", laid_internal_strconv_uint64pow10)], narrowed := true }
def FnExactRunTermUptoSaid : Prop := fnExactRunTermUptoRow.holds Tryz.pinned (OpenSpec.upto fnExactRunTermSpec)

/-- 'laws.FnExactBigStep', WHERE WHAT IT READS IS OF BULK AT MOST 1048576: true; the input reads as it did. -/
def fnExactBigStepUptoRow : OpenClaim := { program := "ytnpjpplbkoammaagreatdoor", sum := "b5fe02f96cb1f0d0fb0b47e26af1379bcb1216d2e9399a37fced251419375563", func := "loop.example/g00589/laws.FnExactBigStep", spec := "fnExactBigStep", unfollowed := true, recurses := true, named := ["internal/strconv.uint64pow10", "math/bits.deBruijn32tab", "math/bits.deBruijn64tab"], loops := true, apart := false, laid := [("math/bits.deBruijn32tab", laid_math_bits_deBruijn32tab), ("math/bits.deBruijn64tab", laid_math_bits_deBruijn64tab), ("internal/strconv.uint64pow10", laid_internal_strconv_uint64pow10)], narrowed := true }
def FnExactBigStepUptoSaid : Prop := fnExactBigStepUptoRow.holds Tryz.pinned (OpenSpec.upto fnExactBigStepSpec)

/-- 'laws.FnExactSimplify', WHERE WHAT IT READS IS OF BULK AT MOST 1048576: true; the input reads as it did. -/
def fnExactSimplifyUptoRow : OpenClaim := { program := "ytnpjpplbkoammaagreatdoor", sum := "b5fe02f96cb1f0d0fb0b47e26af1379bcb1216d2e9399a37fced251419375563", func := "loop.example/g00589/laws.FnExactSimplify", spec := "fnExactSimplify", unfollowed := true, recurses := true, named := ["internal/strconv.uint64pow10", "math/bits.deBruijn32tab", "math/bits.deBruijn64tab"], loops := true, apart := false, laid := [("math/bits.deBruijn32tab", laid_math_bits_deBruijn32tab), ("math/bits.deBruijn64tab", laid_math_bits_deBruijn64tab), ("internal/strconv.uint64pow10", laid_internal_strconv_uint64pow10)], narrowed := true }
def FnExactSimplifyUptoSaid : Prop := fnExactSimplifyUptoRow.holds Tryz.pinned (OpenSpec.upto fnExactSimplifySpec)

end Rows
end Go.Proofs.YtnpjpplbkoammaaGreatDoor
