/-
  DERIVED. GIVEN WITH THE SEED: THE CARDS: each row of YtmfjakahanbnlaaGreatDoorRows.lean that lists a variable, with what it lists TIED to the program's text (the seventh form; the later family's looks); each row that meets fmt, with fmt's text TOLD by the authors' own Lean function (tested against real Go, not proved from fmt's source: count such statements apart). THE CARD IS WHAT COUNTS. Prove the row's statement (the work); the ties are given (YtmfjakahanbnlaaGreatDoorTie.lean); close each card by the builder's one call (the guide's Derived/Test/ToyasCard.lean, 'card_holds'). Laid BY PROGRAM, IN A SANDBOX (cutbox-door.mjs). By AI agents, Wed Nov 11 2026. No macro, syntax, notation, axiom, sorry.
-/
import Derived.Test.YtmfjakahanbnlaaGreatDoorRows
import GoSem.ClaimSeven
namespace Go.Proofs.YtmfjakahanbnlaaGreatDoor
namespace Rows

/-- THE TIED CARD OF 'laws.FnExactSameProgram'. -/
def fnExactSameProgramCard : Claim7 := { stood := { row := fnExactSameProgramRow, standIns := [], harness := (true, "14c4955de1bae59e8ba5f3d3231ac08beac8b6811745c80105ed27921b62e4fb"), looks := true }, kinds := [], alts := [], laidByText := true, laidKinds := [.data, .data, .data], laidTests := true, laidLooks := .later }
def FnExactSameProgramCardSaid : Prop := Claim7.holds Tryz.pinned (.plain (OpenSpec.ofChange fnExactSameProgramSpec)) fnExactSameProgramCard

/-- THE TIED CARD OF 'laws.FnExactHashTerm'. -/
def fnExactHashTermCard : Claim7 := { stood := { row := fnExactHashTermRow, standIns := [], harness := (true, "14c4955de1bae59e8ba5f3d3231ac08beac8b6811745c80105ed27921b62e4fb"), looks := true }, kinds := [], alts := [], laidByText := true, laidKinds := [.data, .data, .data], laidTests := true, laidLooks := .later }
def FnExactHashTermCardSaid : Prop := Claim7.holds Tryz.pinned (.plain (OpenSpec.ofChange fnExactHashTermSpec)) fnExactHashTermCard

/-- THE TIED CARD OF 'laws.FnExactIsCache'. -/
def fnExactIsCacheCard : Claim7 := { stood := { row := fnExactIsCacheRow, standIns := [], harness := (true, "14c4955de1bae59e8ba5f3d3231ac08beac8b6811745c80105ed27921b62e4fb"), looks := true }, kinds := [], alts := [], laidByText := true, laidKinds := [.data, .data, .data], laidTests := true, laidLooks := .later }
def FnExactIsCacheCardSaid : Prop := Claim7.holds Tryz.pinned (.plain (OpenSpec.ofChange fnExactIsCacheSpec)) fnExactIsCacheCard

/-- THE TIED CARD OF 'laws.FnExactCompileCached'. -/
def fnExactCompileCachedCard : Claim7 := { stood := { row := fnExactCompileCachedRow, standIns := [], harness := (true, "14c4955de1bae59e8ba5f3d3231ac08beac8b6811745c80105ed27921b62e4fb"), looks := true }, kinds := [], alts := [], laidByText := true, laidKinds := [.data, .data, .data], laidTests := true, laidLooks := .later }
def FnExactCompileCachedCardSaid : Prop := Claim7.holds Tryz.pinned (.plain (OpenSpec.ofChange fnExactCompileCachedSpec)) fnExactCompileCachedCard

/-- THE TIED CARD OF 'laws.FnTraced'. -/
def fnTracedCard : Claim7 := { stood := { row := fnTracedRow, standIns := [], harness := (true, "14c4955de1bae59e8ba5f3d3231ac08beac8b6811745c80105ed27921b62e4fb"), looks := true }, kinds := [], alts := [], laidByText := true, laidKinds := [.data, .data, .data], laidTests := true, laidLooks := .later }
def FnTracedCardSaid : Prop := Claim7.holds Tryz.pinned (.plain (OpenSpec.ofChange fnTracedSpec)) fnTracedCard

/-- THE SECOND FORM's CARD OF 'laws.FnExactSameProgram'. -/
def fnExactSameProgramUptoCard : Claim7 := { stood := { row := fnExactSameProgramUptoRow, standIns := [], harness := (true, "14c4955de1bae59e8ba5f3d3231ac08beac8b6811745c80105ed27921b62e4fb"), looks := true }, kinds := [], alts := [], laidByText := true, laidKinds := [.data, .data, .data], laidTests := true, laidLooks := .later }
def FnExactSameProgramUptoCardSaid : Prop := Claim7.holds Tryz.pinned (.plain (OpenSpec.upto fnExactSameProgramSpec)) fnExactSameProgramUptoCard

/-- THE SECOND FORM's CARD OF 'laws.FnExactHashTerm'. -/
def fnExactHashTermUptoCard : Claim7 := { stood := { row := fnExactHashTermUptoRow, standIns := [], harness := (true, "14c4955de1bae59e8ba5f3d3231ac08beac8b6811745c80105ed27921b62e4fb"), looks := true }, kinds := [], alts := [], laidByText := true, laidKinds := [.data, .data, .data], laidTests := true, laidLooks := .later }
def FnExactHashTermUptoCardSaid : Prop := Claim7.holds Tryz.pinned (.plain (OpenSpec.upto fnExactHashTermSpec)) fnExactHashTermUptoCard

/-- THE SECOND FORM's CARD OF 'laws.FnExactIsCache'. -/
def fnExactIsCacheUptoCard : Claim7 := { stood := { row := fnExactIsCacheUptoRow, standIns := [], harness := (true, "14c4955de1bae59e8ba5f3d3231ac08beac8b6811745c80105ed27921b62e4fb"), looks := true }, kinds := [], alts := [], laidByText := true, laidKinds := [.data, .data, .data], laidTests := true, laidLooks := .later }
def FnExactIsCacheUptoCardSaid : Prop := Claim7.holds Tryz.pinned (.plain (OpenSpec.upto fnExactIsCacheSpec)) fnExactIsCacheUptoCard

/-- THE SECOND FORM's CARD OF 'laws.FnExactCompileCached'. -/
def fnExactCompileCachedUptoCard : Claim7 := { stood := { row := fnExactCompileCachedUptoRow, standIns := [], harness := (true, "14c4955de1bae59e8ba5f3d3231ac08beac8b6811745c80105ed27921b62e4fb"), looks := true }, kinds := [], alts := [], laidByText := true, laidKinds := [.data, .data, .data], laidTests := true, laidLooks := .later }
def FnExactCompileCachedUptoCardSaid : Prop := Claim7.holds Tryz.pinned (.plain (OpenSpec.upto fnExactCompileCachedSpec)) fnExactCompileCachedUptoCard

/-- THE SECOND FORM's CARD OF 'laws.FnTraced'. -/
def fnTracedUptoCard : Claim7 := { stood := { row := fnTracedUptoRow, standIns := [], harness := (true, "14c4955de1bae59e8ba5f3d3231ac08beac8b6811745c80105ed27921b62e4fb"), looks := true }, kinds := [], alts := [], laidByText := true, laidKinds := [.data, .data, .data], laidTests := true, laidLooks := .later }
def FnTracedUptoCardSaid : Prop := Claim7.holds Tryz.pinned (.plain (OpenSpec.upto fnTracedSpec)) fnTracedUptoCard
end Rows
end Go.Proofs.YtmfjakahanbnlaaGreatDoor
