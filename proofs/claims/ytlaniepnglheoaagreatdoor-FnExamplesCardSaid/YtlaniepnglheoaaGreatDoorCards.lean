/-
  DERIVED. GIVEN WITH THE SEED: THE CARDS: each row of YtlaniepnglheoaaGreatDoorRows.lean that lists a variable, with what it lists TIED to the program's text (the seventh form; the later family's looks); each row that meets fmt, with fmt's text TOLD by the authors' own Lean function (tested against real Go, not proved from fmt's source: count such statements apart). THE CARD IS WHAT COUNTS. Prove the row's statement (the work); the ties are given (YtlaniepnglheoaaGreatDoorTie.lean); close each card by the builder's one call (the guide's Derived/Test/ToyasCard.lean, 'card_holds'). Laid BY PROGRAM, IN A SANDBOX (cutbox-door.mjs). By AI agents, Wed Nov 11 2026. No macro, syntax, notation, axiom, sorry.
-/
import Derived.Test.YtlaniepnglheoaaGreatDoorRows
import GoSem.ClaimSeven
namespace Go.Proofs.YtlaniepnglheoaaGreatDoor
namespace Rows

/-- THE TIED CARD OF 'laws.FnExactRunText'. -/
def fnExactRunTextCard : Claim7 := { stood := { row := fnExactRunTextRow, standIns := [], harness := (true, "e60d9e12916e8533a363a29e61f3fbc32779171865cc082376aa9c31e98ff46f"), looks := true }, kinds := [], alts := [], laidByText := true, laidKinds := [.data, .data, .data, .data, .sentinel, .sentinel, .listed, .data, .pinned], laidTests := true, laidLooks := .later }
def FnExactRunTextCardSaid : Prop := Claim7.holds Tryz.pinned (.plain (OpenSpec.ofChange fnExactRunTextSpec)) fnExactRunTextCard

/-- THE TIED CARD OF 'laws.FnExactRunExample'. -/
def fnExactRunExampleCard : Claim7 := { stood := { row := fnExactRunExampleRow, standIns := [], harness := (true, "e60d9e12916e8533a363a29e61f3fbc32779171865cc082376aa9c31e98ff46f"), looks := true }, kinds := [], alts := [], laidByText := true, laidKinds := [.data, .data, .data, .data, .sentinel, .sentinel, .listed, .data, .pinned], laidTests := true, laidLooks := .later }
def FnExactRunExampleCardSaid : Prop := Claim7.holds Tryz.pinned (.plain (OpenSpec.ofChange fnExactRunExampleSpec)) fnExactRunExampleCard

/-- THE TIED CARD OF 'laws.FnExamples'. -/
def fnExamplesCard : Claim7 := { stood := { row := fnExamplesRow, standIns := [], harness := (true, "e60d9e12916e8533a363a29e61f3fbc32779171865cc082376aa9c31e98ff46f"), looks := true }, kinds := [], alts := [], laidByText := true, laidKinds := [.data, .data, .data, .data, .sentinel, .sentinel, .listed, .data, .pinned], laidTests := true, laidLooks := .later }
def FnExamplesCardSaid : Prop := Claim7.holds Tryz.pinned (.plain (OpenSpec.ofChange fnExamplesSpec)) fnExamplesCard

/-- THE SECOND FORM's CARD OF 'laws.FnExactRunText'. -/
def fnExactRunTextUptoCard : Claim7 := { stood := { row := fnExactRunTextUptoRow, standIns := [], harness := (true, "e60d9e12916e8533a363a29e61f3fbc32779171865cc082376aa9c31e98ff46f"), looks := true }, kinds := [], alts := [], laidByText := true, laidKinds := [.data, .data, .data, .data, .sentinel, .sentinel, .listed, .data, .pinned], laidTests := true, laidLooks := .later }
def FnExactRunTextUptoCardSaid : Prop := Claim7.holds Tryz.pinned (.plain (OpenSpec.upto fnExactRunTextSpec)) fnExactRunTextUptoCard

/-- THE SECOND FORM's CARD OF 'laws.FnExactRunExample'. -/
def fnExactRunExampleUptoCard : Claim7 := { stood := { row := fnExactRunExampleUptoRow, standIns := [], harness := (true, "e60d9e12916e8533a363a29e61f3fbc32779171865cc082376aa9c31e98ff46f"), looks := true }, kinds := [], alts := [], laidByText := true, laidKinds := [.data, .data, .data, .data, .sentinel, .sentinel, .listed, .data, .pinned], laidTests := true, laidLooks := .later }
def FnExactRunExampleUptoCardSaid : Prop := Claim7.holds Tryz.pinned (.plain (OpenSpec.upto fnExactRunExampleSpec)) fnExactRunExampleUptoCard

/-- THE SECOND FORM's CARD OF 'laws.FnExamples'. -/
def fnExamplesUptoCard : Claim7 := { stood := { row := fnExamplesUptoRow, standIns := [], harness := (true, "e60d9e12916e8533a363a29e61f3fbc32779171865cc082376aa9c31e98ff46f"), looks := true }, kinds := [], alts := [], laidByText := true, laidKinds := [.data, .data, .data, .data, .sentinel, .sentinel, .listed, .data, .pinned], laidTests := true, laidLooks := .later }
def FnExamplesUptoCardSaid : Prop := Claim7.holds Tryz.pinned (.plain (OpenSpec.upto fnExamplesSpec)) fnExamplesUptoCard
end Rows
end Go.Proofs.YtlaniepnglheoaaGreatDoor
