/-
  DERIVED. GIVEN WITH THE SEED: THE CARDS: each row of YtldbmnklnpfpfaaGreatDoorRows.lean that lists a variable, with what it lists TIED to the program's text (the seventh form; the later family's looks); each row that meets fmt, with fmt's text TOLD by the authors' own Lean function (tested against real Go, not proved from fmt's source: count such statements apart). THE CARD IS WHAT COUNTS. Prove the row's statement (the work); the ties are given (YtldbmnklnpfpfaaGreatDoorTie.lean); close each card by the builder's one call (the guide's Derived/Test/ToyasCard.lean, 'card_holds'). Laid BY PROGRAM, IN A SANDBOX (cutbox-door.mjs). By AI agents, Wed Nov 11 2026. No macro, syntax, notation, axiom, sorry.
-/
import Derived.Test.YtldbmnklnpfpfaaGreatDoorRows
import GoSem.ClaimSeven
namespace Go.Proofs.YtldbmnklnpfpfaaGreatDoor
namespace Rows

/-- THE TIED CARD OF 'laws.FnExactParseTerm'. -/
def fnExactParseTermCard : Claim7 := { stood := { row := fnExactParseTermRow, standIns := [], harness := (true, "e5f3e6eb1804b4ca22c0f324a8f411e2385a3c7690b3aefc6aeea28e866527fd"), looks := true }, kinds := [], alts := [], laidByText := true, laidKinds := [.data, .data, .data, .data, .sentinel, .sentinel, .listed, .data, .pinned], laidTests := true, laidLooks := .later }
def FnExactParseTermCardSaid : Prop := Claim7.holds Tryz.pinned (.plain (OpenSpec.ofChange fnExactParseTermSpec)) fnExactParseTermCard

/-- THE TIED CARD OF 'laws.FnExactPowerTerm'. -/
def fnExactPowerTermCard : Claim7 := { stood := { row := fnExactPowerTermRow, standIns := [], harness := (true, "e5f3e6eb1804b4ca22c0f324a8f411e2385a3c7690b3aefc6aeea28e866527fd"), looks := true }, kinds := [], alts := [], laidByText := true, laidKinds := [.data, .data, .data, .data, .sentinel, .sentinel, .listed, .data, .pinned], laidTests := true, laidLooks := .later }
def FnExactPowerTermCardSaid : Prop := Claim7.holds Tryz.pinned (.plain (OpenSpec.ofChange fnExactPowerTermSpec)) fnExactPowerTermCard

/-- THE SECOND FORM's CARD OF 'laws.FnExactParseTerm'. -/
def fnExactParseTermUptoCard : Claim7 := { stood := { row := fnExactParseTermUptoRow, standIns := [], harness := (true, "e5f3e6eb1804b4ca22c0f324a8f411e2385a3c7690b3aefc6aeea28e866527fd"), looks := true }, kinds := [], alts := [], laidByText := true, laidKinds := [.data, .data, .data, .data, .sentinel, .sentinel, .listed, .data, .pinned], laidTests := true, laidLooks := .later }
def FnExactParseTermUptoCardSaid : Prop := Claim7.holds Tryz.pinned (.plain (OpenSpec.upto fnExactParseTermSpec)) fnExactParseTermUptoCard

/-- THE SECOND FORM's CARD OF 'laws.FnExactPowerTerm'. -/
def fnExactPowerTermUptoCard : Claim7 := { stood := { row := fnExactPowerTermUptoRow, standIns := [], harness := (true, "e5f3e6eb1804b4ca22c0f324a8f411e2385a3c7690b3aefc6aeea28e866527fd"), looks := true }, kinds := [], alts := [], laidByText := true, laidKinds := [.data, .data, .data, .data, .sentinel, .sentinel, .listed, .data, .pinned], laidTests := true, laidLooks := .later }
def FnExactPowerTermUptoCardSaid : Prop := Claim7.holds Tryz.pinned (.plain (OpenSpec.upto fnExactPowerTermSpec)) fnExactPowerTermUptoCard
end Rows
end Go.Proofs.YtldbmnklnpfpfaaGreatDoor
