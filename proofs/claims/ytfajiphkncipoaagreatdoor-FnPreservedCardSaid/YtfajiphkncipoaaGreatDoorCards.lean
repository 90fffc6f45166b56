/-
  DERIVED. GIVEN WITH THE SEED: THE CARDS: each row of YtfajiphkncipoaaGreatDoorRows.lean that lists a variable, with what it lists TIED to the program's text (the seventh form; the later family's looks); each row that meets fmt, with fmt's text TOLD by the authors' own Lean function (tested against real Go, not proved from fmt's source: count such statements apart). THE CARD IS WHAT COUNTS. Prove the row's statement (the work); the ties are given (YtfajiphkncipoaaGreatDoorTie.lean); close each card by the builder's one call (the guide's Derived/Test/ToyasCard.lean, 'card_holds'). Laid BY PROGRAM, IN A SANDBOX (cutbox-door.mjs). By AI agents, Wed Nov 11 2026. No macro, syntax, notation, axiom, sorry.
-/
import Derived.Test.YtfajiphkncipoaaGreatDoorRows
import GoSem.ClaimSeven
namespace Go.Proofs.YtfajiphkncipoaaGreatDoor
namespace Rows

/-- THE TIED CARD OF 'laws.FnProgress'. -/
def fnProgressCard : Claim7 := { stood := { row := fnProgressRow, standIns := [], harness := (true, "983082663964f1d7871755ea654a9b74550d4c9ad1d41fdf08cc543c6df15f7c"), looks := false }, kinds := [], alts := [], laidByText := true, laidKinds := [.data, .data, .data], laidTests := true, laidLooks := .later }
def FnProgressCardSaid : Prop := Claim7.holds Tryz.pinned (.plain (OpenSpec.ofChange fnProgressSpec)) fnProgressCard

/-- THE TIED CARD OF 'laws.FnPreserved'. -/
def fnPreservedCard : Claim7 := { stood := { row := fnPreservedRow, standIns := [], harness := (true, "983082663964f1d7871755ea654a9b74550d4c9ad1d41fdf08cc543c6df15f7c"), looks := false }, kinds := [], alts := [], laidByText := true, laidKinds := [.data, .data, .data], laidTests := true, laidLooks := .later }
def FnPreservedCardSaid : Prop := Claim7.holds Tryz.pinned (.plain (OpenSpec.ofChange fnPreservedSpec)) fnPreservedCard

/-- THE TIED CARD OF 'laws.FnHygiene'. -/
def fnHygieneCard : Claim7 := { stood := { row := fnHygieneRow, standIns := [], harness := (true, "983082663964f1d7871755ea654a9b74550d4c9ad1d41fdf08cc543c6df15f7c"), looks := false }, kinds := [], alts := [], laidByText := true, laidKinds := [.data, .data, .data], laidTests := true, laidLooks := .later }
def FnHygieneCardSaid : Prop := Claim7.holds Tryz.pinned (.plain (OpenSpec.ofChange fnHygieneSpec)) fnHygieneCard

/-- THE TIED CARD OF 'laws.FnBigStep'. -/
def fnBigStepCard : Claim7 := { stood := { row := fnBigStepRow, standIns := [], harness := (true, "983082663964f1d7871755ea654a9b74550d4c9ad1d41fdf08cc543c6df15f7c"), looks := false }, kinds := [], alts := [], laidByText := true, laidKinds := [.data, .data, .data], laidTests := true, laidLooks := .later }
def FnBigStepCardSaid : Prop := Claim7.holds Tryz.pinned (.plain (OpenSpec.ofChange fnBigStepSpec)) fnBigStepCard

/-- THE SECOND FORM's CARD OF 'laws.FnProgress'. -/
def fnProgressUptoCard : Claim7 := { stood := { row := fnProgressUptoRow, standIns := [], harness := (true, "983082663964f1d7871755ea654a9b74550d4c9ad1d41fdf08cc543c6df15f7c"), looks := false }, kinds := [], alts := [], laidByText := true, laidKinds := [.data, .data, .data], laidTests := true, laidLooks := .later }
def FnProgressUptoCardSaid : Prop := Claim7.holds Tryz.pinned (.plain (OpenSpec.upto fnProgressSpec)) fnProgressUptoCard

/-- THE SECOND FORM's CARD OF 'laws.FnPreserved'. -/
def fnPreservedUptoCard : Claim7 := { stood := { row := fnPreservedUptoRow, standIns := [], harness := (true, "983082663964f1d7871755ea654a9b74550d4c9ad1d41fdf08cc543c6df15f7c"), looks := false }, kinds := [], alts := [], laidByText := true, laidKinds := [.data, .data, .data], laidTests := true, laidLooks := .later }
def FnPreservedUptoCardSaid : Prop := Claim7.holds Tryz.pinned (.plain (OpenSpec.upto fnPreservedSpec)) fnPreservedUptoCard

/-- THE SECOND FORM's CARD OF 'laws.FnHygiene'. -/
def fnHygieneUptoCard : Claim7 := { stood := { row := fnHygieneUptoRow, standIns := [], harness := (true, "983082663964f1d7871755ea654a9b74550d4c9ad1d41fdf08cc543c6df15f7c"), looks := false }, kinds := [], alts := [], laidByText := true, laidKinds := [.data, .data, .data], laidTests := true, laidLooks := .later }
def FnHygieneUptoCardSaid : Prop := Claim7.holds Tryz.pinned (.plain (OpenSpec.upto fnHygieneSpec)) fnHygieneUptoCard

/-- THE SECOND FORM's CARD OF 'laws.FnBigStep'. -/
def fnBigStepUptoCard : Claim7 := { stood := { row := fnBigStepUptoRow, standIns := [], harness := (true, "983082663964f1d7871755ea654a9b74550d4c9ad1d41fdf08cc543c6df15f7c"), looks := false }, kinds := [], alts := [], laidByText := true, laidKinds := [.data, .data, .data], laidTests := true, laidLooks := .later }
def FnBigStepUptoCardSaid : Prop := Claim7.holds Tryz.pinned (.plain (OpenSpec.upto fnBigStepSpec)) fnBigStepUptoCard
end Rows
end Go.Proofs.YtfajiphkncipoaaGreatDoor
