/-
  DERIVED. GIVEN WITH THE SEED: THE CARDS: each row of YtnpjpplbkoammaaGreatDoorRows.lean that lists a variable, with what it lists TIED to the program's text (the seventh form; the later family's looks); each row that meets fmt, with fmt's text TOLD by the authors' own Lean function (tested against real Go, not proved from fmt's source: count such statements apart). THE CARD IS WHAT COUNTS. Prove the row's statement (the work); the ties are given (YtnpjpplbkoammaaGreatDoorTie.lean); close each card by the builder's one call (the guide's Derived/Test/ToyasCard.lean, 'card_holds'). Laid BY PROGRAM, IN A SANDBOX (cutbox-door.mjs). By AI agents, Wed Nov 11 2026. No macro, syntax, notation, axiom, sorry.
-/
import Derived.Test.YtnpjpplbkoammaaGreatDoorRows
import GoSem.ClaimSeven
namespace Go.Proofs.YtnpjpplbkoammaaGreatDoor
namespace Rows

/-- THE TIED CARD OF 'laws.FnExactStep'. -/
def fnExactStepCard : Claim7 := { stood := { row := fnExactStepRow, standIns := [], harness := (true, "20817437e30c4c1322e7d38fe64f560557986ca28e3917698884b986304dbb75"), looks := false }, kinds := [], alts := [], laidByText := true, laidKinds := [.data, .data, .data], laidTests := true, laidLooks := .later }
def FnExactStepCardSaid : Prop := Claim7.holds Tryz.pinned (.plain (OpenSpec.ofChange fnExactStepSpec)) fnExactStepCard

/-- THE TIED CARD OF 'laws.FnExactTermAfter'. -/
def fnExactTermAfterCard : Claim7 := { stood := { row := fnExactTermAfterRow, standIns := [], harness := (true, "20817437e30c4c1322e7d38fe64f560557986ca28e3917698884b986304dbb75"), looks := false }, kinds := [], alts := [], laidByText := true, laidKinds := [.data, .data, .data], laidTests := true, laidLooks := .later }
def FnExactTermAfterCardSaid : Prop := Claim7.holds Tryz.pinned (.plain (OpenSpec.ofChange fnExactTermAfterSpec)) fnExactTermAfterCard

/-- THE TIED CARD OF 'laws.FnExactTraceOf'. -/
def fnExactTraceOfCard : Claim7 := { stood := { row := fnExactTraceOfRow, standIns := [], harness := (true, "20817437e30c4c1322e7d38fe64f560557986ca28e3917698884b986304dbb75"), looks := false }, kinds := [], alts := [], laidByText := true, laidKinds := [.data, .data, .data], laidTests := true, laidLooks := .later }
def FnExactTraceOfCardSaid : Prop := Claim7.holds Tryz.pinned (.plain (OpenSpec.ofChange fnExactTraceOfSpec)) fnExactTraceOfCard

/-- THE TIED CARD OF 'laws.FnExactRunTerm'. -/
def fnExactRunTermCard : Claim7 := { stood := { row := fnExactRunTermRow, standIns := [], harness := (true, "20817437e30c4c1322e7d38fe64f560557986ca28e3917698884b986304dbb75"), looks := false }, kinds := [], alts := [], laidByText := true, laidKinds := [.data, .data, .data], laidTests := true, laidLooks := .later }
def FnExactRunTermCardSaid : Prop := Claim7.holds Tryz.pinned (.plain (OpenSpec.ofChange fnExactRunTermSpec)) fnExactRunTermCard

/-- THE TIED CARD OF 'laws.FnExactBigStep'. -/
def fnExactBigStepCard : Claim7 := { stood := { row := fnExactBigStepRow, standIns := [], harness := (true, "20817437e30c4c1322e7d38fe64f560557986ca28e3917698884b986304dbb75"), looks := false }, kinds := [], alts := [], laidByText := true, laidKinds := [.data, .data, .data], laidTests := true, laidLooks := .later }
def FnExactBigStepCardSaid : Prop := Claim7.holds Tryz.pinned (.plain (OpenSpec.ofChange fnExactBigStepSpec)) fnExactBigStepCard

/-- THE TIED CARD OF 'laws.FnExactSimplify'. -/
def fnExactSimplifyCard : Claim7 := { stood := { row := fnExactSimplifyRow, standIns := [], harness := (true, "20817437e30c4c1322e7d38fe64f560557986ca28e3917698884b986304dbb75"), looks := false }, kinds := [], alts := [], laidByText := true, laidKinds := [.data, .data, .data], laidTests := true, laidLooks := .later }
def FnExactSimplifyCardSaid : Prop := Claim7.holds Tryz.pinned (.plain (OpenSpec.ofChange fnExactSimplifySpec)) fnExactSimplifyCard

/-- THE SECOND FORM's CARD OF 'laws.FnExactStep'. -/
def fnExactStepUptoCard : Claim7 := { stood := { row := fnExactStepUptoRow, standIns := [], harness := (true, "20817437e30c4c1322e7d38fe64f560557986ca28e3917698884b986304dbb75"), looks := false }, kinds := [], alts := [], laidByText := true, laidKinds := [.data, .data, .data], laidTests := true, laidLooks := .later }
def FnExactStepUptoCardSaid : Prop := Claim7.holds Tryz.pinned (.plain (OpenSpec.upto fnExactStepSpec)) fnExactStepUptoCard

/-- THE SECOND FORM's CARD OF 'laws.FnExactTermAfter'. -/
def fnExactTermAfterUptoCard : Claim7 := { stood := { row := fnExactTermAfterUptoRow, standIns := [], harness := (true, "20817437e30c4c1322e7d38fe64f560557986ca28e3917698884b986304dbb75"), looks := false }, kinds := [], alts := [], laidByText := true, laidKinds := [.data, .data, .data], laidTests := true, laidLooks := .later }
def FnExactTermAfterUptoCardSaid : Prop := Claim7.holds Tryz.pinned (.plain (OpenSpec.upto fnExactTermAfterSpec)) fnExactTermAfterUptoCard

/-- THE SECOND FORM's CARD OF 'laws.FnExactTraceOf'. -/
def fnExactTraceOfUptoCard : Claim7 := { stood := { row := fnExactTraceOfUptoRow, standIns := [], harness := (true, "20817437e30c4c1322e7d38fe64f560557986ca28e3917698884b986304dbb75"), looks := false }, kinds := [], alts := [], laidByText := true, laidKinds := [.data, .data, .data], laidTests := true, laidLooks := .later }
def FnExactTraceOfUptoCardSaid : Prop := Claim7.holds Tryz.pinned (.plain (OpenSpec.upto fnExactTraceOfSpec)) fnExactTraceOfUptoCard

/-- THE SECOND FORM's CARD OF 'laws.FnExactRunTerm'. -/
def fnExactRunTermUptoCard : Claim7 := { stood := { row := fnExactRunTermUptoRow, standIns := [], harness := (true, "20817437e30c4c1322e7d38fe64f560557986ca28e3917698884b986304dbb75"), looks := false }, kinds := [], alts := [], laidByText := true, laidKinds := [.data, .data, .data], laidTests := true, laidLooks := .later }
def FnExactRunTermUptoCardSaid : Prop := Claim7.holds Tryz.pinned (.plain (OpenSpec.upto fnExactRunTermSpec)) fnExactRunTermUptoCard

/-- THE SECOND FORM's CARD OF 'laws.FnExactBigStep'. -/
def fnExactBigStepUptoCard : Claim7 := { stood := { row := fnExactBigStepUptoRow, standIns := [], harness := (true, "20817437e30c4c1322e7d38fe64f560557986ca28e3917698884b986304dbb75"), looks := false }, kinds := [], alts := [], laidByText := true, laidKinds := [.data, .data, .data], laidTests := true, laidLooks := .later }
def FnExactBigStepUptoCardSaid : Prop := Claim7.holds Tryz.pinned (.plain (OpenSpec.upto fnExactBigStepSpec)) fnExactBigStepUptoCard

/-- THE SECOND FORM's CARD OF 'laws.FnExactSimplify'. -/
def fnExactSimplifyUptoCard : Claim7 := { stood := { row := fnExactSimplifyUptoRow, standIns := [], harness := (true, "20817437e30c4c1322e7d38fe64f560557986ca28e3917698884b986304dbb75"), looks := false }, kinds := [], alts := [], laidByText := true, laidKinds := [.data, .data, .data], laidTests := true, laidLooks := .later }
def FnExactSimplifyUptoCardSaid : Prop := Claim7.holds Tryz.pinned (.plain (OpenSpec.upto fnExactSimplifySpec)) fnExactSimplifyUptoCard
end Rows
end Go.Proofs.YtnpjpplbkoammaaGreatDoor
