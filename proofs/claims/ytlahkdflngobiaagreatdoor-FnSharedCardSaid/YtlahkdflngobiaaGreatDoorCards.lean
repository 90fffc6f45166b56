/-
  DERIVED. GIVEN WITH THE SEED: THE CARDS: each row of YtlahkdflngobiaaGreatDoorRows.lean that lists a variable, with what it lists TIED to the program's text (the seventh form; the later family's looks); each row that meets fmt, with fmt's text TOLD by the authors' own Lean function (tested against real Go, not proved from fmt's source: count such statements apart). THE CARD IS WHAT COUNTS. Prove the row's statement (the work); the ties are given (YtlahkdflngobiaaGreatDoorTie.lean); close each card by the builder's one call (the guide's Derived/Test/ToyasCard.lean, 'card_holds'). Laid BY PROGRAM, IN A SANDBOX (cutbox-door.mjs). By AI agents, Wed Nov 11 2026. No macro, syntax, notation, axiom, sorry.
-/
import Derived.Test.YtlahkdflngobiaaGreatDoorRows
import GoSem.ClaimSeven
namespace Go.Proofs.YtlahkdflngobiaaGreatDoor
namespace Rows

/-- THE TIED CARD OF 'laws.FnExactShareOnce'. -/
def fnExactShareOnceCard : Claim7 := { stood := { row := fnExactShareOnceRow, standIns := [], harness := (true, "aa300f9eb4ee3edf4b68bc39874cc147447db5f1c6ed40d92519a05402bc2ada"), looks := false }, kinds := [], alts := [], laidByText := true, laidKinds := [.data, .data, .data], laidTests := true, laidLooks := .later }
def FnExactShareOnceCardSaid : Prop := Claim7.holds Tryz.pinned (.plain (OpenSpec.ofChange fnExactShareOnceSpec)) fnExactShareOnceCard

/-- THE TIED CARD OF 'laws.FnShared'. -/
def fnSharedCard : Claim7 := { stood := { row := fnSharedRow, standIns := [], harness := (true, "aa300f9eb4ee3edf4b68bc39874cc147447db5f1c6ed40d92519a05402bc2ada"), looks := false }, kinds := [], alts := [], laidByText := true, laidKinds := [.data, .data, .data], laidTests := true, laidLooks := .later }
def FnSharedCardSaid : Prop := Claim7.holds Tryz.pinned (.plain (OpenSpec.ofChange fnSharedSpec)) fnSharedCard

/-- THE TIED CARD OF 'laws.FnExactShareBody'. -/
def fnExactShareBodyCard : Claim7 := { stood := { row := fnExactShareBodyRow, standIns := [], harness := (true, "aa300f9eb4ee3edf4b68bc39874cc147447db5f1c6ed40d92519a05402bc2ada"), looks := false }, kinds := [], alts := [], laidByText := true, laidKinds := [.data, .data, .data], laidTests := true, laidLooks := .later }
def FnExactShareBodyCardSaid : Prop := Claim7.holds Tryz.pinned (.plain (OpenSpec.ofChange fnExactShareBodySpec)) fnExactShareBodyCard

/-- THE SECOND FORM's CARD OF 'laws.FnExactShareOnce'. -/
def fnExactShareOnceUptoCard : Claim7 := { stood := { row := fnExactShareOnceUptoRow, standIns := [], harness := (true, "aa300f9eb4ee3edf4b68bc39874cc147447db5f1c6ed40d92519a05402bc2ada"), looks := false }, kinds := [], alts := [], laidByText := true, laidKinds := [.data, .data, .data], laidTests := true, laidLooks := .later }
def FnExactShareOnceUptoCardSaid : Prop := Claim7.holds Tryz.pinned (.plain (OpenSpec.upto fnExactShareOnceSpec)) fnExactShareOnceUptoCard

/-- THE SECOND FORM's CARD OF 'laws.FnShared'. -/
def fnSharedUptoCard : Claim7 := { stood := { row := fnSharedUptoRow, standIns := [], harness := (true, "aa300f9eb4ee3edf4b68bc39874cc147447db5f1c6ed40d92519a05402bc2ada"), looks := false }, kinds := [], alts := [], laidByText := true, laidKinds := [.data, .data, .data], laidTests := true, laidLooks := .later }
def FnSharedUptoCardSaid : Prop := Claim7.holds Tryz.pinned (.plain (OpenSpec.upto fnSharedSpec)) fnSharedUptoCard

/-- THE SECOND FORM's CARD OF 'laws.FnExactShareBody'. -/
def fnExactShareBodyUptoCard : Claim7 := { stood := { row := fnExactShareBodyUptoRow, standIns := [], harness := (true, "aa300f9eb4ee3edf4b68bc39874cc147447db5f1c6ed40d92519a05402bc2ada"), looks := false }, kinds := [], alts := [], laidByText := true, laidKinds := [.data, .data, .data], laidTests := true, laidLooks := .later }
def FnExactShareBodyUptoCardSaid : Prop := Claim7.holds Tryz.pinned (.plain (OpenSpec.upto fnExactShareBodySpec)) fnExactShareBodyUptoCard
end Rows
end Go.Proofs.YtlahkdflngobiaaGreatDoor
