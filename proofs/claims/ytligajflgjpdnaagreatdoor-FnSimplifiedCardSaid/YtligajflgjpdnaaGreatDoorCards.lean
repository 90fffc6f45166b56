/-
  DERIVED. GIVEN WITH THE SEED: THE CARDS: each row of YtligajflgjpdnaaGreatDoorRows.lean that lists a variable, with what it lists TIED to the program's text (the seventh form; the later family's looks); each row that meets fmt, with fmt's text TOLD by the authors' own Lean function (tested against real Go, not proved from fmt's source: count such statements apart). THE CARD IS WHAT COUNTS. Prove the row's statement (the work); the ties are given (YtligajflgjpdnaaGreatDoorTie.lean); close each card by the builder's one call (the guide's Derived/Test/ToyasCard.lean, 'card_holds'). Laid BY PROGRAM, IN A SANDBOX (cutbox-door.mjs). By AI agents, Wed Nov 11 2026. No macro, syntax, notation, axiom, sorry.
-/
import Derived.Test.YtligajflgjpdnaaGreatDoorRows
import GoSem.ClaimSeven
namespace Go.Proofs.YtligajflgjpdnaaGreatDoor
namespace Rows

/-- THE TIED CARD OF 'laws.FnSimplified'. -/
def fnSimplifiedCard : Claim7 := { stood := { row := fnSimplifiedRow, standIns := [], harness := (true, "bb0d0c14cc62f0a32db1d65f87444cdab4b9787f2bf7daff53ae6dd4becd98d0"), looks := false }, kinds := [], alts := [], laidByText := true, laidKinds := [.data, .data, .data], laidTests := true, laidLooks := .later }
def FnSimplifiedCardSaid : Prop := Claim7.holds Tryz.pinned (.plain (OpenSpec.ofChange fnSimplifiedSpec)) fnSimplifiedCard

/-- THE SECOND FORM's CARD OF 'laws.FnSimplified'. -/
def fnSimplifiedUptoCard : Claim7 := { stood := { row := fnSimplifiedUptoRow, standIns := [], harness := (true, "bb0d0c14cc62f0a32db1d65f87444cdab4b9787f2bf7daff53ae6dd4becd98d0"), looks := false }, kinds := [], alts := [], laidByText := true, laidKinds := [.data, .data, .data], laidTests := true, laidLooks := .later }
def FnSimplifiedUptoCardSaid : Prop := Claim7.holds Tryz.pinned (.plain (OpenSpec.upto fnSimplifiedSpec)) fnSimplifiedUptoCard
end Rows
end Go.Proofs.YtligajflgjpdnaaGreatDoor
