/- A range over an iterator, told by what holds ahead of each round. -/
import Derived.RangeFuncLeaves
import Derived.RangeFuncRecord
import Derived.RangeFuncOwn
import Derived.Below
import Derived.RangeFuncNested
import Derived.RangeFuncBound
import Derived.RangeFuncCalls
import Derived.Shelf.Abstract
import Derived.WalkKit
import Derived.OwnWalkIn
import Derived.TacticsInMore
import Derived.LoopNIn
import Derived.LoopIn
import Derived.Test.YtkdjhkfiolhkiaaGreatProg
import Derived.Test.YtkdjhkfiolhkiaaGreatVa
set_option linter.unusedVariables false
set_option linter.unusedSimpArgs false
namespace Go.Proofs.YtkdjhkfiolhkiaaGreat
open Go Go.RowKit
open Go Go.Proofs Go.RowKit Go.Shelf
attribute [local go_sem] Oper.semAt_some
attribute [local go_sem] Oper.semAt_some
theorem FG.cell {W w:World} {k:Nat} {c:Array Value} {t:TypeId} {z:Nat × Nat} {i:Nat} (h:w.heap[k]?=some (.cells c t z)):w.cell? ⟨k,i,none⟩=c[i]?:=by simp [World.cell?,h]
theorem zLL {w:World} {k i j:Nat} {v:Value} (h:j≠k):(w.setCell ⟨k,i,none⟩ v).heap[j]?=w.heap[j]?:=by
 simp [World.setCell,Array.getElem?_modify,Ne.symm h]
variable {W w:World} {nm:ByteArray} {a:Option Addr} {len cap:Nat} {r:ByteArray × Int × Bool}
open Go Go.Proofs Go.Proofs.Tryz Go.IntWalk
/-- a place: name, number, late -/
abbrev Pl:=ByteArray × Int × Bool
end Go.Proofs.YtkdjhkfiolhkiaaGreat
