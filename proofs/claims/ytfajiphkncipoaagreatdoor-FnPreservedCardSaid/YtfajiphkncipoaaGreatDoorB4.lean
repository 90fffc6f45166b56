/- Steps one behind the other: sizes, and the term after some steps. -/
import Derived.Test.YtfajiphkncipoaaGreatDoorB3
import Derived.Test.YtfajiphkncipoaaGreatDoorB2
import Derived.Test.YtfajiphkncipoaaGreatDoorKi
import Derived.Test.YtfajiphkncipoaaGreatDoorKh
set_option linter.unusedVariables false
set_option linter.unusedSimpArgs false
namespace Go.Proofs.YtfajiphkncipoaaGreatDoor
open Go Go.Proofs Go.Proofs.Tryz Go.IntWalk
theorem Fresh.mono {N0 N1 N M:Nat} {a:Option Addr} {ds:List D} (h:Fresh N0 N a ds) (J:N1<=N0) (O:N<=M):Fresh N1 M a ds:=
 ⟨λad I=>oO J (h.lo ad I),λad I=>o6 (h.hi ad I) O,h.off,h.ap⟩
end Go.Proofs.YtfajiphkncipoaaGreatDoor
