/- Which parts of a body depend on late parameters: the reference. -/
import Derived.Test.YtkdjhkfiolhkiaaGreatWm
import Derived.Test.YtkdjhkfiolhkiaaGreatWn
import Derived.Test.YtkdjhkfiolhkiaaGreatWr
import Derived.Test.YtkdjhkfiolhkiaaGreatWl
set_option linter.unusedVariables false
set_option linter.unusedSimpArgs false
namespace Go.Proofs.YtkdjhkfiolhkiaaGreat
open Go Go.Proofs Go.Proofs.Tryz Go.IntWalk
/-- a name and whether it comes late -/
abbrev Bd:=ByteArray × Bool
def zPn (nm:ByteArray) (v:List Bd):Option Bool:=(v.reverse.find? fun p=>decide (p.1=nm)).map (·.2)
theorem zMB:∀ {l:List Tm} {x:Tm},zOx l=true->x∈l->x.isB=true
 | t::ts,x,h,hx=>by
   simp only [zOx,oL] at h
   rcases oG.1 hx with rfl | hx
   ·exact h.1
   ·exact zMB h.2 hx
theorem Tm.cnt_pos (t:Tm):1<=t.cnt:=by cases t;simp only [Tm.cnt];omega
def plB (p:Pl):Bd:=(p.1,p.2.2)
end Go.Proofs.YtkdjhkfiolhkiaaGreat
