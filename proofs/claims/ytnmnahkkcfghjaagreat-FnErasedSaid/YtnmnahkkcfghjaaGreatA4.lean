/- The laws' look at sizes, and copies, of terms and contexts. -/
import Derived.Test.YtnmnahkkcfghjaaGreatA3
set_option linter.unusedVariables false
set_option linter.unusedSimpArgs false
namespace Go.Proofs.YtnmnahkkcfghjaaGreat
open Go Go.Proofs Go.Proofs.Tryz Go.IntWalk
theorem u3 {t:Ty} {d:D} {N N':Nat} (h:t.Is d) (I:Own N N' d):OwnL N N' [D.cell d 0,D.cell d 1]:=by
 cases t with
 | mk k l=>
   obtain ⟨a,es,c,rfl,_,_⟩:=Ty.is_mk.1 h
   show OwnL N N' [.j k,.sl a 2 es c]
   exact ⟨by simpa only [D.foot] using I.nd,I.fl,by simpa only [D.foot] using I.lo,by simpa only [D.foot] using I.hi⟩
/-- hands back a copy -/
def Cop (f:FuncId) (z:Nat) (args:List PV) (P:D->Prop):Prop:=∀ (N:Nat) (Q:QT [.ag z]),(∀ d' N',N<=N'->P d'->Own N N' d'->Q d' N')->ACalls prog f [.ag z] args N Q
end Go.Proofs.YtnmnahkkcfghjaaGreat
