/- Substitution and steps: sizes, and that terms stay terms (no program in sight). -/
import Derived.Test.YtfajiphkncipoaaGreatDoorB1
set_option linter.unusedVariables false
set_option linter.unusedSimpArgs false
namespace Go.Proofs.YtfajiphkncipoaaGreatDoor
open Go Go.Proofs Go.Proofs.Tryz Go.IntWalk
theorem zI2:∀ {l:List Tm},tK l=true↔∀ x∈l,x.ok=true
 | []=>by simp [tK]
 | t::I=>by simp only [tK,oJ,zI2 (l:=I),oF,mH]
theorem Tm.ok_mk {k:Int} {nm ot:ByteArray} {n:Int} {ty re:Ty} {l:List Tm}:(Tm.mk k nm ot n ty re l).ok=true↔(∀ x∈l,x.ok=true)/\zU k nm ot n ty re=true/\(l.length:Int)=zEX k nm:=by
 simp only [Tm.ok,oJ,zI2,nj]
theorem zPP {k:Int} {nm ot:ByteArray} {n:Int} {ty re:Ty} {m:Nat} (J:¬yG k m<0) (h:zU k nm ot n ty re=true):uu nm=true/\(k=9->uu ot=true/\nm≠ot):=by
 have I:k=6\/k=8\/k=9:=by
  rcases zA2 k m with h | ⟨_,_,h | h⟩ | ⟨_,_,h⟩
  ·omega
  ·exact .inl h
  ·exact .inr (.inr h)
  ·exact .inr (.inl h)
 rcases I with rfl | rfl | rfl
 ·simp only [zU,uS,oJ] at h
  refine ⟨?_,λh=>absurd h (by decide)⟩
  simp at h;exact h.2.2.2.2.2.1
 ·simp only [zU,uS,oJ] at h
  refine ⟨?_,λh=>absurd h (by decide)⟩
  simp at h;exact h.2.2.2.2.2.1
 ·simp only [zU,uS,oJ] at h
  simp at h
  exact ⟨h.2.2.2.2.1,λ_=>⟨h.2.2.2.2.2.1,h.2.2.2.2.2.2⟩⟩
end Go.Proofs.YtfajiphkncipoaaGreatDoor
