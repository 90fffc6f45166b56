/- Copies of terms: the program's and the reference's. -/
import Derived.Test.YtmfjakahanbnlaaGreatDoorA5
import Derived.Test.YtmfjakahanbnlaaGreatDoorKu
set_option linter.unusedVariables false
set_option linter.unusedSimpArgs false
namespace Go.Proofs.YtmfjakahanbnlaaGreatDoor
open Go Go.Proofs Go.Proofs.Tryz Go.IntWalk
theorem zCt {N N1 N2:Nat} {es fs:List D} (h1:OwnL N1 N2 es) (h2:OwnL N N1 fs) (hN:N<=N1) (hN2:N1<=N2):OwnL N N2 (es++fs):=by
 refine ⟨?_,yS h1.fl h2.fl,fun b hb=>?_,fun b hb=>?_⟩
 ·rw [zK,nq]
  refine ⟨h1.nd,h2.nd,fun a ha b hb hab=>?_⟩
  have:=h1.lo a ha;have:=h2.hi b hb;omega
 ·rw [zK] at hb
  rcases oO.1 hb with hb | hb
  ·have:=h1.lo b hb;omega
  ·exact h2.lo b hb
 ·rw [zK] at hb
  rcases oO.1 hb with hb | hb
  ·exact h1.hi b hb
  ·have:=h2.hi b hb;omega
theorem zIU {a:Option Addr} {z c:Nat} {es:List D} (h:(zM es).Nodup) (ha:∀ ad,a=some ad->ad.block∉zM es):(D.sl a z es c).foot.Nodup:=by
 cases a with
 | none=>simpa only [D.foot] using h
 | some ad=>
   simp only [D.foot]
   split
   ·exact mA
   ·exact nP.2 ⟨ha ad rfl,h⟩
/-- a copied part goes behind the others -/
theorem zKd {N0 N1 N2 N3:Nat} {hd r xs es:List D} {l0 l1 l2 l3:Value} {a:Option Addr} {c:Nat} {ds:List D} (h1:OwnL N0 N1 (hd++r)) (h2:OwnL N1 N2 (xs++es)) (hf:Fresh N0 N3 a ds) (g1:N0<=N1) (g2:N1<=N2) (g3:N2<=N3)
  (d1:∀ ad,a=some ad->ad.block∉zM (hd++r)) (d2:∀ ad,a=some ad->ad.block∉zM (xs++es)):OwnL N0 N3 (hd++(r++[.ag (.lit l0::.lit l1::.lit l2::.lit l3::(xs++[.sl a 9 es c]))])):=by
 have hn1:=h1.nd
 have hn2:=h2.nd
 rw [zK] at hn1 hn2
 have e:zM (hd++(r++[.ag (.lit l0::.lit l1::.lit l2::.lit l3::(xs++[.sl a 9 es c]))]))=zM (hd++r)++(zM xs++(D.sl a 9 es c).foot):=by
  simp only [zK,zM,D.foot,ou,od,nC]
 have hfl1:=h1.fl
 have hfl2:=h2.fl
 have hbs:∀ b,b∈(D.sl a 9 es c).foot->b∈zM (xs++es)\/∃ ad,a=some ad/\b=ad.block:=fun b hb=>by
  rcases qF b hb with h | h
  ·left;rw [zK];exact o5 _ h
  ·exact .inr h
 refine ⟨?_,?_,fun b hb=>?_,fun b hb=>?_⟩
 ·rw [e,nq]
  refine ⟨h1.nd,?_,fun x hx y hy hxy=>?_⟩
  ·rw [nq] at hn2 ⊢
   refine ⟨hn2.1,zIU hn2.2.1 fun ad h hc=>d2 ad h (by rw [zK];exact o5 _ hc),fun x hx y hy hxy=>?_⟩
   subst hxy
   rcases qF x hy with h | ⟨ad,h9,h'⟩
   ·exact hn2.2.2 x hx x h rfl
   ·subst h';exact d2 ad h9 (by rw [zK];exact oW _ hx)
  ·subst hxy
   have hxi:=h1.hi x hx
   rcases oO.1 hy with h | h
   ·have:=h2.lo x (by rw [zK];exact oW _ h);omega
   ·rcases hbs x h with h | ⟨ad,h9,h'⟩
    ·have:=h2.lo x h;omega
    ·subst h';exact d1 ad h9 hx
 ·have hxs:xU xs/\xU es:=by
   have:∀ (u v:List D),xU (u++v)->xU u/\xU v:=by
    intro u
    induction u with
    | nil=>intro v h;exact ⟨trivial,h⟩
    | cons y u ih=>intro v h;obtain ⟨g1,g2⟩:=ih v h.2;exact ⟨⟨h.1,g1⟩,g2⟩
   exact this _ _ hfl2
  have hpr:xU hd/\xU r:=by
   have:∀ (u v:List D),xU (u++v)->xU u/\xU v:=by
    intro u
    induction u with
    | nil=>intro v h;exact ⟨trivial,h⟩
    | cons y u ih=>intro v h;obtain ⟨g1,g2⟩:=ih v h.2;exact ⟨⟨h.1,g1⟩,g2⟩
   exact this _ _ hfl1
  refine yS hpr.1 (yS hpr.2 ⟨?_,trivial⟩)
  have hsl:D.Flat0 (.sl a 9 es c):=⟨fun ad h=>hf.off ad h,hxs.2⟩
  exact ⟨trivial,trivial,trivial,trivial,yS hxs.1 ⟨hsl,trivial⟩⟩
 ·rw [e] at hb
  rcases oO.1 hb with h | h
  ·exact h1.lo b h
  ·rcases oO.1 h with h | h
   ·have:=h2.lo b (by rw [zK];exact oW _ h);omega
   ·rcases hbs b h with h | ⟨ad,h9,h'⟩
    ·have:=h2.lo b h;omega
    ·subst h';exact hf.lo ad h9
 ·rw [e] at hb
  rcases oO.1 hb with h | h
  ·have:=h1.hi b h;omega
  ·rcases oO.1 h with h | h
   ·have:=h2.hi b (by rw [zK];exact oW _ h);omega
   ·rcases hbs b h with h | ⟨ad,h9,h'⟩
    ·have:=h2.hi b h;omega
    ·subst h';exact hf.hi ad h9
end Go.Proofs.YtmfjakahanbnlaaGreatDoor
