/- How great a step may make a term: in depth and width (no program in sight). -/
import Derived.Test.YtfajiphkncipoaaGreatDoorB2
import Derived.Test.YtfajiphkncipoaaGreatDoorB6
import Derived.Test.YtfajiphkncipoaaGreatDoorB1
import Derived.Test.YtfajiphkncipoaaGreatDoorC4
import Derived.Test.YtfajiphkncipoaaGreatDoorKr
import Derived.Test.YtfajiphkncipoaaGreatDoorKd
set_option linter.unusedVariables false
set_option linter.unusedSimpArgs false
namespace Go.Proofs.YtfajiphkncipoaaGreatDoor
open Go Go.Proofs Go.Proofs.Tryz Go.IntWalk
/-- no deeper, no wider than this; no more names are free -/
structure Gr (W D:Nat) (t' t:Tm):Prop where
 f:∀ s∈t'.fv,s∈t.fv
 w:t'.wd<=9*W
 d:t'.dp<=D*t.dp
theorem zPJ {e b:Tm} {x:ByteArray}:(e.sb x b).dp<=e.dp+b.dp:=zPk _ _ _ _
theorem zPV {e b:Tm} {x:ByteArray} {s:ByteArray} (h:s∈(e.sb x b).fv):(s∈e.fv/\s≠x)\/(s∈b.fv/\x∈e.fv):=zKK _ _ _ _ (oD _) s h
theorem zOg {e b:Tm} {x:ByteArray} (h:e.A3):(e.sb x b).wd<=e.wd+4*b.wd:=by
 have I:=zNe e.dp e x b (oD _) h
 have J:=b.fv_wd
 unfold Tm.sb
 omega
/-- a part's free names are the form's, but for what it binds -/
theorem xj {k:Int} (I:k≠1) {nm ot:ByteArray} {n:Int} {ty re:Ty} {l:List Tm} {i:Nat} (hi:i<l.length) {s:ByteArray} (hs:s∈(l.getD i tm0).fv) (hn:s∉bdN k nm ot l.length\/(i:Int)≠yG k l.length):s∈(Tm.mk k nm ot n ty re l).fv:=by
 refine zEn I (zw hi) ?_
 by_cases h:(i:Int)=yG k l.length
 ·rw [zIJ h]
  refine ue.2 ⟨hs,?_⟩
  rcases hn with hn | hn
  ·exact hn
  ·exact absurd h hn
 ·rw [rG h];exact hs
theorem vX {k:Int} (I:k≠1) {nm ot:ByteArray} {n:Int} {ty re:Ty} {l:List Tm} {W:Nat}:(Tm.mk k nm ot n ty re l).wd<=W↔wy l<=W/\sf l<=W:=by
 simp only [Tm.wd,if_neg I]
 omega
theorem zSF (k n:Int) (I:k≠1):(zKp k n).wd=0:=by simp [zKp,Tm.wd,I,wy,sf]
/-- what a rule makes -/
theorem zRt {e:Tm} {W:Nat} (he:e.ok=true) (hw:e.wd<=W) (hW:1<=W):Gr W 3 e.apl.1 e:=by
 have I:Gr W 3 e e:=⟨λ_ h=>h,by omega,by omega⟩
 cases e with
 | mk k nm ot n ty re l=>
 have nd:=yz he
 obtain ⟨a1,a2,a3,a4,a5⟩:=xH he
 have part:k≠1->∀ i,i<l.length->(l.getD i tm0).wd<=W/\(l.getD i tm0).dp+1<=(Tm.mk k nm ot n ty re l).dp/\(l.getD i tm0).ok=true:=λhk i hi=>by
  have hm:=zJ hi
  have:=(vX hk).1 hw
  exact ⟨oS (zx hm) this.2,uD hm,nd.sub _ hm⟩
 simp only [Tm.apl]
 by_cases h4:k=4
 ·rw [if_pos h4]
  unfold Tm.opr
  split
  ·have hk:zEB (Tm.mk k nm ot n ty re l).nm≠1:=by unfold zEB;split<;>decide
   refine ⟨λs hs=>?_,?_,?_⟩
   ·simp only [zKp,Tm.fv,if_neg hk,vn] at hs
    simp at hs
   ·rw [zSF _ _ hk];omega
   ·simp only [zKp,Tm.dp,wr];omega
  ·exact I
 ·rw [if_neg h4]
  by_cases h5:k=5
  ·rw [if_pos h5]
   split
   ·rename_i h3
    have hl:=a3 h5
    have hn:=zJq (part (by omega) 0 (by omega)).2.2 h3
    obtain ⟨b1,b2,b3⟩:=part (by omega) (2 - (l.getD 0 tm0).no).toNat (by omega)
    show Gr W 3 (l.getD (2 - (l.getD 0 tm0).no).toNat tm0) _
    refine ⟨λs hs=>xj (by omega) (by omega) hs (.inr ?_),by omega,by omega⟩
    have:yG k l.length = -1:=by unfold yG;rw [if_neg (by omega),if_neg (by omega),if_neg (by omega)]
    omega
   ·exact I
  ·rw [if_neg h5]
   by_cases h7:k=7
   ·rw [if_pos h7]
    have hl:=a2 (.inl h7)
    obtain ⟨va,vb,U⟩:=part (by omega) 0 (by omega)
    obtain ⟨x1,x2,x3⟩:=part (by omega) 1 (by omega)
    have hb:yG k l.length = -1:=by unfold yG;rw [if_neg (by omega),if_neg (by omega),if_neg (by omega)]
    have fin:∀ s,s∈(l.getD 0 tm0).fv\/s∈(l.getD 1 tm0).fv->s∈(Tm.mk k nm ot n ty re l).fv:=λs hs=>by
     rcases hs with hs | hs
     ·exact xj (by omega) (by omega) hs (.inr (by omega))
     ·exact xj (by omega) (by omega) hs (.inr (by omega))
    generalize l.getD 0 tm0=g at va vb U fin
    generalize l.getD 1 tm0=y at x1 x2 x3 fin
    cases g with
    | mk Y J go gm gt gr O=>
    by_cases h6:Y=6
    ·rw [if_pos (show (Tm.mk Y J go gm gt gr O).kd=6 from h6)]
     have aa:=(xH U).1 (.inl h6)
     have hm:=zJ (l:=O) (i:=0) (by omega)
     have q1:=zx hm
     have q2:=(vX (show Y≠1 by omega)).1 va
     have q3:=uD (k:=Y) (nm:=J) (ot:=go) (n:=gm) (ty:=gt) (re:=gr) hm
     have q4:=zOg (b:=y) (x:=J) (zNP _ ((yz U).sub _ hm))
     have q5:=zPJ (e:=O.getD 0 tm0) (b:=y) (x:=J)
     show Gr W 3 ((O.getD 0 tm0).sb J y) _
     refine ⟨λs hs=>?_,by omega,by omega⟩
     rcases zPV hs with ⟨c1,c2⟩ | ⟨c1,_⟩
     ·refine fin s (.inl (xj (by omega) (by omega) c1 (.inl ?_)))
      unfold bdN
      rw [if_pos ⟨h6,aa⟩]
      simpa using c2
     ·exact fin s (.inr c1)
    ·rw [if_neg (show ¬(Tm.mk Y J go gm gt gr O).kd=6 from h6)]
     by_cases h9:Y=9
     ·rw [if_pos (show (Tm.mk Y J go gm gt gr O).kd=9 from h9)]
      have aa:=(xH U).1 (.inr (.inl h9))
      have hm:=zJ (l:=O) (i:=0) (by omega)
      have q1:=zx hm
      have q2:=(vX (show Y≠1 by omega)).1 va
      have q3:=uD (k:=Y) (nm:=J) (ot:=go) (n:=gm) (ty:=gt) (re:=gr) hm
      have qa:=zNP _ ((yz U).sub _ hm)
      show Gr W 3 (((O.getD 0 tm0).sb J (Tm.mk Y J go gm gt gr O)).sb go y) _
      have q4:=zOg (b:=Tm.mk Y J go gm gt gr O) (x:=J) qa
      have q5:=zPJ (e:=O.getD 0 tm0) (b:=Tm.mk Y J go gm gt gr O) (x:=J)
      have q6:=zOg (b:=y) (x:=go) (zMv (O.getD 0 tm0).dp _ J _ qa (zNP _ U))
      have q7:=zPJ (e:=(O.getD 0 tm0).sb J (Tm.mk Y J go gm gt gr O)) (b:=y) (x:=go)
      refine ⟨λs hs=>?_,?_,by omega⟩
      ·rcases zPV hs with ⟨c1,c2⟩ | ⟨c1,_⟩
       ·refine fin s (.inl ?_)
        rcases zPV c1 with ⟨d1,d2⟩ | ⟨d1,_⟩
        ·refine xj (by omega) (by omega) d1 (.inl ?_)
         unfold bdN
         rw [if_neg (by omega),if_neg (by omega),if_pos ⟨h9,aa⟩]
         simp [c2,d2]
        ·exact d1
       ·exact fin s (.inr c1)
      ·have:(((O.getD 0 tm0).sb J (Tm.mk Y J go gm gt gr O)).sb go y).wd<=((O.getD 0 tm0).sb J (Tm.mk Y J go gm gt gr O)).wd+4*y.wd:=q6
       omega
     ·rw [if_neg (show ¬(Tm.mk Y J go gm gt gr O).kd=9 from h9)];exact I
   ·rw [if_neg h7]
    by_cases h8:k=8
    ·rw [if_pos h8]
     have hl:=a2 (.inr h8)
     obtain ⟨va,vb,U⟩:=part (by omega) 0 (by omega)
     obtain ⟨x1,x2,x3⟩:=part (by omega) 1 (by omega)
     have hb:yG k l.length=1:=by unfold yG;rw [if_neg (by omega),if_pos ⟨h8,hl⟩]
     have ah:bdN k nm ot l.length=[nm]:=by unfold bdN;rw [if_neg (by omega),if_pos ⟨h8,hl⟩]
     have q4:=zOg (b:=l.getD 0 tm0) (x:=nm) (zNP _ x3)
     have q5:=zPJ (e:=l.getD 1 tm0) (b:=l.getD 0 tm0) (x:=nm)
     refine ⟨λs hs=>?_,by show ((l.getD 1 tm0).sb nm (l.getD 0 tm0)).wd<=_;omega,by show ((l.getD 1 tm0).sb nm (l.getD 0 tm0)).dp<=_;omega⟩
     rcases zPV hs with ⟨c1,c2⟩ | ⟨c1,_⟩
     ·exact xj (by omega) (by omega) c1 (.inl (by rw [ah];simpa using c2))
     ·exact xj (by omega) (by omega) c1 (.inr (by omega))
    ·rw [if_neg h8]
     by_cases ac:k=12
     ·rw [if_pos ac]
      split
      ·rename_i ab
       have hl:=a1 (.inr (.inr (.inr (.inr (.inl ac)))))
       obtain ⟨va,vb,U⟩:=part (by omega) 0 (by omega)
       have hb:yG k l.length = -1:=by unfold yG;rw [if_neg (by omega),if_neg (by omega),if_neg (by omega)]
       have fin:∀ s,s∈(l.getD 0 tm0).fv->s∈(Tm.mk k nm ot n ty re l).fv:=λs hs=>xj (by omega) (by omega) hs (.inr (by omega))
       generalize l.getD 0 tm0=g at va vb U fin ab
       cases g with
       | mk Y J go gm gt gr O=>
       have ab:Y=10:=ab
       have aa:=(xH U).1 (.inr (.inr (.inl ab)))
       have hm:=zJ (l:=O) (i:=0) (by omega)
       have q1:=zx hm
       have q2:=(vX (show Y≠1 by omega)).1 va
       have q3:=uD (k:=Y) (nm:=J) (ot:=go) (n:=gm) (ty:=gt) (re:=gr) hm
       show Gr W 3 (O.getD 0 tm0) _
       have ai:yG Y O.length = -1:=by unfold yG;rw [if_neg (by omega),if_neg (by omega),if_neg (by omega)]
       exact ⟨λs hs=>fin s (xj (by omega) (by omega) hs (.inr (by omega))),by omega,by omega⟩
      ·exact I
     ·rw [if_neg ac]
      by_cases ae:k=13
      ·rw [if_pos ae]
       split
       ·rename_i aj
        have hl:=a1 (.inr (.inr (.inr (.inr (.inr ae)))))
        obtain ⟨va,vb,U⟩:=part (by omega) 0 (by omega)
        have hb:yG k l.length = -1:=by unfold yG;rw [if_neg (by omega),if_neg (by omega),if_neg (by omega)]
        have ak:=(l.getD 0 tm0).fv_wd
        show Gr W 3 (Tm.nod 10 [l.getD 0 tm0]) _
        refine ⟨λs hs=>?_,?_,?_⟩
        ·rcases Tm.fv_mem.1 hs with ⟨h,_⟩ | ⟨_,j,x,hj,hx⟩
         ·exact absurd h (by decide)
         ·match j,hj with
          | 0,hj=>
            cases hj
            have hx:s∈(l.getD 0 tm0).fv:=hx
            exact xj (by omega) (by omega) hx (.inr (by omega))
        ·refine (vX (by decide)).2 ⟨?_,?_⟩
         ·simp only [wy];omega
         ·simp only [sf];omega
        ·simp only [Tm.nod,Tm.dp,wr] at vb ⊢
         omega
       ·exact I
      ·rw [if_neg ae];exact I
theorem zQm {at_:Int} {ns:List ByteArray} {i:Nat} {x y:Tm} (h:∀ s∈y.fv,s∈x.fv) {s:ByteArray} (hs:s∈fvI at_ ns i y):s∈fvI at_ ns i x:=by
 unfold fvI at hs ⊢
 split
 ·rename_i I
  rw [if_pos I,ue] at hs
  exact ue.2 ⟨h s hs.1,hs.2⟩
 ·rename_i I
  rw [if_neg I] at hs
  exact h s hs
theorem zH1:∀ {l:List Tm} {i:Nat} {x y:Tm},l[i]?=some x->y.fv.length<=x.fv.length->wy (l.set i y)<=wy l
 | [],i,x,y,h,_=>by simp at h
 | t::l,0,x,y,h,I=>by
   simp at h
   subst h
   simp only [md,wy];omega
 | t::l,i+1,x,y,h,I=>by
   have:=zH1 (l:=l) (i:=i) (by simpa using h) I
   simp only [mu,wy];omega
/-- a part that was stepped -/
theorem zKx {k:Int} {nm ot:ByteArray} {n:Int} {ty re:Ty} {l:List Tm} {W i:Nat} {x y:Tm} (J:k≠1) (hi:l[i]?=some x) (O:Gr W 3 y x) (hw:(Tm.mk k nm ot n ty re l).wd<=W):Gr W 3 (.mk k nm ot n ty re (l.set i y)) (.mk k nm ot n ty re l):=by
 have hm:=oB hi
 have h2:=(vX J).1 hw
 refine ⟨λs hs=>?_,(vX J).2 ⟨?_,zCe.2 λz I=>?_⟩,?_⟩
 ·rcases Tm.fv_mem.1 hs with ⟨h,_⟩ | ⟨_,j,z,U,I⟩
  ·exact absurd h J
  ·rw [nc] at I
   by_cases Y:j=i
   ·subst Y
    rw [nI (oC.1 hi).1] at U
    cases U
    exact zEn J hi (zQm O.f I)
   ·rw [nB (by omega)] at U
    exact zEn J U I
 ·have:=zH1 hi (zDf y.fv_nodup O.f)
  omega
 ·rcases nE I with I | rfl
  ·have:=zx I;omega
  ·exact O.w
 ·have:wr (l.set i y)<=3*wr l:=r9.2 λz I=>by
   rcases nE I with I | rfl
   ·have:=wE I;omega
   ·have:=wE hm;have:=O.d;omega
  simp only [Tm.dp];omega
def zS8 (S:Tm->Tm × Int) (W:Nat):Prop:=∀ e:Tm,e.ok=true->e.wd<=W->Gr W 3 (S e).1 e
theorem zDm {S:Tm->Tm × Int} {m:Int}:∀ {xs l':List Tm} {r:Int},yB S xs m=some (l',r)->∃ j x,xs[j]?=some x/\l'=xs.set j (x.cod S m).1
 | [],_,_,h=>by simp [yB] at h
 | x :: xs,l',r,h=>by
   simp only [yB] at h
   split at h
   ·cases h;exact ⟨0,x,rfl,rfl⟩
   ·split at h
    ·cases h
    ·rename_i l2 O I
     cases h
     obtain ⟨j,y,J,rfl⟩:=zDm I
     exact ⟨j+1,y,by simpa using J,rfl⟩
theorem zSA {S:Tm->Tm × Int} {W:Nat} (hS:zS8 S W):∀ (t:Tm) (m:Int),t.ok=true->t.wd<=W->Gr W 3 (t.cod S m).1 t:=by
 refine Tm.ind λk nm ot n ty re l ih m he hw=>?_
 have nd:=yz he
 have J:Gr W 3 (Tm.mk k nm ot n ty re l) (Tm.mk k nm ot n ty re l):=⟨λ_ h=>h,by omega,by omega⟩
 have aa:=(xH he).1
 simp only [Tm.cod]
 split
 ·rename_i hk
  have O:k≠1:=by omega
  have hl:=aa (by omega)
  have hm:=zJ (l:=l) (i:=0) (by omega)
  have hg:=zw (l:=l) (i:=0) (by omega)
  have h2:=(vX O).1 hw
  have U:=zx hm
  have Y:=nd.sub _ hm
  have hb:yG k l.length = -1:=by unfold yG;rw [if_neg (by omega),if_neg (by omega),if_neg (by omega)]
  unfold zRD
  split
  ·split
   ·rename_i I
    show Gr W 3 ((l.getD 0 tm0).pt 0) _
    have I:(l.getD 0 tm0).kd=10:=I
    have fin:∀ s,s∈(l.getD 0 tm0).fv->s∈(Tm.mk k nm ot n ty re l).fv:=λs hs=>xj (by omega) (by omega) hs (.inr (by omega))
    have vb:=uD (k:=k) (nm:=nm) (ot:=ot) (n:=n) (ty:=ty) (re:=re) hm
    generalize l.getD 0 tm0=g at I Y U fin vb
    cases g with
    | mk gk gn go gm gt gr gl=>
    have I:gk=10:=I
    have ab:=(xH Y).1 (.inr (.inr (.inl I)))
    have hm:=zJ (l:=gl) (i:=0) (by omega)
    have q1:=zx hm
    have q2:=(vX (show gk≠1 by omega)).1 (oS U h2.2)
    have q3:=uD (k:=gk) (nm:=gn) (ot:=go) (n:=gm) (ty:=gt) (re:=gr) hm
    show Gr W 3 (gl.getD 0 tm0) _
    have ac:yG gk gl.length = -1:=by unfold yG;rw [if_neg (by omega),if_neg (by omega),if_neg (by omega)]
    exact ⟨λs hs=>fin s (xj (by omega) (by omega) hs (.inr (by omega))),by omega,by omega⟩
   ·exact J
  ·exact zKx O hg (hS _ Y (oS U h2.2)) hw
 ·cases hc:yB S l (zR k m) with
  | none=>exact J
  | some p=>
    obtain ⟨l',r2⟩:=p
    obtain ⟨j,x,hj,rfl⟩:=zDm hc
    have hx:=oB hj
    have O:k≠1:=λh=>by
     have:=(xH he).2.2.2.1 (.inl h)
     rw [oU this] at hx
     simp at hx
    have h2:=(vX O).1 hw
    exact zKx O hj (ih x hx _ (nd.sub x hx) (oS (zx hx) h2.2)) hw
theorem zPa {W:Nat} (hW:1<=W):∀ f,zS8 (Tm.stp f) W
 | 0,e,O,J=>⟨λ_ h=>h,by simp only [Tm.stp];omega,by simp only [Tm.stp];omega⟩
 | f + 1,.mk k nm ot n ty re l,O,J=>by
   have ih:=zPa hW f
   have nd:=yz O
   have I:Gr W 3 (Tm.mk k nm ot n ty re l) (Tm.mk k nm ot n ty re l):=⟨λ_ h=>h,by omega,by omega⟩
   simp only [Tm.stp]
   split
   ·exact I
   ·split
    ·rename_i hk
     have hk:k=10:=hk
     have hl:=(xH O).1 (.inr (.inr (.inl hk)))
     have hm:=zJ (l:=l) (i:=0) (by omega)
     have hg:=zw (l:=l) (i:=0) (by omega)
     have h2:=(vX (show k≠1 by omega)).1 J
     exact zKx (by omega) hg (zSA ih _ 1 (nd.sub _ hm) (oS (zx hm) h2.2)) J
    ·cases hg:goS (Tm.stp f) (Tm.mk k nm ot n ty re l) (l.take (uZ k l.length)) 0 with
     | none=>exact zRt O J hW
     | some p=>
       obtain ⟨j,x,g1,g2,rfl⟩:=zCb hg
       have U:l[j]?=some x:=by
        rw [ob] at g1
        split at g1
        ·exact g1
        ·cases g1
       have hx:=oB U
       have Y:k≠1:=λh=>by
        have:=(xH O).2.2.2.1 (.inl h)
        rw [oU this] at hx
        simp at hx
       have h2:=(vX Y).1 J
       simp only [o6]
       exact zKx Y U (ih x (nd.sub x hx) (oS (zx hx) h2.2)) J
/-- not too deep, not too wide -/
structure Tm.Sm (W D:Nat) (e:Tm):Prop where
 g:e.G
 w:e.wd<=W
 d:e.dp<=D
theorem zQz {W D:Nat} (Y:1<=W) {e:Tm} (h:e.Sm W D):e.step.1.Sm (9*W) (3*D):=by
 have I:e.Sm (9*W) (3*D):=⟨h.g,by have:=h.w;omega,by have:=h.d;omega⟩
 unfold Tm.step
 split
 ·rename_i J
  split
  ·exact I
  ·have O:e.ok=true:=by unfold qx at J;simp at J;exact J.1
   have U:=zPa Y e.dp e O h.w
   exact ⟨zP9 _ _ h.g,U.w,by have:=U.d;have:=h.d;omega⟩
 ·exact I
def Lv (r:Rho):Prop:=∀ s m t,r s m=some t->1<=m
theorem Lv.set {r:Rho} (h:Lv r) {x:ByteArray} {n:Int} {t:Ty} (J:1<=n):Lv (r.set x n t):=by
 intro s m u I
 unfold Rho.set at I
 split at I
 ·split at I
  ·omega
  ·cases I
 ·exact h _ _ _ I
theorem Lv.safe {r:Rho} (h:Lv r) (n:Int):Lv (r.safe n):=λs m t I=>by
 unfold Rho.safe at I
 split at I
 ·rename_i J;exact h _ _ _ J
 ·cases I
/-- what a result of a type is -/
theorem tN {e:Tm} {r:Rho} {n:Int} {u:Ty} (h:HT r e n u) (I:e.res=true) :
  (u=tInt->e.kd=2)/\(u=tBool->e.kd=3)/\(∀ a b,u=vP a b->e.kd=6\/e.kd=9)/\(∀ t,u=xN t->e.kd=10):=by
 have e1:∀ {a:Ty},xN a=.mk 4 [a]:=rfl
 have J:∀ {a b:Ty},vP a b=.mk 3 [a,b]:=rfl
 have O:tInt=.mk 1 []:=rfl
 have U:tBool=.mk 2 []:=rfl
 cases h with
 | int=>simp [Tm.kd,e1,J,O,U]
 | bool=>simp [Tm.kd,e1,J,O,U]
 | lam _ _=>simp [Tm.kd,e1,J,O,U]
 | fix _ _ _=>simp [Tm.kd,e1,J,O,U]
 | quote _ _=>simp [Tm.kd,e1,J,O,U]
 | var _ _=>cases I
 | op _=>cases I
 | ite _ _ _=>cases I
 | app _ _=>cases I
 | lt _ _=>cases I
 | splice _=>cases I
 | run _=>cases I
 | lift _ _ _=>cases I
theorem zOR {t:Ty} (h:t.valid=true) (I:t.base=true):t=tInt\/t=tBool:=by
 have hk:t.k=1\/t.k=2:=by
  cases t with
  | mk k l=>
    have J:(k=1\/k=2)/\(Ty.mk k l).as=[]:=by simpa [Ty.base,Ty.k] using I
    exact J.1
 have:=zC4 h hk
 rcases hk with hk | hk
 ·rw [if_pos hk] at this;exact .inl this
 ·rw [if_neg (by omega)] at this;exact .inr this
/-- the parts of a typed form are typed -/
theorem zOb {k:Int} {nm ot:ByteArray} {m:Int} {ty re:Ty} {l:List Tm} {r:Rho} {n:Int} {u:Ty} (h:HT r (.mk k nm ot m ty re l) n u) (Y:k=1\/k=2\/k=3->l=[]) (O:Lv r) (U:1<=n) :
  ∀ x∈l,∃ r' u',Lv r'/\HT r' x (zR k n) u':=by
 intro x I
 cases h with
 | var _ _=>rw [Y (.inl rfl)] at I;simp at I
 | int=>rw [Y (.inr (.inl rfl))] at I;simp at I
 | bool=>rw [Y (.inr (.inr rfl))] at I;simp at I
 | op h=>exact ⟨_,_,O,h x I⟩
 | ite ha J hc=>
   simp only [oF,ol,mD] at I
   rcases I with rfl | rfl | rfl
   ·exact ⟨_,_,O,ha⟩
   ·exact ⟨_,_,O,J⟩
   ·exact ⟨_,_,O,hc⟩
 | lam J _=>rw [oY] at I;subst I;exact ⟨_,_,O.set U,J⟩
 | app hf aa=>
   simp only [oF,ol,mD] at I
   rcases I with rfl | rfl
   ·exact ⟨_,_,O,hf⟩
   ·exact ⟨_,_,O,aa⟩
 | lt ha J=>
   simp only [oF,ol,mD] at I
   rcases I with rfl | rfl
   ·exact ⟨_,_,O,ha⟩
   ·exact ⟨_,_,O.set U,J⟩
 | fix _ J _=>rw [oY] at I;subst I;exact ⟨_,_,(O.set U).set U,J⟩
 | quote J _=>rw [oY] at I;subst I;exact ⟨_,_,O,J⟩
 | splice J=>rw [oY] at I;subst I;exact ⟨_,_,O,J⟩
 | run J=>rw [oY] at I;subst I;exact ⟨_,_,O.safe _,J⟩
 | lift J _ _=>rw [oY] at I;subst I;exact ⟨_,_,O,J⟩
theorem zNY (s:ByteArray):(if zGg s=1 then tInt else tBool)=(if zf s=2 then tInt else tBool)/\(zf s=2\/zf s=3):=by
 unfold zGg zf wW
 by_cases I:s=bytes [38]
 ·simp [I]
 ·by_cases J:s=bytes [124]
  ·simp [J]
  ·by_cases O:s=bytes [33]
   ·simp [O]
   ·simp [I,J,O]
/-- a rule applies -/
theorem zRQ {e:Tm} {r:Rho} {u:Ty} (he:e.ok=true) (hl:e.lev 0=true) (h:HT r e 0 u) (hr:Lv r) (J:e.res=false) (Y:e.kd≠10) (I:∀ x∈e.as.take (uZ e.kd e.as.length),x.res=true):e.apl.2≠0:=by
 cases h with
 | var h _=>exact absurd (hr _ _ _ h) (by decide)
 | int=>cases J
 | bool=>cases J
 | lam _ _=>cases J
 | fix _ _ _=>cases J
 | quote _ _=>exact absurd rfl Y
 | @op _ nm ot m ty re l _ h1=>
   show ((Tm.mk 4 nm ot m ty re l).opr l).2≠0
   unfold Tm.opr
   rw [if_pos]
   ·exact (by decide:(1:Int)≠0)
   ·rw [oV]
    intro x hx
    have aa:=I x (by simpa [Tm.as,Tm.kd,uZ] using hx)
    have U:=h1 x hx
    obtain ⟨a1,a2⟩:=zNY nm
    rw [a1] at U
    obtain ⟨c1,c2,_,_⟩:=tN U aa
    show (x.kd==zf nm)=true
    rw [nj]
    rcases a2 with a2 | a2
    ·rw [a2];exact c1 (if_pos a2)
    ·rw [a2];exact c2 (if_neg (by omega))
 | @ite _ nm ot m ty re a b c _ _ ha O hc=>
   have ra:=I a (by simp [Tm.as,Tm.kd,uZ])
   show (if a.kd=3 then (([a,b,c].getD (2 - a.no).toNat tm0,2):Tm × Int) else (.mk 5 nm ot m ty re [a,b,c],0)).2≠0
   rw [if_pos ((tN ha ra).2.1 rfl)]
   exact (by decide:(2:Int)≠0)
 | @app _ nm ot m ty re f x _ ta _ hf hx=>
   have rf:=I f (by simp [Tm.as,Tm.kd,uZ])
   show (if f.kd=6 then (((f.pt 0).sb f.nm x,3):Tm × Int) else if f.kd=9 then ((((f.pt 0).sb f.nm f).sb f.ot x),4) else (.mk 7 nm ot m ty re [f,x],0)).2≠0
   rcases (tN hf rf).2.2.1 _ _ rfl with h | h
   ·rw [if_pos h];exact (by decide:(3:Int)≠0)
   ·rw [if_neg (by omega),if_pos h];exact (by decide:(4:Int)≠0)
 | @lt _ nm ot m ty re a b _ t _ ha O=>exact (by decide:(5:Int)≠0)
 | @splice _ nm ot m ty re b _ _ O=>
   have h2:(inB 0 0 2&&uC [b] (0 - 1))=true:=hl
   simp only [uC,oJ] at h2
   cases b with
   | mk k2 ab ac m2 ae ah l2=>
   have h3:=h2.2.1
   simp only [Tm.lev,oJ] at h3
   exact absurd h3.1 (by decide)
 | @run _ nm ot m ty re b _ t O=>
   have rb:=I b (by simp [Tm.as,Tm.kd,uZ])
   show (if b.kd=10 then ((b.pt 0,7):Tm × Int) else (.mk 12 nm ot m ty re [b],0)).2≠0
   rw [if_pos ((tN O rb).2.2.2 _ rfl)]
   exact (by decide:(7:Int)≠0)
 | @lift _ nm ot m ty re b _ t O U hv=>
   have rb:=I b (by simp [Tm.as,Tm.kd,uZ])
   show (if b.kd=2\/b.kd=3 then ((Tm.nod 10 [b],8):Tm × Int) else (.mk 13 nm ot m ty re [b],0)).2≠0
   obtain ⟨c1,c2,_,_⟩:=tN O rb
   rw [if_pos]
   ·exact (by decide:(8:Int)≠0)
   ·rcases zOR O.valid U with h | h
    ·exact .inl (c1 h)
    ·exact .inr (c2 h)
def zSK (S:Tm->Tm × Int) (f:Nat):Prop:=∀ e r u,e.dp<=f->e.ok=true->e.lev 0=true->HT r e 0 u->Lv r->e.res=false->(S e).2≠0
theorem zKk {k:Int} {nm ot:ByteArray} {m:Int} {ty re:Ty} {l:List Tm} {n:Int} (h:(Tm.mk k nm ot m ty re l).lev n=true):∀ x∈l,x.lev (zR k n)=true:=λx I=>by
 simp only [Tm.lev,oJ] at h
 exact zBb h.2 I
theorem zRU {S:Tm->Tm × Int} {f:Nat} (hS:zSK S f):∀ (t:Tm) (m:Int) (r:Rho) (u:Ty),t.dp<=f->t.ok=true->t.lev m=true->1<=m->HT r t m u->Lv r ->
  (t.made m=true->(t.cod S m).2.2=false)/\(t.made m=false->(t.cod S m).2.2=true/\(t.cod S m).2.1≠0):=by
 refine Tm.ind λk nm ot n ty re l ih m r u hd he hl hm h hr=>?_
 have nd:=yz he
 have Y:∀ x∈l,x.dp<=f:=λx O=>by
  have:=uD (k:=k) (nm:=nm) (ot:=ot) (n:=n) (ty:=ty) (re:=re) O
  omega
 have aa:=zKk hl
 simp only [Tm.cod,Tm.made]
 by_cases hk:k=11/\m=1
 ·rw [if_pos hk]
  obtain ⟨rfl,rfl⟩:=hk
  refine ⟨λh=>by simp at h,λ_=>?_⟩
  cases h with
  | @splice _ _ _ _ _ _ b _ _ hb=>
  show (if b.res then (if b.kd=10 then ((b.pt 0,6,true):Tm × Int × Bool) else (.mk 11 nm ot n ty re [b],0,true)) else (.mk 11 nm ot n ty re [(S b).1],(S b).2,true)).2.2=true/\(if b.res then (if b.kd=10 then ((b.pt 0,6,true):Tm × Int × Bool) else (.mk 11 nm ot n ty re [b],0,true)) else (.mk 11 nm ot n ty re [(S b).1],(S b).2,true)).2.1≠0
  by_cases J:b.res=true
  ·rw [if_pos J,if_pos ((tN hb J).2.2.2 _ rfl)]
   exact ⟨rfl,(by decide:(6:Int)≠0)⟩
  ·rw [if_neg J]
   exact ⟨rfl,hS b r _ (Y b (by simp)) (nd.sub b (by simp)) (aa b (by simp)) hb hr (by simpa using J)⟩
 ·rw [if_neg hk]
  have e1:(!(k==11&&m==1))=true:=by
   simp only [nL,Bool.and_eq_false_iff,beq_eq_false_iff_ne]
   by_cases U:k=11
   ·exact .inr λh2=>hk ⟨U,h2⟩
   ·exact .inl U
  rw [e1,lD]
  have ac:1<=zR k m:=by
   unfold zR
   split
   ·omega
   ·split
    ·rename_i ae
     have:¬m=1:=λe=>hk ⟨ae,e⟩
     omega
    ·exact hm
  have ak:=nd.ar
  have hp:=zOb h (λh=>by
   have:zEX k nm=0:=by unfold zEX;rw [if_pos h]
   exact oU (by omega)) hr hm
  have key:∀ xs:List Tm,(∀ x∈xs,x∈l)->(wB xs (zR k m)=true->yB S xs (zR k m)=none)/\(wB xs (zR k m)=false->∃ l' r,yB S xs (zR k m)=some (l',r)/\r≠0):=by
   intro xs
   induction xs with
   | nil=>intro _;exact ⟨λ_=>rfl,λh=>by simp [wB] at h⟩
   | cons x xs ah=>
     intro O
     have I:=O x (by simp)
     obtain ⟨r',u',ai,aj⟩:=hp x I
     obtain ⟨p1,p2⟩:=ih x I _ r' u' (Y x I) (nd.sub x I) (aa x I) ac aj ai
     obtain ⟨q1,q2⟩:=ah λy hy=>O y (by simp [hy])
     simp only [wB,yB]
     cases ab:x.made (zR k m) with
     | false=>
       obtain ⟨p3,p4⟩:=p2 ab
       rw [p3]
       exact ⟨λh=>by simp at h,λ_=>⟨_,_,rfl,p4⟩⟩
     | true=>
       rw [p1 ab,lD]
       refine ⟨λh=>by rw [q1 h];rfl,λh=>?_⟩
       obtain ⟨l',r2,U,h2⟩:=q2 h
       rw [U]
       exact ⟨_,_,rfl,h2⟩
  obtain ⟨k1,k2⟩:=key l λx O=>O
  refine ⟨λh=>by rw [k1 h],λh=>?_⟩
  obtain ⟨l',r2,U,h2⟩:=k2 h
  rw [U]
  exact ⟨rfl,h2⟩
theorem zPq:∀ f,zSK (Tm.stp f) f
 | 0,e,r,u,hd,_,_,_,_,_=>absurd (Tm.dp_pos e) (by omega)
 | f + 1,.mk k nm ot n ty re l,r,u,hd,he,hl,h,O,U=>by
   have ih:=zPq f
   have nd:=yz he
   have ab:∀ x∈l,x.dp<=f:=λx hx=>by
    have:=uD (k:=k) (nm:=nm) (ot:=ot) (n:=n) (ty:=ty) (re:=re) hx
    omega
   have ac:=zKk hl
   simp only [Tm.stp]
   rw [if_neg (by rw [U];decide)]
   by_cases Y:(Tm.mk k nm ot n ty re l).kd=10
   ·rw [if_pos Y]
    have Y:k=10:=Y
    subst Y
    cases h with
    | @quote _ _ _ _ _ _ b _ t hb hv=>
    have ah:b.made 1=false:=by
     unfold Tm.res at U
     rw [hl] at U
     exact U
    exact ((zRU ih b 1 r t (ab b (by simp)) (nd.sub b (by simp)) (ac b (by simp)) (by decide) hb O).2 ah).2
   ·rw [if_neg Y]
    cases hg:goS (Tm.stp f) (Tm.mk k nm ot n ty re l) (l.take (uZ k l.length)) 0 with
    | none=>exact zRQ he hl h O U Y (zKH.1 hg)
    | some p=>
      obtain ⟨j,x,g1,g2,rfl⟩:=zCb hg
      obtain ⟨I,ae⟩:j<uZ k l.length/\l[j]?=some x:=by
       rw [ob] at g1
       split at g1
       ·exact ⟨‹_›,g1⟩
       ·cases g1
      have J:=oB ae
      have ai:zR k 0=0:=by
       unfold zR
       rw [if_neg (show ¬k=10 from Y),if_neg]
       intro e
       subst e
       exact absurd I (by simp [uZ])
      have aa:=ac x J
      rw [ai] at aa
      have typed:∃ r' u',Lv r'/\HT r' x 0 u':=by
       cases h with
       | var _ _=>exact absurd I (by simp [uZ])
       | int=>exact absurd I (by simp [uZ])
       | bool=>exact absurd I (by simp [uZ])
       | op h=>exact ⟨_,_,O,h x J⟩
       | ite ha hb hc=>
         simp only [oF,ol,mD] at J
         rcases J with rfl | rfl | rfl
         ·exact ⟨_,_,O,ha⟩
         ·exact ⟨_,_,O,hb⟩
         ·exact ⟨_,_,O,hc⟩
       | lam _ _=>exact absurd I (by simp [uZ])
       | app hf aj=>
         simp only [oF,ol,mD] at J
         rcases J with rfl | rfl
         ·exact ⟨_,_,O,hf⟩
         ·exact ⟨_,_,O,aj⟩
       | @lt _ _ _ _ _ _ a b _ t _ ha hb=>
         have h1:j<1:=I
         have:j=0:=by omega
         subst this
         cases ae
         exact ⟨_,_,O,ha⟩
       | fix _ _ _=>exact absurd I (by simp [uZ])
       | quote _ _=>exact absurd rfl Y
       | splice _=>exact absurd I (by simp [uZ])
       | run hb=>rw [oY] at J;subst J;exact ⟨_,_,O.safe _,hb⟩
       | lift hb _ _=>rw [oY] at J;subst J;exact ⟨_,_,O,hb⟩
      obtain ⟨r',u',ak,al⟩:=typed
      exact ih x r' u' (ab x J) (nd.sub x J) aa al ak g2
/-- a program is a result or has a step, and never both -/
theorem zNs {e:Tm} {u:Ty} (h:zBc [] e 0=some u):e.res=decide (e.step.2=0):=by
 unfold zBc at h
 split at h
 ·rename_i U
  have I:=U.2
  simp only [qx,oJ] at I
  have J:=zLh e I.1 [] 0 u h
  have hr:Lv (xW []):=λs m t J=>by rw [zL0 m [] (by simp)] at J;cases J
  unfold Tm.step
  rw [if_pos U.2]
  cases Y:e.res with
  | true=>
    have e1:(e.stp e.dp)=(e,0):=by
     have O:=Tm.dp_pos e
     obtain ⟨f,hf⟩:∃ f,e.dp=f+1:=⟨e.dp - 1,by omega⟩
     rw [hf]
     cases e with
     | mk k nm ot n ty re l=>simp only [Tm.stp];rw [if_pos Y]
    rw [e1]
    simp
  | false=>
    have O:=zPq e.dp e (xW []) u (oD _) I.1 I.2 J hr Y
    rw [if_neg O]
    simp [O]
 ·cases h
end Go.Proofs.YtfajiphkncipoaaGreatDoor
set_option maxRecDepth 100000
namespace Go.Proofs.YtfajiphkncipoaaGreatDoor
open Go Go.Proofs Go.Proofs.Tryz Go.IntWalk
theorem Tm.Sm.up {W D W' D':Nat} {e:Tm} (h:e.Sm W D) (I:W<=W') (J:D<=D'):e.Sm W' D':=⟨h.g,oS h.w I,oS h.d J⟩
/-- some term, not too deep, not too wide -/
def SmD (d:D):Prop:=∃ t:Tm,t.Is d/\t.Sm 4592700000 170100000
theorem zMO {d:D} (h:Some 2100000 d):∃ t:Tm,t.Is d/\t.Sm 700000 2100000:=by
 obtain ⟨t,I,hc⟩:=h
 have J:=t.vc_cnt
 have O:=t.wd_vc
 have U:=t.dp_cnt
 exact ⟨t,I,Tm.G_cnt t (by omega),by omega,by omega⟩
/-- a program after some steps, drawn -/
theorem zJF {es:List D} {i:Int} (U:Cu es i) (a:Option Addr) (c:Nat) (h:Int) (N:Nat) (Q:QT [.ag 9,.sl 0,.i,.i])
  (hQ:∀ d' a' I c' i' h' N',N<=N'->Cu I i'->SmD d'->Q d' a' I c' i' h' N'):BCalls prog 31 [.ag 9,.sl 0,.i,.i] [.pb 0 0 0 0] [.var [.sv a 0 es c,.j i,.j h]] N Q:=by
 refine zAu N a es c i h Q λE _ N1 ah=>zOa U a c h N1 _ λd a1 ai c1 i1 h1 N2 aj Y hd _ _ _ N3 ak=>yq Y 5 (by omega) a1 c1 h1 N3 _ λq a2 aa c2 i2 h2 N4 al ab q0 q5 _ _ _=>?_
 have q5:=q5 (by omega)
 have p9:∀ j:Nat,j<=4->9 ^ j<=6561:=λj J=>mX (n:=9) (by omega) J
 have p3:∀ j:Nat,j<=4->3 ^ j<=81:=λj J=>mX (n:=3) (by omega) J
 have loop:∀ (m j:Nat) (d:D) (N':Nat),j+m=q.toNat->N<=N'->(∃ t:Tm,t.Is d/\t.Sm (9 ^ j*700000) (3 ^ j*2100000)) ->
   xp E Q N q j a2 aa c2 i2 h2 0 (bytes []) (bytes []) 0 0 Option.none [] 0 0 Option.none [] 0 Option.none [] 0 d N':=by
  intro m
  induction m with
  | zero=>
    intro j d N' J ac hd
    have e:decide ((j:Int)<q)=false:=mN (by omega)
    refine sK _ _ _ _ _ _ _ _ _ _ _ _ _ _ _ _ _ _ _ _ _ _ _ _ _ _ _ ?_
    rw [e]
    obtain ⟨t,O,hs⟩:=hd
    have:=p9 j (by omega)
    have:=p3 j (by omega)
    exact ⟨zY,λN5 ae=>hQ _ _ _ _ _ _ _ (by omega) ab ⟨t,O,hs.up (by omega) (by omega)⟩⟩
  | succ m ih=>
    intro j d N' J ac hd
    have e:decide ((j:Int)<q)=true:=mJ (by omega)
    refine sK _ _ _ _ _ _ _ _ _ _ _ _ _ _ _ _ _ _ _ _ _ _ _ _ _ _ _ ?_
    rw [e]
    obtain ⟨t,O,hs⟩:=hd
    have b9:=p9 j (by omega)
    have b3:=p3 j (by omega)
    have am:=hs.w
    have ao:=hs.d
    have o9:1<=9 ^ j*700000:=by have:=Nat.one_le_pow j 9 (by omega);omega
    intro N5 ae
    refine zIL O hs.g (by omega) (by omega) N5 _ λdx N6 aq hx _ _=>?_
    have hw:IntKind.i64.wrap ((j:Int)+1)=((j+1:Nat):Int):=by rw [i64_in _ (by omega)];omega
    rw [hw]
    exact ih (j+1) dx N6 (by omega) (by omega) ⟨_,hx,(zQz o9 hs).up (by rw [mq];omega) (by rw [mq];omega)⟩
 obtain ⟨t,O,hs⟩:=zMO hd
 have h0:=loop q.toNat 0 d N4 (by omega) (by omega) ⟨t,O,by simpa using hs⟩
 rw [show ((0:Nat):Int)=0 from rfl] at h0
 exact h0
/-- a term to be stepped, drawn -/
theorem zLo {es:List D} (hb:∀ d∈es,∃ n:Int,d=.lit (.int .u8 n)) (hl:es.length<=1073741824) (a:Option Addr) (c:Nat) (N:Nat) (Q:QT [.ag 9])
  (hQ:∀ d N',N<=N'->SmD d->Q d N'):ACalls prog 8 [.ag 9] [.sv a 0 es c] N Q:=by
 refine zD5 N a es c Q λ_ N1 ah=>zSu hb hl a c N1 _ λh N2 ai O _ N3 aj=>rn O 4 (by omega) a c h N3 _ λb a1 ak c1 i1 h1 N4 al J _ _=>Br.of (λ_ U Y=>?_) λ_ U Y=>?_
 ·refine zQo J a1 c1 h1 U _ λd' a3 aa c3 i3 h3 N8 ab ac I _ _ _ N9 ae=>hQ _ _ (by omega) ?_
  obtain ⟨t,ht,hs⟩:=zMO (I.mono (by omega))
  exact ⟨t,ht,hs.up (by omega) (by omega)⟩
 ·exact zJF J a1 c1 h1 U _ λd' a3 aa c3 i3 h3 N8 ab ac I _ _ _ N9 ae=>hQ _ _ (by omega) I
theorem zF9 {e:Tm} {d:D} (U:e.Is d) (hG:e.G) (J:e.dp<=1073741824):uX 11 [.dg 9 d] (e.ok&&e.res):=λN Q Y=>
 zC9 N d Q λ_ N1 aa=>u9 e d U hG N1 _ λN2 ab _=>Br.of (λI N3 O=>yQ U I J N3 _ λN4 ac _ N5 ae=>Qb (Y _ (by omega)) (by rw [I,lD])) λI N3 O=>Qb (Y _ (by omega)) (by rw [I,Bool.false_and])
theorem zHw {es:List D} (hb:∀ d∈es,∃ n:Int,d=.lit (.int .u8 n)) (a:Option Addr) (c:Nat) (N:Nat) :
  ACalls prog 3 [.bool] [.sv a 0 es c] N (λr _=>r=true):=by
 refine zA9 N a es c _ λ_ N1 ai=>zLG N1 a es c _ λ_ N2 aj _=>Br.dec (λ_ N3 _=>rfl) λY N4 ak=>?_
 refine zLo hb (by omega) a c N4 _ λd N5 al hd _ _ N6 am=>?_
 obtain ⟨t,J,hs⟩:=hd
 have ao:=hs.w
 have aq:=hs.d
 refine zHx J hs.g (by omega) (by omega) N6 _ λdx N7 au hx _ _ _=>⟨⟨rfl,rfl⟩,λa1 N8 aw _ N9 ax=>?_⟩
 refine zEd (g:=[]) ⟨by simp,rfl⟩ (by simp) J hs.g (by omega) a1 0 0 N9 _ λy ay aa hy _ _=>?_
 cases I:zBc [] t 0 with
 | none=>exact Br.not (λ_ az ab=>rfl) λh=>by cases h
 | some u=>
   refine Br.not (λh=>by cases h) λ_ O ac=>zF9 J hs.g (by omega) O _ λa6 ae _ a7 ah=>?_
   have U:t.ok=true:=by
    unfold zBc at I
    split at I
    ·rename_i h1;exact (Bool.and_eq_true_iff.1 h1.2).1
    ·cases I
   rw [U,lD,zNs I]
   show (decide (t.step.2=0)==(t.step.2==0))=true
   by_cases h0:t.step.2=0
   ·simp [h0]
   ·simp [h0]
end Go.Proofs.YtfajiphkncipoaaGreatDoor
