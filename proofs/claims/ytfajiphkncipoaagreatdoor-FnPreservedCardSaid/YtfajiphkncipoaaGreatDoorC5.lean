/- A run's arguments, drawn; equal results. -/
import Derived.Test.YtfajiphkncipoaaGreatDoorC4
import Derived.Test.YtfajiphkncipoaaGreatDoorB4
import Derived.Test.YtfajiphkncipoaaGreatDoorKr
import Derived.Test.YtfajiphkncipoaaGreatDoorKd
import Derived.Test.YtfajiphkncipoaaGreatDoorB2
import Derived.Test.YtfajiphkncipoaaGreatDoorB3
import Derived.Test.YtfajiphkncipoaaGreatDoorB6
set_option linter.unusedVariables false
set_option linter.unusedSimpArgs false
set_option maxRecDepth 100000
namespace Go.Proofs.YtfajiphkncipoaaGreatDoor
open Go Go.Proofs Go.Proofs.Tryz Go.IntWalk
theorem zGK:∀ (t:Tm) (d e:D),t.Is d->t.Is e->ur 14 [.dg 9 d,.dg 9 e] true:=by
 refine Tm.ind λk nm ot m ty re l ih d e hd he N Q hQ=>?_
 obtain ⟨t0,t1,r0,r1,a,es,c,rfl,hh,O,U⟩:=Tm.is_mk.1 hd
 obtain ⟨u0,u1,v0,v1,a',ai,c',rfl,Y,aa,J⟩:=Tm.is_mk.1 he
 have hl:=U.len
 have aj:=J.len
 refine zCy N _ _ Q λ_ _=>⟨k,rfl,k,rfl,Br.bne (λh=>absurd rfl h) λ_=>⟨nm,rfl,nm,rfl,Br.of (λh=>by simp at h) λ_=>⟨ot,rfl,ot,rfl,Br.of (λh=>by simp at h) λ_=>⟨m,rfl,m,rfl,Br.bne (λh=>absurd rfl h) λ_ N1 ak=>?_⟩⟩⟩⟩
 refine zj ty ty _ _ hh.ty Y.ty N1 _ λN2 al _=>Br.of (λh=>by rw [tl] at h;cases h) λ_ N3 am=>zj re re _ _ hh.re Y.re N3 _ λN4 ao _=>Br.of (λh=>by rw [tl] at h;cases h) λ_=>⟨_,_,_,rfl,_,_,_,rfl,Br.bne (λh=>by omega) λ_=>?_⟩
 refine up U O (λi xs=>∀ (N':Nat),N<=N'->xO Q N i _ _ N') ?_ ?_ N4 (by omega)
 ·intro i ab hi N' ac
  exact tH _ _ _ _ _ _ ⟨_,_,_,rfl,Br.of (λh=>by rw [ab] at h;cases h) λ_ N5 ae=>hQ _ (by omega)⟩
 ·intro i x xs I _ ah N' ac
  have hb:=I.b
  refine tH _ _ _ _ _ _ ⟨_,_,_,rfl,Br.of (λ_=>⟨_,_,_,rfl,hb,_,_,_,rfl,⟨by omega,by omega⟩,λN5 ae=>?_⟩) λh=>by rw [I.lt] at h;cases h⟩
  rw [oJ,I.w]
  exact ih x I.m _ _ I.r (J.get I.g) N5 _ λN6 aq _=>Br.of (λh=>by cases h) λ_=>ah N6 (by omega)
/-- no deeper, no wider than this; no more names are free -/
structure Gr0 (W D:Nat) (t' t:Tm):Prop where
 f:∀ s∈t'.fv,s∈t.fv
 w:t'.wd<=9*W
 d:t'.dp<=D*t.dp
 b:t'.bd<=2*t.bd
/-- and a term, if few names are free and bound -/
structure Gr (W D:Nat) (t' t:Tm):Prop extends Gr0 W D t' t where
 o:t.ok=true->t.fv.length+t.bd<=331->t'.ok=true
theorem zPT {e b:Tm} {x:ByteArray}:(e.sb x b).bd<=e.bd+b.bd:=zQo _ _ _ _ (oD _)
theorem zLp {e b:Tm} {x:ByteArray} (I:e.ok=true) (J:b.ok=true) (h:b.fv.length+(e.fv.length+e.bd)<=995):(e.sb x b).ok=true:=zOd _ e x b (oD _) I J h
theorem zQZ {e b:Tm} {x:ByteArray}:(e.sb x b).dp<=e.dp+b.dp:=zQz _ _ _ _
theorem zQk {e b:Tm} {x:ByteArray} {s:ByteArray} (h:s∈(e.sb x b).fv):(s∈e.fv/\s≠x)\/(s∈b.fv/\x∈e.fv):=zIa _ _ _ _ (oD _) s h
theorem zPu {e b:Tm} {x:ByteArray} (h:e.A3):(e.sb x b).wd<=e.wd+4*b.wd:=by
 have I:=zOl e.dp e x b (oD _) h
 have J:=b.fv_wd
 unfold Tm.sb
 omega
theorem zUX {e b:Tm} {x:ByteArray}:(e.sb x b).fv.length<=e.fv.length+b.fv.length:=zOt (oD _)
/-- a part's free names are the form's, but for what it binds -/
theorem xw {k:Int} (I:k≠1) {nm ot:ByteArray} {n:Int} {ty re:Ty} {l:List Tm} {i:Nat} (hi:i<l.length) {s:ByteArray} (hs:s∈(l.getD i tm0).fv) (hn:s∉bdN k nm ot l.length\/(i:Int)≠zQ k l.length):s∈(Tm.mk k nm ot n ty re l).fv:=by
 refine zDs I (zX hi) ?_
 by_cases h:(i:Int)=zQ k l.length
 ·rw [pF h]
  refine yT.2 ⟨hs,?_⟩
  rcases hn with hn | hn
  ·exact hn
  ·exact absurd h hn
 ·rw [vM h];exact hs
theorem vu {k:Int} (I:k≠1) {nm ot:ByteArray} {n:Int} {ty re:Ty} {l:List Tm} {W:Nat}:(Tm.mk k nm ot n ty re l).wd<=W↔vJ l<=W/\rI l<=W:=by
 simp only [Tm.wd,if_neg I]
 omega
theorem zTn (k n:Int) (I:k≠1):(zJP k n).wd=0:=by simp [zJP,Tm.wd,I,vJ,rI]
/-- what a rule makes -/
theorem zRR {e:Tm} {W:Nat} (he:e.ok=true) (hw:e.wd<=W) (hW:1<=W):Gr0 W 3 e.apl.1 e:=by
 have J:Gr0 W 3 e e:=⟨λ_ h=>h,by omega,by omega,by omega⟩
 cases e with
 | mk k nm ot n ty re l=>
 have nd:=xJ he
 obtain ⟨a1,a2,a3,a4,a5⟩:=y9 he
 have ao:(Tm.mk k nm ot n ty re l).bd=bn k+wS l:=by simp only [Tm.bd]
 have part:k≠1->∀ i,i<l.length->((l.getD i tm0).wd<=W/\(l.getD i tm0).bd<=wS l)/\(l.getD i tm0).dp+1<=(Tm.mk k nm ot n ty re l).dp/\(l.getD i tm0).ok=true:=λhk i hi=>by
  have hm:=zI hi
  have:=(vu hk).1 hw
  exact ⟨⟨oO (yE hm) this.2,yL hm⟩,dp_mem hm,nd.sub _ hm⟩
 simp only [Tm.apl]
 by_cases h4:k=4
 ·rw [if_pos h4]
  unfold Tm.opr
  split
  ·have hk:rL (Tm.mk k nm ot n ty re l).nm≠1:=by unfold rL;split<;>decide
   have ai:bn (rL (Tm.mk k nm ot n ty re l).nm)=0:=by unfold rL;split<;>rfl
   refine ⟨λs hs=>?_,?_,?_,?_⟩
   ·simp only [zJP,Tm.fv,if_neg hk,uF] at hs
    simp at hs
   ·rw [zTn _ _ hk];omega
   ·simp only [zJP,Tm.dp,wT];omega
   ·simp only [zJP,Tm.bd,wS,ai];omega
  ·exact J
 ·rw [if_neg h4]
  by_cases h5:k=5
  ·rw [if_pos h5]
   split
   ·rename_i h3
    have hl:=a3 h5
    have hn:=zHh (part (by omega) 0 (by omega)).2.2 h3
    obtain ⟨⟨b1,b4⟩,b2,b3⟩:=part (by omega) (2 - (l.getD 0 tm0).no).toNat (by omega)
    show Gr0 W 3 (l.getD (2 - (l.getD 0 tm0).no).toNat tm0) _
    refine ⟨λs hs=>xw (by omega) (by omega) hs (.inr ?_),by omega,by omega,by omega⟩
    have:zQ k l.length = -1:=by unfold zQ;rw [if_neg (by omega),if_neg (by omega),if_neg (by omega)]
    omega
   ·exact J
  ·rw [if_neg h5]
   by_cases h7:k=7
   ·rw [if_pos h7]
    have hl:=a2 (.inl h7)
    obtain ⟨⟨va,vd⟩,vb,O⟩:=part (by omega) 0 (by omega)
    obtain ⟨⟨x1,x4⟩,x2,x3⟩:=part (by omega) 1 (by omega)
    have hb:zQ k l.length = -1:=by unfold zQ;rw [if_neg (by omega),if_neg (by omega),if_neg (by omega)]
    have fin:∀ s,s∈(l.getD 0 tm0).fv\/s∈(l.getD 1 tm0).fv->s∈(Tm.mk k nm ot n ty re l).fv:=λs hs=>by
     rcases hs with hs | hs
     ·exact xw (by omega) (by omega) hs (.inr (by omega))
     ·exact xw (by omega) (by omega) hs (.inr (by omega))
    generalize l.getD 0 tm0=g at va vd vb O fin
    generalize l.getD 1 tm0=y at x1 x4 x2 x3 fin
    cases g with
    | mk I gn go U gt Y gl=>
    simp only [Tm.bd] at vd
    by_cases h6:I=6
    ·rw [if_pos (show (Tm.mk I gn go U gt Y gl).kd=6 from h6)]
     have aa:=(y9 O).1 (.inl h6)
     have hm:=zI (l:=gl) (i:=0) (by omega)
     have q1:=yE hm
     have q2:=(vu (show I≠1 by omega)).1 va
     have q3:=dp_mem (k:=I) (nm:=gn) (ot:=go) (n:=U) (ty:=gt) (re:=Y) hm
     have q4:=zPu (b:=y) (x:=gn) (zOU _ ((xJ O).sub _ hm))
     have q5:=zQZ (e:=gl.getD 0 tm0) (b:=y) (x:=gn)
     have q6:=zPT (e:=gl.getD 0 tm0) (b:=y) (x:=gn)
     have q7:=yL hm
     show Gr0 W 3 ((gl.getD 0 tm0).sb gn y) _
     refine ⟨λs hs=>?_,by omega,by omega,by omega⟩
     rcases zQk hs with ⟨c1,c2⟩ | ⟨c1,_⟩
     ·refine fin s (.inl (xw (by omega) (by omega) c1 (.inl ?_)))
      unfold bdN
      rw [if_pos ⟨h6,aa⟩]
      simpa using c2
     ·exact fin s (.inr c1)
    ·rw [if_neg (show ¬(Tm.mk I gn go U gt Y gl).kd=6 from h6)]
     by_cases h9:I=9
     ·rw [if_pos (show (Tm.mk I gn go U gt Y gl).kd=9 from h9)]
      have aa:=(y9 O).1 (.inr (.inl h9))
      have hm:=zI (l:=gl) (i:=0) (by omega)
      have q1:=yE hm
      have q2:=(vu (show I≠1 by omega)).1 va
      have q3:=dp_mem (k:=I) (nm:=gn) (ot:=go) (n:=U) (ty:=gt) (re:=Y) hm
      have qa:=zOU _ ((xJ O).sub _ hm)
      show Gr0 W 3 (((gl.getD 0 tm0).sb gn (Tm.mk I gn go U gt Y gl)).sb go y) _
      have q4:=zPu (b:=Tm.mk I gn go U gt Y gl) (x:=gn) qa
      have q5:=zQZ (e:=gl.getD 0 tm0) (b:=Tm.mk I gn go U gt Y gl) (x:=gn)
      have q6:=zPu (b:=y) (x:=go) (zNx (gl.getD 0 tm0).dp _ gn _ qa (zOU _ O))
      have q7:=zQZ (e:=(gl.getD 0 tm0).sb gn (Tm.mk I gn go U gt Y gl)) (b:=y) (x:=go)
      have q8:=yL hm
      refine ⟨λs hs=>?_,?_,by omega,?_⟩
      ·rcases zQk hs with ⟨c1,c2⟩ | ⟨c1,_⟩
       ·refine fin s (.inl ?_)
        rcases zQk c1 with ⟨d1,d2⟩ | ⟨d1,_⟩
        ·refine xw (by omega) (by omega) d1 (.inl ?_)
         unfold bdN
         rw [if_neg (by omega),if_neg (by omega),if_pos ⟨h9,aa⟩]
         simp [c2,d2]
        ·exact d1
       ·exact fin s (.inr c1)
      ·have:(((gl.getD 0 tm0).sb gn (Tm.mk I gn go U gt Y gl)).sb go y).wd<=((gl.getD 0 tm0).sb gn (Tm.mk I gn go U gt Y gl)).wd+4*y.wd:=q6
       omega
      ·have aj:go∉(Tm.mk I gn go U gt Y gl).fv:=λhc=>by
        rcases Tm.fv_mem.1 hc with ⟨h,_⟩ | ⟨_,j,z,hj,hz⟩
        ·omega
        ·have ak:j=0:=by have:=(oC.1 hj).1;omega
         subst ak
         rw [pF (by unfold zQ;rw [if_neg (by omega),if_neg (by omega),if_pos ⟨h9,aa⟩];rfl),yT] at hz
         refine hz.2 ?_
         unfold bdN
         rw [if_neg (by omega),if_neg (by omega),if_pos ⟨h9,aa⟩]
         simp
       have al:go≠gn:=λhc=>(zIF (m:=gl.length) (by unfold zQ;rw [if_neg (by omega),if_neg (by omega),if_pos ⟨h9,aa⟩];decide) (Tm.ok_mk.1 O).2.1 |>.2 h9).2 hc.symm
       have q9:=zPT (e:=gl.getD 0 tm0) (b:=Tm.mk I gn go U gt Y gl) (x:=gn)
       have e9:(Tm.mk I gn go U gt Y gl).bd=bn I+wS gl:=by simp only [Tm.bd]
       by_cases ac:go∈((gl.getD 0 tm0).sb gn (Tm.mk I gn go U gt Y gl)).fv
       ·have u1:=zK2 _ _ go y (oD _) ac
        have u2:=zOp (gl.getD 0 tm0).dp (gl.getD 0 tm0) gn _ go (oD _) aj al ac
        have u3:=(gl.getD 0 tm0).ov_bd go
        have u1:(((gl.getD 0 tm0).sb gn (Tm.mk I gn go U gt Y gl)).sb go y).bd<=max ((gl.getD 0 tm0).sb gn (Tm.mk I gn go U gt Y gl)).bd (((gl.getD 0 tm0).sb gn (Tm.mk I gn go U gt Y gl)).ov go+y.bd):=u1
        have u2:((gl.getD 0 tm0).sb gn (Tm.mk I gn go U gt Y gl)).ov go<=(gl.getD 0 tm0).ov go:=u2
        omega
       ·have u1:((gl.getD 0 tm0).sb gn (Tm.mk I gn go U gt Y gl)).sb go y=(gl.getD 0 tm0).sb gn (Tm.mk I gn go U gt Y gl):=zCB _ _ _ _ ac
        rw [u1];omega
     ·rw [if_neg (show ¬(Tm.mk I gn go U gt Y gl).kd=9 from h9)];exact J
   ·rw [if_neg h7]
    by_cases h8:k=8
    ·rw [if_pos h8]
     have hl:=a2 (.inr h8)
     obtain ⟨⟨va,vd⟩,vb,O⟩:=part (by omega) 0 (by omega)
     obtain ⟨⟨x1,x4⟩,x2,x3⟩:=part (by omega) 1 (by omega)
     have hb:zQ k l.length=1:=by unfold zQ;rw [if_neg (by omega),if_pos ⟨h8,hl⟩]
     have am:bdN k nm ot l.length=[nm]:=by unfold bdN;rw [if_neg (by omega),if_pos ⟨h8,hl⟩]
     have q4:=zPu (b:=l.getD 0 tm0) (x:=nm) (zOU _ x3)
     have q5:=zQZ (e:=l.getD 1 tm0) (b:=l.getD 0 tm0) (x:=nm)
     have q6:=zPT (e:=l.getD 1 tm0) (b:=l.getD 0 tm0) (x:=nm)
     refine ⟨λs hs=>?_,by show ((l.getD 1 tm0).sb nm (l.getD 0 tm0)).wd<=_;omega,by show ((l.getD 1 tm0).sb nm (l.getD 0 tm0)).dp<=_;omega,by show ((l.getD 1 tm0).sb nm (l.getD 0 tm0)).bd<=_;omega⟩
     rcases zQk hs with ⟨c1,c2⟩ | ⟨c1,_⟩
     ·exact xw (by omega) (by omega) c1 (.inl (by rw [am];simpa using c2))
     ·exact xw (by omega) (by omega) c1 (.inr (by omega))
    ·rw [if_neg h8]
     by_cases ae:k=12
     ·rw [if_pos ae]
      split
      ·rename_i ab
       have hl:=a1 (.inr (.inr (.inr (.inr (.inl ae)))))
       obtain ⟨⟨va,vd⟩,vb,O⟩:=part (by omega) 0 (by omega)
       have hb:zQ k l.length = -1:=by unfold zQ;rw [if_neg (by omega),if_neg (by omega),if_neg (by omega)]
       have fin:∀ s,s∈(l.getD 0 tm0).fv->s∈(Tm.mk k nm ot n ty re l).fv:=λs hs=>xw (by omega) (by omega) hs (.inr (by omega))
       generalize l.getD 0 tm0=g at va vd vb O fin ab
       cases g with
       | mk I gn go U gt Y gl=>
       have ab:I=10:=ab
       have aa:=(y9 O).1 (.inr (.inr (.inl ab)))
       have hm:=zI (l:=gl) (i:=0) (by omega)
       have q1:=yE hm
       have q2:=(vu (show I≠1 by omega)).1 va
       have q3:=dp_mem (k:=I) (nm:=gn) (ot:=go) (n:=U) (ty:=gt) (re:=Y) hm
       have q4:=yL hm
       simp only [Tm.bd] at vd
       show Gr0 W 3 (gl.getD 0 tm0) _
       have aq:zQ I gl.length = -1:=by unfold zQ;rw [if_neg (by omega),if_neg (by omega),if_neg (by omega)]
       exact ⟨λs hs=>fin s (xw (by omega) (by omega) hs (.inr (by omega))),by omega,by omega,by omega⟩
      ·exact J
     ·rw [if_neg ae]
      by_cases ah:k=13
      ·rw [if_pos ah]
       split
       ·rename_i au
        have hl:=a1 (.inr (.inr (.inr (.inr (.inr ah)))))
        obtain ⟨⟨va,vd⟩,vb,O⟩:=part (by omega) 0 (by omega)
        have hb:zQ k l.length = -1:=by unfold zQ;rw [if_neg (by omega),if_neg (by omega),if_neg (by omega)]
        have aw:=(l.getD 0 tm0).fv_wd
        show Gr0 W 3 (Tm.nod 10 [l.getD 0 tm0]) _
        refine ⟨λs hs=>?_,?_,?_,?_⟩
        ·rcases Tm.fv_mem.1 hs with ⟨h,_⟩ | ⟨_,j,x,hj,hx⟩
         ·exact absurd h (by decide)
         ·match j,hj with
          | 0,hj=>
            cases hj
            have hx:s∈(l.getD 0 tm0).fv:=hx
            exact xw (by omega) (by omega) hx (.inr (by omega))
        ·refine (vu (by decide)).2 ⟨?_,?_⟩
         ·simp only [vJ];omega
         ·simp only [rI];omega
        ·simp only [Tm.nod,Tm.dp,wT] at vb ⊢
         omega
        ·simp only [Tm.nod,Tm.bd,wS,show bn 10=0 from rfl]
         omega
       ·exact J
      ·rw [if_neg ah];exact J
/-- what a rule makes is a term -/
theorem zSS {e:Tm} (J:e.ok=true) (hs:e.fv.length+e.bd<=331):e.apl.1.ok=true:=by
 cases e with
 | mk k nm ot n ty re l=>
 obtain ⟨h1,h2,h3⟩:=Tm.ok_mk.1 J
 obtain ⟨a1,a2,a3,a4,a5⟩:=y9 J
 have g:∀ i,i<l.length->(l.getD i tm0).ok=true:=λi hi=>h1 _ (zI hi)
 have mb:k≠1->∀ i,i<l.length->(l.getD i tm0).fv.length+(l.getD i tm0).bd<=331:=λI i hi=>oO (zJQ I (nm:=nm) (ot:=ot) (n:=n) (ty:=ty) (re:=re) (zI hi)).2 hs
 simp only [Tm.apl]
 split
 ·rename_i I
  unfold Tm.opr
  split
  ·refine zRu ?_
   simp only [Tm.nm]
   have Y:=zMH nm (l.getD 0 tm0).no (l.getD 1 tm0).no
   unfold rL
   by_cases U:zHI nm=true
   ·rw [if_pos U];exact .inl ⟨rfl,Y.1,Y.2⟩
   ·rw [if_neg U]
    simp only [zHI,mZ,nK,not_or] at U
    have:=zIQ U.1 U.2.1 U.2.2 (l.getD 0 tm0).no (l.getD 1 tm0).no
    exact .inr ⟨rfl,this.1,this.2⟩
  ·exact J
 ·split
  ·rename_i I
   split
   ·rename_i hb
    have:=zHh (g 0 (by have:=a3 I;omega)) hb
    refine g _ ?_
    have:=a3 I
    omega
   ·exact J
  ·split
   ·rename_i I
    have hl:=a2 (.inl I)
    have O:=g 0 (by omega)
    have q1:=g 1 (by omega)
    have m0:=mb (by omega) 0 (by omega)
    have m1:=mb (by omega) 1 (by omega)
    generalize l.getD 0 tm0=p at O m0 ⊢
    generalize l.getD 1 tm0=q at q1 m1 ⊢
    have hp:(p.kd=6\/p.kd=9)->(p.pt 0).ok=true/\(p.pt 0).fv.length+(p.pt 0).bd<=331:=λh=>by
     cases p with
     | mk pk pn po pm pt pr pl=>
     have hl:=(y9 O).1 (by simp only [Tm.kd] at h;omega)
     exact ⟨zSu O (by simp only [Tm.as];omega),oO (zJQ (by simp only [Tm.kd] at h;omega) (zI (l:=pl) (i:=0) (by omega))).2 m0⟩
    split
    ·rename_i h6
     obtain ⟨p1,p2⟩:=hp (.inl h6)
     exact zLp p1 q1 (by omega)
    ·split
     ·rename_i h9
      obtain ⟨p1,p2⟩:=hp (.inr h9)
      have p5:=zUX (e:=p.pt 0) (b:=p) (x:=p.nm)
      have p6:=zPT (e:=p.pt 0) (b:=p) (x:=p.nm)
      exact zLp (zLp p1 O (by omega)) q1 (by omega)
     ·exact J
   ·split
    ·rename_i I
     have hl:=a2 (.inr I)
     have m0:=mb (by omega) 0 (by omega)
     have m1:=mb (by omega) 1 (by omega)
     exact zLp (g 1 (by omega)) (g 0 (by omega)) (by omega)
    ·split
     ·rename_i I
      split
      ·rename_i aa
       have O:=g 0 (by have:=a1 (by omega);omega)
       refine zSu O ?_
       generalize l.getD 0 tm0=p at O aa ⊢
       cases p with
       | mk pk pn po pm pt pr pl=>
       have:=(y9 O).1 (by simp only [Tm.kd] at aa;omega)
       simp only [Tm.as];omega
      ·exact J
     ·split
      ·rename_i I
       split
       ·exact zSx (g 0 (by have:=a1 (by omega);omega))
       ·exact J
      ·exact J
theorem zTM {e:Tm} {W:Nat} (I:e.ok=true) (J:e.wd<=W) (O:1<=W):Gr W 3 e.apl.1 e:={ toGr0:=zRR I J O,o:=zSS }
theorem zR6 {at_:Int} {ns:List ByteArray} {i:Nat} {x y:Tm} (h:∀ s∈y.fv,s∈x.fv) {s:ByteArray} (hs:s∈fvI at_ ns i y):s∈fvI at_ ns i x:=by
 unfold fvI at hs ⊢
 split
 ·rename_i I
  rw [if_pos I,yT] at hs
  exact yT.2 ⟨h s hs.1,hs.2⟩
 ·rename_i I
  rw [if_neg I] at hs
  exact h s hs
theorem zIn:∀ {l:List Tm} {i:Nat} {x y:Tm},l[i]?=some x->y.fv.length<=x.fv.length->vJ (l.set i y)<=vJ l
 | [],i,x,y,h,_=>by simp at h
 | t::l,0,x,y,h,I=>by
   simp at h
   subst h
   simp only [mm,vJ];omega
 | t::l,i+1,x,y,h,I=>by
   have:=zIn (l:=l) (i:=i) (by simpa using h) I
   simp only [m7,vJ];omega
/-- a part that was stepped -/
theorem zLq {k:Int} {nm ot:ByteArray} {n:Int} {ty re:Ty} {l:List Tm} {W i:Nat} {x y:Tm} (J:k≠1) (hi:l[i]?=some x) (O:Gr W 3 y x) (hw:(Tm.mk k nm ot n ty re l).wd<=W):Gr W 3 (.mk k nm ot n ty re (l.set i y)) (.mk k nm ot n ty re l):=by
 have U:=oB hi
 have h2:=(vu J).1 hw
 refine ⟨⟨λs hs=>?_,(vu J).2 ⟨?_,zDF.2 λz I=>?_⟩,?_,?_⟩,λho aa=>?_⟩
 ·rcases Tm.fv_mem.1 hs with ⟨h,_⟩ | ⟨_,j,z,Y,I⟩
  ·exact absurd h J
  ·rw [nY] at I
   by_cases ab:j=i
   ·subst ab
    rw [nD (oC.1 hi).1] at Y
    cases Y
    exact zDs J hi (zR6 O.f I)
   ·rw [o7 (by omega)] at Y
    exact zDs J Y I
 ·have:=zIn hi (zBs y.fv_nodup O.f)
  omega
 ·rcases oi I with I | rfl
  ·have:=yE I;omega
  ·exact O.w
 ·have:wT (l.set i y)<=3*wT l:=ww.2 λz I=>by
   rcases oi I with I | rfl
   ·have:=wO I;omega
   ·have:=wO U;have:=O.d;omega
  simp only [Tm.dp];omega
 ·have:wS (l.set i y)<=2*wS l:=zAI.2 λz I=>by
   rcases oi I with I | rfl
   ·have:=yL I;omega
   ·have:=yL U;have:=O.b;omega
  simp only [Tm.bd];omega
 ·obtain ⟨o1,o2,o3⟩:=Tm.ok_mk.1 ho
  refine Tm.ok_mk.2 ⟨λz I=>?_,o2,by simpa using o3⟩
  rcases oi I with I | rfl
  ·exact o1 z I
  ·exact O.o (o1 x U) (oO (zJQ J U).2 aa)
def zUn (S:Tm->Tm × Int) (W:Nat):Prop:=∀ e:Tm,e.ok=true->e.wd<=W->Gr W 3 (S e).1 e
theorem zEM {S:Tm->Tm × Int} {m:Int}:∀ {xs l':List Tm} {r:Int},yD S xs m=some (l',r)->∃ j x,xs[j]?=some x/\l'=xs.set j (x.cod S m).1
 | [],_,_,h=>by simp [yD] at h
 | x :: xs,l',r,h=>by
   simp only [yD] at h
   split at h
   ·cases h;exact ⟨0,x,rfl,rfl⟩
   ·split at h
    ·cases h
    ·rename_i l2 O I
     cases h
     obtain ⟨j,y,J,rfl⟩:=zEM I
     exact ⟨j+1,y,by simpa using J,rfl⟩
theorem zTf {S:Tm->Tm × Int} {W:Nat} (hS:zUn S W):∀ (t:Tm) (m:Int),t.ok=true->t.wd<=W->Gr W 3 (t.cod S m).1 t:=by
 refine Tm.ind λk nm ot n ty re l ih m he hw=>?_
 have nd:=xJ he
 have J:Gr W 3 (Tm.mk k nm ot n ty re l) (Tm.mk k nm ot n ty re l):=⟨⟨λ_ h=>h,by omega,by omega,by omega⟩,λh _=>h⟩
 have ac:=(y9 he).1
 simp only [Tm.cod]
 split
 ·rename_i hk
  have O:k≠1:=by omega
  have hl:=ac (by omega)
  have U:=zI (l:=l) (i:=0) (by omega)
  have hg:=zX (l:=l) (i:=0) (by omega)
  have h2:=(vu O).1 hw
  have aa:=yE U
  have ab:=yL U
  have Y:=nd.sub _ U
  have hb:zQ k l.length = -1:=by unfold zQ;rw [if_neg (by omega),if_neg (by omega),if_neg (by omega)]
  unfold zSa
  split
  ·split
   ·rename_i I
    show Gr W 3 ((l.getD 0 tm0).pt 0) _
    have I:(l.getD 0 tm0).kd=10:=I
    have fin:∀ s,s∈(l.getD 0 tm0).fv->s∈(Tm.mk k nm ot n ty re l).fv:=λs hs=>xw (by omega) (by omega) hs (.inr (by omega))
    have vb:=dp_mem (k:=k) (nm:=nm) (ot:=ot) (n:=n) (ty:=ty) (re:=re) U
    generalize l.getD 0 tm0=g at I Y aa ab fin vb
    cases g with
    | mk gk gn go gm gt gr gl=>
    have I:gk=10:=I
    have ae:=(y9 Y).1 (.inr (.inr (.inl I)))
    have U:=zI (l:=gl) (i:=0) (by omega)
    have q1:=yE U
    have q2:=(vu (show gk≠1 by omega)).1 (oO aa h2.2)
    have q3:=dp_mem (k:=gk) (nm:=gn) (ot:=go) (n:=gm) (ty:=gt) (re:=gr) U
    show Gr W 3 (gl.getD 0 tm0) _
    have ah:zQ gk gl.length = -1:=by unfold zQ;rw [if_neg (by omega),if_neg (by omega),if_neg (by omega)]
    have q4:=yL U
    simp only [Tm.bd] at ab
    exact ⟨⟨λs hs=>fin s (xw (by omega) (by omega) hs (.inr (by omega))),by omega,by omega,by simp only [Tm.bd];omega⟩,λ_ _=>(xJ Y).sub _ U⟩
   ·exact J
  ·exact zLq O hg (hS _ Y (oO aa h2.2)) hw
 ·cases hc:yD S l (zW k m) with
  | none=>exact J
  | some p=>
    obtain ⟨l',r2⟩:=p
    obtain ⟨j,x,hj,rfl⟩:=zEM hc
    have hx:=oB hj
    have O:k≠1:=λh=>by
     have:=(y9 he).2.2.2.1 (.inl h)
     rw [oU this] at hx
     simp at hx
    have h2:=(vu O).1 hw
    exact zLq O hj (ih x hx _ (nd.sub x hx) (oO (yE hx) h2.2)) hw
theorem zNJ {W:Nat} (hW:1<=W):∀ f,zUn (Tm.stp f) W
 | 0,e,O,J=>⟨⟨λ_ h=>h,by simp only [Tm.stp];omega,by simp only [Tm.stp];omega,by simp only [Tm.stp];omega⟩,λh _=>h⟩
 | f + 1,.mk k nm ot n ty re l,O,J=>by
   have ih:=zNJ hW f
   have nd:=xJ O
   have I:Gr W 3 (Tm.mk k nm ot n ty re l) (Tm.mk k nm ot n ty re l):=⟨⟨λ_ h=>h,by omega,by omega,by omega⟩,λh _=>h⟩
   simp only [Tm.stp]
   split
   ·exact I
   ·split
    ·rename_i hk
     have hk:k=10:=hk
     have hl:=(y9 O).1 (.inr (.inr (.inl hk)))
     have hm:=zI (l:=l) (i:=0) (by omega)
     have hg:=zX (l:=l) (i:=0) (by omega)
     have h2:=(vu (show k≠1 by omega)).1 J
     exact zLq (by omega) hg (zTf ih _ 1 (nd.sub _ hm) (oO (yE hm) h2.2)) J
    ·cases hg:goS (Tm.stp f) (Tm.mk k nm ot n ty re l) (l.take (tZ k l.length)) 0 with
     | none=>exact zTM O J hW
     | some p=>
       obtain ⟨j,x,g1,g2,rfl⟩:=zDC hg
       have U:l[j]?=some x:=by
        rw [ob] at g1
        split at g1
        ·exact g1
        ·cases g1
       have hx:=oB U
       have Y:k≠1:=λh=>by
        have:=(y9 O).2.2.2.1 (.inl h)
        rw [oU this] at hx
        simp at hx
       have h2:=(vu Y).1 J
       simp only [om]
       exact zLq Y U (ih x (nd.sub x hx) (oO (yE hx) h2.2)) J
/-- not too deep, not too wide; few binders one within the other -/
structure Tm.Sm (W D B:Nat) (e:Tm):Prop where
 g:e.G
 w:e.wd<=W
 d:e.dp<=D
 b:e.bd<=B
theorem zOx {W D B:Nat} (Y:1<=W) {e:Tm} (h:e.Sm W D B):e.step.1.Sm (9*W) (3*D) (2*B):=by
 have I:e.Sm (9*W) (3*D) (2*B):=⟨h.g,by have:=h.w;omega,by have:=h.d;omega,by have:=h.b;omega⟩
 unfold Tm.step
 split
 ·rename_i J
  split
  ·exact I
  ·have O:e.ok=true:=by unfold qr at J;simp at J;exact J.1
   have U:=zNJ Y e.dp e O h.w
   exact ⟨zRP _ _ h.g,U.w,by have:=U.d;have:=h.d;omega,by have:=U.b;have:=h.b;omega⟩
 ·exact I
end Go.Proofs.YtfajiphkncipoaaGreatDoor
set_option maxRecDepth 100000
namespace Go.Proofs.YtfajiphkncipoaaGreatDoor
open Go Go.Proofs Go.Proofs.Tryz Go.IntWalk
theorem Tm.Sm.up {W D B W' I B':Nat} {e:Tm} (h:e.Sm W D B) (J:W<=W') (O:D<=I) (U:B<=B'):e.Sm W' I B':=⟨h.g,oO h.w J,oO h.d O,oO h.b U⟩
/-- some term, not too deep, not too wide -/
def SmD (d:D):Prop:=∃ t:Tm,t.Is d/\t.Sm 4592700000 170100000 320
theorem zNN {d:D} (h:SomB 2100000 d):∃ t:Tm,t.Is d/\t.Sm 700000 2100000 20:=by
 obtain ⟨t,I,hc,J⟩:=h
 have O:=t.vc_cnt
 have U:=t.wd_vc
 have Y:=t.dp_cnt
 exact ⟨t,I,Tm.G_cnt t (by omega),by omega,by omega,J⟩
/-- a program after some steps, drawn -/
theorem zJ3 {es:List D} {i:Int} (U:Cu es i) (a:Option Addr) (c:Nat) (h:Int) (N:Nat) (Q:QT [.ag 9,.sl 0,.i,.i])
  (hQ:∀ d' a' J c' i' h' N',N<=N'->Cu J i'->SmD d'->Q d' a' J c' i' h' N'):BCalls prog 31 [.ag 9,.sl 0,.i,.i] [.pb 0 0 0 0] [.var [.sv a 0 es c,.j i,.j h]] N Q:=by
 refine zBU N a es c i h Q λE _ N1 ah=>zPp U a c h N1 _ λd a1 ai c1 i1 h1 N2 aj Y hd _ _ _ N3 ak=>yp Y 5 (by omega) a1 c1 h1 N3 _ λq a2 aa c2 i2 h2 N4 al ab q0 q5 _ _ _=>?_
 have q5:=q5 (by omega)
 have p9:∀ j:Nat,j<=4->9 ^ j<=6561:=λj I=>nQ (n:=9) (by omega) I
 have p3:∀ j:Nat,j<=4->3 ^ j<=81:=λj I=>nQ (n:=3) (by omega) I
 have p2:∀ j:Nat,j<=4->2 ^ j<=16:=λj I=>nQ (n:=2) (by omega) I
 have loop:∀ (m j:Nat) (d:D) (N':Nat),j+m=q.toNat->N<=N'->(∃ t:Tm,t.Is d/\t.Sm (9 ^ j*700000) (3 ^ j*2100000) (2 ^ j*20)) ->
   wC E Q N q j a2 aa c2 i2 h2 0 (bytes []) (bytes []) 0 0 Option.none [] 0 0 Option.none [] 0 Option.none [] 0 d N':=by
  intro m
  induction m with
  | zero=>
    intro j d N' I ac hd
    have e:decide ((j:Int)<q)=false:=mQ (by omega)
    refine sm _ _ _ _ _ _ _ _ _ _ _ _ _ _ _ _ _ _ _ _ _ _ _ _ _ _ _ ?_
    rw [e]
    obtain ⟨t,O,hs⟩:=hd
    have:=p9 j (by omega)
    have:=p3 j (by omega)
    have:=p2 j (by omega)
    exact ⟨ze,λN5 ae=>hQ _ _ _ _ _ _ _ (by omega) ab ⟨t,O,hs.up (by omega) (by omega) (by omega)⟩⟩
  | succ m ih=>
    intro j d N' I ac hd
    have e:decide ((j:Int)<q)=true:=mM (by omega)
    refine sm _ _ _ _ _ _ _ _ _ _ _ _ _ _ _ _ _ _ _ _ _ _ _ _ _ _ _ ?_
    rw [e]
    obtain ⟨t,O,hs⟩:=hd
    have b9:=p9 j (by omega)
    have b3:=p3 j (by omega)
    have am:=hs.w
    have ao:=hs.d
    have o9:1<=9 ^ j*700000:=by have:=Nat.one_le_pow j 9 (by omega);omega
    intro N5 ae
    refine zCM O hs.g (by omega) (by omega) N5 _ λdx N6 aq hx _ _=>?_
    have hw:IntKind.i64.wrap ((j:Int)+1)=((j+1:Nat):Int):=by rw [i64_in _ (by omega)];omega
    rw [hw]
    exact ih (j+1) dx N6 (by omega) (by omega) ⟨_,hx,(zOx o9 hs).up (by rw [mR];omega) (by rw [mR];omega) (by rw [mR];omega)⟩
 obtain ⟨t,O,hs⟩:=zNN hd
 have h0:=loop q.toNat 0 d N4 (by omega) (by omega) ⟨t,O,by simpa using hs⟩
 rw [show ((0:Nat):Int)=0 from rfl] at h0
 exact h0
/-- a term to be stepped, drawn -/
theorem zMi {es:List D} (hb:∀ d∈es,∃ n:Int,d=.lit (.int .u8 n)) (hl:es.length<=1073741824) (a:Option Addr) (c:Nat) (N:Nat) (Q:QT [.ag 9])
  (hQ:∀ d N',N<=N'->SmD d->Q d N'):ACalls prog 8 [.ag 9] [.sv a 0 es c] N Q:=by
 refine zEg N a es c Q λ_ N1 ah=>zTj hb hl a c N1 _ λh N2 ai O _ N3 aj=>qM O 4 (by omega) a c h N3 _ λb a1 ak c1 i1 h1 N4 al J _ _=>Br.of (λ_ U Y=>?_) λ_ U Y=>?_
 ·refine zR8 J a1 c1 h1 U _ λd' a3 aa c3 i3 h3 N8 ab ac I _ _ _ N9 ae=>hQ _ _ (by omega) ?_
  obtain ⟨t,ht,hs⟩:=zNN ((I.b (by omega)).mono (by omega))
  exact ⟨t,ht,hs.up (by omega) (by omega) (by omega)⟩
 ·exact zJ3 J a1 c1 h1 U _ λd' a3 aa c3 i3 h3 N8 ab ac I _ _ _ N9 ae=>hQ _ _ (by omega) I
end Go.Proofs.YtfajiphkncipoaaGreatDoor
set_option maxRecDepth 100000
namespace Go.Proofs.YtfajiphkncipoaaGreatDoor
open Go Go.Proofs Go.Proofs.Tryz Go.IntWalk
/-- a step keeps the type -/
theorem zJC {e:Tm} {u:Ty} (h:qt [] e 0=some u) (hb:e.bd<=331):qt [] e.step.1 0=some u:=by
 have h':=h
 unfold qt at h
 split at h
 ·rename_i Y
  have I:=Y.2
  simp only [qr,oI] at I
  have U:=zMa e I.1 [] 0 u I.2 h
  have hr:Lv (xi []):=λs m t U=>by rw [zMu m [] (by simp)] at U;cases U
  unfold Tm.step
  rw [if_pos Y.2]
  split
  ·exact h'
  ·have hw:e.wd<=e.wd+1:=by omega
   have J:=(zNJ (W:=e.wd+1) (by omega) e.dp e I.1 hw).o I.1 (by rw [zSI I.1 h];simpa using hb)
   have O:=zRD e.dp e _ u (oD _) I.1 U hr
   unfold qt
   rw [if_pos ⟨Y.1,by unfold qr;rw [J,zSr O J];rfl⟩]
   exact zMU O [] rfl
 ·cases h
def rules:List ByteArray:=[bytes [110,111,110,101],bytes [111,112],bytes [105,102],bytes [97,112,112],bytes [114,101,99],bytes [108,101,116],bytes [115,112,108,105,99,101],bytes [114,117,110],bytes [108,105,102,116]]
def zMg (k:Int):ByteArray:=if inB k 0 8=true then rules.getD k.toNat (bytes []) else bytes [63]
theorem zOY {k:Int} (J:0<=k) (O:k<=8):(zA rules).getD (0+k.toNat) default=D.t (rules.getD k.toNat (bytes [])):=by
 have I:k.toNat<rules.length:=by show _<9;omega
 rw [om]
 unfold zA
 rw [oA,oA,oE,oG I]
 rfl
theorem zEp (k:Int):zFt 15 [.j k] (zMg k):=λN Q I=>
 zEO N k Q λN1 Y=>y8 k 0 8 N1 _ λN2 aa _=>Br.not (λJ N3 O=>by rw [zMg,if_neg (by rw [J];simp)] at I;exact I _ (by omega)) λJ=>by
  rw [zMg,if_pos J] at I
  have U:=yo.1 J
  exact ⟨⟨by omega,by omega,by omega⟩,by omega,_,zOY U.1 U.2,λN3 O=>I _ (by omega)⟩
theorem zE6 (k:Int):zFt 16 [.j k] (zMg k):=λN Q I=>
 zDe N k Q λN1 Y=>xV k 0 8 N1 _ λN2 aa _=>Br.not (λJ N3 O=>by rw [zMg,if_neg (by rw [J];simp)] at I;exact I _ (by omega)) λJ=>by
  rw [zMg,if_pos J] at I
  have U:=yo.1 J
  exact ⟨⟨by omega,by omega,by omega⟩,by omega,_,zOY U.1 U.2,λN3 O=>I _ (by omega)⟩
theorem zHi {es:List D} (hb:∀ d∈es,∃ n:Int,d=.lit (.int .u8 n)) (a:Option Addr) (c:Nat) (N:Nat) :
  ACalls prog 4 [.bool] [.sv a 0 es c] N (λr _=>r=true):=by
 refine zAu N a es c _ λ_ N1 b5=>zL8 N1 a es c _ λ_ N2 b6 _=>Br.dec (λ_ N3 _=>rfl) λbg N4 b7=>?_
 refine zMi hb (by omega) a c N4 _ λd N5 b8 hd _ _ N6 b9=>?_
 obtain ⟨t,ht,hs⟩:=hd
 have ca:=hs.w
 have cc:=hs.d
 have cd:=hs.b
 have h2:=zOx (by omega) hs
 have ce:=h2.d
 refine zIj ht hs.g (by omega) (by omega) N6 _ λdx N7 cf hx _ _ _ N8 cg=>zCM ht hs.g (by omega) (by omega) N8 _ λdy N9 ch U _ _ am bh=>?_
 refine pc am a es c _ λ_ ao bi=>zTj hb (by omega) a c ao _ λh cj bj aq _ au bm=>yp aq 11 (by omega) a c h au _ λr a1 ck c1 i1 h1 cm bp cn _ _ _ _ _ co bq _=>Br.bne (λh=>absurd rfl h) λ_ aw bt=>?_
 refine zGK _ dx dy hx U aw _ λcp bv _=>Br.of (λh=>by cases h) λ_ ax bw=>zEp _ ax _ λcq bz _ ay b1=>zE6 _ ay _ λcr b2 _=>Br.of (λh=>by simp at h) λ_=>?_
 refine Br.beq (λh0 az b3=>?_) λh0=>?_
 ·have e:t.step.1=t:=by
   unfold Tm.step at h0 ⊢
   split
   ·rename_i hl
    rw [if_pos hl] at h0
    split
    ·rfl
    ·rename_i O
     rw [if_neg O] at h0
     exact absurd h0 O
   ·rfl
  refine zGK t dx d (by rw [<-e];exact hx) ht az _ λct b4 _=>Br.of (λh=>by cases h) λ_=>⟨⟨rfl,rfl⟩,λa2 a6 ab _ Y ac=>?_⟩
  refine vS (g:=[]) ⟨by simp,rfl⟩ (by simp) ht hs.g (by omega) a2 0 0 Y _ λy a7 ae U _ _=>⟨⟨rfl,rfl⟩,λa3 a8 ah _ aa ai=>?_⟩
  refine vS (g:=[]) ⟨by simp,rfl⟩ (by simp) hx h2.g (by omega) a3 0 0 aa _ λz ba aj O _ _=>?_
  cases I:qt [] t 0 with
  | none=>exact Br.not (λ_ J _=>rfl) λh=>by cases h
  | some u=>
    rw [I] at U
    rw [zJC I (by omega)] at O ⊢
    exact Br.not (λh=>by cases h) λ_=>Br.of (λ_ J ak=>zj u u _ _ U O J _ λbb al _ bc _=>tl u) λh=>by cases h
 ·refine ⟨⟨rfl,rfl⟩,λa2 a6 ab _ Y ac=>?_⟩
  refine vS (g:=[]) ⟨by simp,rfl⟩ (by simp) ht hs.g (by omega) a2 0 0 Y _ λy a7 ae U _ _=>⟨⟨rfl,rfl⟩,λa3 a8 ah _ aa ai=>?_⟩
  refine vS (g:=[]) ⟨by simp,rfl⟩ (by simp) hx h2.g (by omega) a3 0 0 aa _ λz ba aj O _ _=>?_
  cases I:qt [] t 0 with
  | none=>exact Br.not (λ_ J _=>rfl) λh=>by cases h
  | some u=>
    rw [I] at U
    rw [zJC I (by omega)] at O ⊢
    exact Br.not (λh=>by cases h) λ_=>Br.of (λ_ J ak=>zj u u _ _ U O J _ λbb al _ bc _=>tl u) λh=>by cases h
end Go.Proofs.YtfajiphkncipoaaGreatDoor
