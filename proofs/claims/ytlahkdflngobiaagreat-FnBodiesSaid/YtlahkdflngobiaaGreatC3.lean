/- A step of a term is a term, if it is small (no program in sight). -/
import Derived.Test.YtlahkdflngobiaaGreatC2
import Derived.Test.YtlahkdflngobiaaGreatKi
import Derived.Test.YtlahkdflngobiaaGreatKu
import Derived.Test.YtlahkdflngobiaaGreatB4
set_option linter.unusedVariables false
set_option linter.unusedSimpArgs false
namespace Go.Proofs.YtlahkdflngobiaaGreat
open Go Go.Proofs Go.Proofs.Tryz Go.IntWalk
theorem Tm.dp_mem {k:Int} {nm ot:ByteArray} {n:Int} {ty re:Ty} {l:List Tm} {y:Tm} (h:y∈l):y.dp+1<=(Tm.mk k nm ot n ty re l).dp:=by
 have:=tU.1 (oD (tf l)) y h
 simp only [Tm.dp];omega
theorem Tm.sz_mem {k:Int} {nm ot:ByteArray} {n:Int} {ty re:Ty} {l:List Tm} {y:Tm} (h:y∈l):y.sz+1<=(Tm.mk k nm ot n ty re l).sz:=by
 have:=vO h
 simp only [Tm.sz];omega
theorem zOD {e x:Tm} {i:Nat} (J:e.ok=true) (O:x.ok=true):(e.wth i x).ok=true:=by
 cases e with
 | mk k nm ot n ty re l=>
 obtain ⟨U,Y,h3⟩:=Tm.ok_mk.1 J
 refine Tm.ok_mk.2 ⟨λy I=>?_,Y,by simpa using h3⟩
 rcases nI I with I | rfl
 ·exact U y I
 ·exact O
theorem zOf {k:Int} {nm ot:ByteArray} {n:Int} {ty re:Ty} {l:List Tm} {i:Nat} {x:Tm} (h:i<l.length):x.sz+1<=((Tm.mk k nm ot n ty re l).wth i x).sz:=by
 simp only [Tm.wth]
 exact Tm.sz_mem (oB (nV h))
theorem zRr {e:Tm} {i:Nat} (I:e.ok=true) (hi:i<e.as.length):(e.pt i).ok=true:=by
 cases e with
 | mk k nm ot n ty re l=>exact (Tm.ok_mk.1 I).1 _ (za hi)
theorem zSL {k n:Int} (h:(k=2/\0<=n/\n<=10006)\/(k=3/\0<=n/\n<=1)):(zNG k n).ok=true:=by
 have I:(Ty.mk 0 []).valid=false:=by decide +kernel
 rcases h with ⟨rfl,h⟩ | ⟨rfl,h⟩
 ·refine Tm.ok_mk.2 ⟨by simp,?_,rfl⟩
  simp [zK,qS,I,Ty.zero,Ty.k,Ty.as,inB,x9,h]
 ·refine Tm.ok_mk.2 ⟨by simp,?_,rfl⟩
  simp [zK,qS,I,Ty.zero,Ty.k,Ty.as,inB,x9,h]
theorem zTA {x:Tm} (h:x.ok=true):(Tm.nod 10 [x]).ok=true:=by
 have I:(Ty.mk 0 []).valid=false:=by decide +kernel
 refine Tm.ok_mk.2 ⟨by simpa using h,?_,rfl⟩
 simp [zK,qS,I,Ty.zero,Ty.k,Ty.as,inB,x9]
theorem zQr {e b:Tm} {x:ByteArray} (I:e.ok=true) (J:b.ok=true) (h:(e.sb x b).sz<=400):(e.sb x b).ok=true:=zRX _ e x b (oD _) I J h
theorem zTG {e:Tm} (O:e.ok=true) (hs:e.apl.1.sz<=400):e.apl.1.ok=true:=by
 cases e with
 | mk k nm ot n ty re l=>
 obtain ⟨h1,h2,h3⟩:=Tm.ok_mk.1 O
 obtain ⟨a1,a2,a3,a4,a5⟩:=sO O
 have g:∀ i,i<l.length->(l.getD i tm0).ok=true:=λi hi=>h1 _ (za hi)
 simp only [Tm.apl] at hs ⊢
 split
 ·rename_i I
  unfold Tm.opr
  split
  ·refine zSL ?_
   simp only [Tm.nm]
   have Y:=zGM nm (l.getD 0 tm0).no (l.getD 1 tm0).no
   unfold zDQ
   by_cases U:zJL nm=true
   ·rw [if_pos U];exact .inl ⟨rfl,Y.1,Y.2⟩
   ·rw [if_neg U]
    simp only [zJL,nS,nO,not_or] at U
    have:=zCZ U.1 U.2.1 U.2.2 (l.getD 0 tm0).no (l.getD 1 tm0).no
    exact .inr ⟨rfl,this.1,this.2⟩
  ·exact O
 ·rename_i ab
  rw [if_neg ab] at hs
  split
  ·rename_i I
   split
   ·rename_i hb
    have:=zOm (g 0 (by have:=a3 I;omega)) hb
    refine g _ ?_
    have:=a3 I
    omega
   ·exact O
  ·rename_i ac
   rw [if_neg ac] at hs
   split
   ·rename_i I
    rw [if_pos I] at hs
    have hl:=a2 (.inl I)
    have J:=g 0 (by omega)
    have q1:=g 1 (by omega)
    generalize l.getD 0 tm0=p at hs J ⊢
    generalize l.getD 1 tm0=q at hs q1 ⊢
    have hp:(p.kd=6\/p.kd=9)->(p.pt 0).ok=true:=λh=>by
     refine zRr J ?_
     cases p with
     | mk pk pn po pm pt pr pl=>
     have:=(sO J).1 (by simp only [Tm.kd] at h;omega)
     simp only [Tm.as];omega
    split
    ·rename_i h6
     rw [if_pos h6] at hs
     exact zQr (hp (.inl h6)) q1 hs
    ·rename_i h6
     rw [if_neg h6] at hs
     split
     ·rename_i h9
      rw [if_pos h9] at hs
      have hV:=zRk (p.pt 0).dp (p.pt 0) p.nm p (zSu _ (hp (.inr h9))) (zSu _ J)
      have ae:=zGV ((p.pt 0).sb p.nm p).dp ((p.pt 0).sb p.nm p) p.ot q hV
      exact zQr (zQr (hp (.inr h9)) J (oR ae hs)) q1 hs
     ·exact O
   ·rename_i ah
    rw [if_neg ah] at hs
    split
    ·rename_i I
     rw [if_pos I] at hs
     have hl:=a2 (.inr I)
     exact zQr (g 1 (by omega)) (g 0 (by omega)) hs
    ·rename_i ai
     split
     ·rename_i I
      split
      ·rename_i aa
       have J:=g 0 (by have:=a1 (by omega);omega)
       refine zRr J ?_
       generalize l.getD 0 tm0=p at J aa ⊢
       cases p with
       | mk pk pn po pm pt pr pl=>
       have:=(sO J).1 (by simp only [Tm.kd] at aa;omega)
       simp only [Tm.as];omega
      ·exact O
     ·split
      ·rename_i I
       split
       ·exact zTA (g 0 (by have:=a1 (by omega);omega))
       ·exact O
      ·exact O
/-- the splice's part, and what comes in its place -/
theorem zS1 {S:Tm->Tm × Int} {f:Nat} (hS:∀ x:Tm,x.dp<=f->x.ok=true->(S x).1.sz<=400->(S x).1.ok=true):∀ (t:Tm) (m:Int),t.dp<=f+1->t.ok=true->(t.cod S m).1.sz<=400->(t.cod S m).1.ok=true:=by
 refine Tm.ind λk nm ot n ty re l ih m hd J hs=>?_
 obtain ⟨O,Y,h3⟩:=Tm.ok_mk.1 J
 simp only [Tm.cod] at hs ⊢
 split
 ·rename_i hk
  rw [if_pos hk] at hs
  have hl:=(sO J).1 (by omega)
  unfold zSr at hs ⊢
  have U:((Tm.mk k nm ot n ty re l).pt 0).ok=true:=O _ (za (by omega))
  have d0:((Tm.mk k nm ot n ty re l).pt 0).dp<=f:=by
   have:=Tm.dp_mem (k:=k) (nm:=nm) (ot:=ot) (n:=n) (ty:=ty) (re:=re) (za (l:=l) (i:=0) (by omega))
   simp only [Tm.pt];omega
  generalize hp:(Tm.mk k nm ot n ty re l).pt 0=p at hs U d0 ⊢
  split
  ·split
   ·rename_i aa
    refine zRr U ?_
    cases p with
    | mk pk pn po pm pt pr pl=>
    have:=(sO U).1 (by simp only [Tm.kd] at aa;omega)
    simp only [Tm.as];omega
   ·exact J
  ·rename_i hr
   rw [if_neg hr] at hs
   have:=zOf (k:=k) (nm:=nm) (ot:=ot) (n:=n) (ty:=ty) (re:=re) (l:=l) (i:=0) (x:=(S p).1) (by omega)
   exact zOD J (hS p d0 U (by simp only at hs;omega))
 ·rename_i hk
  rw [if_neg hk] at hs
  have key:∀ (xs:List Tm),(∀ x∈xs,x∈l)->∀ l' r,xC S xs (zN k m)=some (l',r)->zw l'<=400->l'.length=xs.length/\∀ x∈l',x.ok=true:=by
   intro xs
   induction xs with
   | nil=>intro _ l' r h;simp [xC] at h
   | cons x xs ab=>
     intro hm l' r h hs
     have I:=hm x (by simp)
     simp only [xC] at h
     split at h
     ·cases h
      simp only [zw] at hs
      refine ⟨by simp,λy hy=>?_⟩
      rcases oG.1 hy with rfl | hy
      ·have ac:=Tm.dp_mem (k:=k) (nm:=nm) (ot:=ot) (n:=n) (ty:=ty) (re:=re) I
       exact ih x I _ (by omega) (O x I) (by omega)
      ·exact O y (hm y (by simp [hy]))
     ·split at h
      ·cases h
      ·rename_i l2 r2 Y
       cases h
       simp only [zw] at hs
       obtain ⟨b1,b2⟩:=ab (λy hy=>hm y (by simp [hy])) _ _ Y (by omega)
       refine ⟨by simp [b1],λy hy=>?_⟩
       rcases oG.1 hy with rfl | hy
       ·exact O y I
       ·exact b2 y hy
  cases hc:xC S l (zN k m) with
  | none=>exact J
  | some p=>
    obtain ⟨l',r⟩:=p
    rw [hc] at hs
    simp only [Tm.sz] at hs
    obtain ⟨b1,b2⟩:=key l (λx I=>I) l' r hc (by omega)
    exact Tm.ok_mk.2 ⟨b2,Y,by rw [b1];exact h3⟩
theorem zKg:∀ (f:Nat) (e:Tm),e.dp<=f->e.ok=true->(e.stp f).1.sz<=400->(e.stp f).1.ok=true
 | 0,e,h,_,_=>absurd (Tm.dp_pos e) (by omega)
 | f + 1,.mk k nm ot n ty re l,hd,I,hs=>by
   have ih:=zKg f
   obtain ⟨h1,h2,h3⟩:=Tm.ok_mk.1 I
   simp only [Tm.stp] at hs ⊢
   split
   ·exact I
   ·rename_i hr
    rw [if_neg hr] at hs
    split
    ·rename_i J
     rw [if_pos J] at hs
     have J:k=10:=J
     have hl:=(sO I).1 (by omega)
     have O:=za (l:=l) (i:=0) (by omega)
     have aa:=Tm.dp_mem (k:=k) (nm:=nm) (ot:=ot) (n:=n) (ty:=ty) (re:=re) O
     have:=zOf (k:=k) (nm:=nm) (ot:=ot) (n:=n) (ty:=ty) (re:=re) (l:=l) (i:=0) (x:=(Tm.cod (Tm.stp f) ((Tm.mk k nm ot n ty re l).pt 0) 1).1) (by omega)
     exact zOD I (zS1 ih _ 1 (by simp only [Tm.pt];omega) (h1 _ O) (by simp only at hs;omega))
    ·rename_i J
     rw [if_neg J] at hs
     cases hg:goS (Tm.stp f) (Tm.mk k nm ot n ty re l) (l.take (zFO k l.length)) 0 with
     | none=>
       rw [hg] at hs
       exact zTG I hs
     | some r=>
       rw [hg] at hs
       obtain ⟨j,x,Y,g2,rfl⟩:=zAI hg
       have U:l[j]?=some x:=by
        rw [oZ] at Y
        split at Y
        ·exact Y
        ·cases Y
       have O:=oB U
       have aa:=Tm.dp_mem (k:=k) (nm:=nm) (ot:=ot) (n:=n) (ty:=ty) (re:=re) O
       simp only [nU] at hs ⊢
       have:=zOf (k:=k) (nm:=nm) (ot:=ot) (n:=n) (ty:=ty) (re:=re) (l:=l) (i:=j) (x:=(Tm.stp f x).1) (oC.1 U).1
       exact zOD I (ih x (by omega) (h1 x O) (by omega))
theorem zD5 {g:Tm->Tm} {m:Nat}:∀ {l:List Tm},(∀ t∈l,(g t).sz<=t.sz*m)->zw (l.map g)<=zw l*m
 | [],_=>by simp [zw]
 | t::l,h=>by
   have J:=zD5 (l:=l) λx I=>h x (by simp [I])
   have O:=h t (by simp)
   simp only [od,zw,nE]
   omega
theorem zCB {g:Tm->Tm} {m:Nat} {v:Tm}:∀ {l:List Tm} {j:Nat},(∀ t∈l,(g t).sz<=t.sz*m)->(∀ t,l[j]?=some t->v.sz<=t.sz*m)->zw ((l.map g).set j v)<=zw l*m
 | [],_,_,_=>by simp [zw]
 | t::l,0,h,J=>by
   have O:=zD5 (l:=l) λx I=>h x (by simp [I])
   have U:=J t rfl
   simp only [od,mH,zw,nE]
   omega
 | t::l,j+1,h,J=>by
   have O:=zCB (l:=l) (j:=j) (v:=v) (λx I=>h x (by simp [I])) λx I=>J x (by simpa using I)
   have U:=h t (by simp)
   simp only [od,mQ,zw,nE]
   omega
theorem zNZ:∀ (f:Nat) (t:Tm) (x:ByteArray) (b:Tm),(t.sub f x b).sz<=t.sz*(b.sz+1)
 | 0,t,x,b=>by simp only [Tm.sub];exact mI _ (by omega)
 | f + 1,.mk k nm ot n ty re l,x,b=>by
   have J:=zNZ f
   have one:∀ m:Nat,m<=zw l*(b.sz+1)->1+m<=(1+zw l)*(b.sz+1):=λm h=>by rw [nE];omega
   simp only [Tm.sub]
   split
   ·split
    ·simp only [Tm.sz];rw [nE];omega
    ·exact mI _ (by omega)
   ·split
    ·simp only [Tm.sz]
     exact one _ (zD5 λt _=>J t x b)
    ·rename_i O
     obtain ⟨U,Y⟩:=vL O
     split
     ·simp only [Tm.sz]
      refine one _ (zCB (λt _=>J t x b) λt I=>?_)
      rw [zy U] at I
      rw [<-oT I]
      exact mI _ (by omega)
     ·simp only [Tm.sz]
      refine one _ (zCB (λt _=>J t x b) λt I=>?_)
      rw [zy U] at I
      rw [<-oT I]
      exact oR (J _ x b) (oc _ (sY (vn f) _ _ _ _ _ _).s)
theorem zAr {x:Tm}:∀ {l:List Tm} {i:Nat},i<l.length->zw (l.set i x)+(l.getD i tm0).sz=zw l+x.sz
 | t::l,0,_=>by simp only [mH,zw,mM];omega
 | t::l,i+1,h=>by
   have:=zAr (x:=x) (l:=l) (i:=i) (by simpa using h)
   simp only [mQ,zw,mm];omega
theorem zMV {e:Tm} {i:Nat}:(e.pt i).sz<=e.sz:=by
 cases e with
 | mk k nm ot n ty re l=>
 simp only [Tm.pt]
 by_cases h:i<l.length
 ·have:=Tm.sz_mem (k:=k) (nm:=nm) (ot:=ot) (n:=n) (ty:=ty) (re:=re) (za h);omega
 ·rw [oA,oV (by omega)]
  simp only [Option.getD_none,tm0,Tm.sz,zw];omega
theorem zTT (e:Tm) (h:e.sz<=400):e.apl.1.sz<=e.sz+64481600:=by
 have I:∀ (t b:Tm) (x:ByteArray) (m:Nat),t.sz<=m->b.sz<=400->(t.sb x b).sz<=m*401:=λt b x m Y h2=>
  oR (zNZ _ t x b) (Nat.mul_le_mul Y (by omega))
 cases e with
 | mk k nm ot n ty re l=>
 have g:∀ i,(l.getD i tm0).sz<=400:=λi=>oR (zMV (e:=.mk k nm ot n ty re l)) h
 have gp:∀ i j,((l.getD i tm0).pt j).sz<=400:=λi j=>oR zMV (g i)
 have U:=g 0
 have O:=g 1
 have J:=gp 0 0
 simp only [Tm.apl,Tm.opr]
 have k1:=I ((l.getD 0 tm0).pt 0) (l.getD 1 tm0) (l.getD 0 tm0).nm 400 J O
 have k2:=I ((l.getD 0 tm0).pt 0) (l.getD 0 tm0) (l.getD 0 tm0).nm 400 J U
 have k3:=I _ (l.getD 1 tm0) (l.getD 0 tm0).ot _ k2 O
 have k4:=I (l.getD 1 tm0) (l.getD 0 tm0) nm 400 O U
 have k5:=g (2 - (l.getD 0 tm0).no).toNat
 (repeat' split)<;>first | (simp only;omega) | (simp only [zNG,Tm.nod,Tm.sz,zw];omega)
theorem zT7 {S:Tm->Tm × Int} (Y:∀ x:Tm,x.sz<=400->(S x).1.sz<=x.sz+64481600):∀ (t:Tm) (m:Int),t.sz<=400->(t.cod S m).1.sz<=t.sz+64481600:=by
 refine Tm.ind λk nm ot n ty re l ih m hs=>?_
 simp only [Tm.cod]
 split
 ·unfold zSr
  split
  ·split
   ·have h1:=zMV (e:=(Tm.mk k nm ot n ty re l).pt 0) (i:=0)
    have I:=zMV (e:=Tm.mk k nm ot n ty re l) (i:=0)
    simp only;omega
   ·simp only;omega
  ·have I:=zMV (e:=Tm.mk k nm ot n ty re l) (i:=0)
   have h3:=Y _ (oR I hs)
   simp only [Tm.wth,Tm.pt] at h3 ⊢
   by_cases h:0<l.length
   ·have:=zAr (x:=(S (l.getD 0 tm0)).1) h
    simp only [Tm.sz] at hs ⊢
    omega
   ·rw [m0 (by omega)];omega
 ·have key:∀ (xs:List Tm),(∀ x∈xs,x∈l)->∀ l' r,xC S xs (zN k m)=some (l',r)->zw l'<=zw xs+64481600:=by
   intro xs
   induction xs with
   | nil=>intro _ l' r h;simp [xC] at h
   | cons x xs O=>
     intro U l' r h
     have J:=U x (by simp)
     simp only [xC] at h
     split at h
     ·cases h
      have:=ih x J (zN k m) (by have:=Tm.sz_mem (k:=k) (nm:=nm) (ot:=ot) (n:=n) (ty:=ty) (re:=re) J;omega)
      simp only [zw];omega
     ·split at h
      ·cases h
      ·rename_i l2 r2 I
       cases h
       have:=O (λy hy=>U y (by simp [hy])) _ _ I
       simp only [zw];omega
  cases hc:xC S l (zN k m) with
  | none=>simp only;omega
  | some p=>
    obtain ⟨l',r⟩:=p
    have:=key l (λx J=>J) l' r hc
    simp only [Tm.sz];omega
/-- a step of a small term is not great -/
theorem zRS:∀ (f:Nat) (e:Tm),e.sz<=400->(e.stp f).1.sz<=e.sz+64481600
 | 0,e,_=>by simp only [Tm.stp];omega
 | f + 1,.mk k nm ot n ty re l,hs=>by
   have O:=zRS f
   simp only [Tm.stp]
   split
   ·simp only;omega
   ·by_cases U:(Tm.mk k nm ot n ty re l).kd=10
    ·rw [if_pos U]
     have h2:=zMV (e:=Tm.mk k nm ot n ty re l) (i:=0)
     have Y:=zT7 O ((Tm.mk k nm ot n ty re l).pt 0) 1 (oR h2 hs)
     simp only [Tm.wth,Tm.pt] at Y ⊢
     by_cases h:0<l.length
     ·have:=zAr (x:=((l.getD 0 tm0).cod (Tm.stp f) 1).1) h
      simp only [Tm.sz] at hs ⊢
      omega
     ·rw [m0 (by omega)];omega
    ·rw [if_neg U]
     cases hg:goS (Tm.stp f) (Tm.mk k nm ot n ty re l) (l.take (zFO k l.length)) 0 with
     | none=>exact zTT _ hs
     | some r=>
       obtain ⟨j,x,J,g2,rfl⟩:=zAI hg
       have I:l[j]?=some x:=by
        rw [oZ] at J
        split at J
        ·exact J
        ·cases J
       have hj:=(oC.1 I).1
       have Y:=O x (by have:=Tm.sz_mem (k:=k) (nm:=nm) (ot:=ot) (n:=n) (ty:=ty) (re:=re) (oB I);omega)
       have h4:=zAr (x:=(Tm.stp f x).1) hj
       have h5:l.getD j tm0=x:=by rw [oA,I];rfl
       rw [h5] at h4
       simp only [nU,Tm.wth,Tm.sz] at hs ⊢
       omega
/-- a run of a term: how it ends, and the rules of its steps -/
def zNH:Nat->Nat->Tm->(Int × Tm × Nat) × List Int
 | 0,n,x=>if x.sz>400 then ((3,tm0,n),[]) else if x.res then ((1,x,n),[]) else ((2,x,n),[])
 | m+1,n,x=>if x.sz>400 then ((3,tm0,n),[]) else if x.res then ((1,x,n),[]) else if (x.stp x.dp).2=0 then ((4,x,n),[])
   else ((zNH m (n+1) (x.stp x.dp).1).1,(x.stp x.dp).2::(zNH m (n+1) (x.stp x.dp).1).2)
def qB (e:Tm) (I:Int):Int × Tm × Nat:=if (zDU e 0&&inB I 0 200)=true then (zNH I.toNat 0 e).1 else (0,tm0,0)
/-- what a substitution makes is not too great for another -/
theorem zU7 {e b:Tm} {x:ByteArray} {f g:Nat} (I:e.F f) (J:b.F g):(e.sb x b).Z:=by
 have U:=zRN e.dp e x b
 have O:=I.vc
 have Y:=J.vc
 have h4:e.vc*(b.vc+1)<=1333333*1333334:=Nat.mul_le_mul O (by omega)
 exact ⟨zRp _ _ _ _ I.z.g J.z.g,by unfold Tm.sb;omega,zRk _ _ _ _ I.z.v J.z.v⟩
theorem zDX {e b:Tm} {d I:D} (J:e.Is d) (O:b.Is I) (x:ByteArray) (U:e.Z) (Y:b.Z):zTH 147 [.dg 9 d,.str x,.dg 9 I] (e.sb x b):=zGO e.dp e d x b I J O (oD _) U Y
/-- the step of a form whose parts are searched -/
def zRa (f:Nat):Tm->Nat->Tm × Int
 | .mk k nm ot n ty re l,m=>match goS (Tm.stp f) (.mk k nm ot n ty re l) (l.take m) 0 with
   | some r=>r
   | none=>(Tm.mk k nm ot n ty re l).apl
theorem zQU {f:Nat} (hS:zSw 66 f) {n0:Int} {nm ot:ByteArray} {ty re:Ty} {l:List Tm} {d:D} (hd:(Tm.mk 7 nm ot n0 ty re l).Is d) (hF:(Tm.mk 7 nm ot n0 ty re l).F (f+1)) :
  zOO 103 [.dg 9 d] (zRa f (Tm.mk 7 nm ot n0 ty re l) l.length):=λN Q hQ=>by
 have ai:=hd
 obtain ⟨t0,t1,r0,r1,a,es,c,rfl,hh,aj,Y⟩:=Tm.is_mk.1 hd
 have hl:=Y.len
 have a4:=(sO hF.ok).2.1 (.inl rfl)
 simp only [zRa,lH] at hQ
 have e2:(es.length:Int)=2:=by omega
 refine zHn N _ Q λ_=>⟨_,_,_,rfl,⟨by omega,by omega⟩,?_⟩
 refine up Y aj (λi xs=>∀ N',N<=N'->(∀ r:Tm × Int,(match goS (Tm.stp f) (Tm.mk 7 nm ot n0 ty re l) xs i with | some r=>r | none=>(Tm.mk 7 nm ot n0 ty re l).apl)=r->∀ d N'',N<=N''->r.1.Is d->Q d r.2 N'') ->
  wd Q N i (.ag [.j 7,.t nm,.t ot,.j n0,t0,t1,r0,r1,.sl a 9 es c]) 0 (bytes []) (bytes []) 0 0 none [] 0 0 none [] 0 none [] 0 (List.getD es 0 default) N') ?_ ?_ N (oD _) (λr I d N'' h1 h2=>by rw [<-I];rw [<-I] at h2;exact hQ d N'' h1 h2)
 ·intro i aa hi N' am I
  have I:=I _ rfl
  simp only [goS,Tm.apl] at I
  rw [if_neg (by decide),if_neg (by decide),if_pos trivial] at I
  refine qF _ _ _ _ _ _ _ _ _ _ _ _ _ _ _ _ _ _ _ _ _ ?_
  rw [<-e2,aa]
  have ab:=ui Y (j:=0) (by omega)
  have ac:=ui Y (j:=1) (by omega)
  have O:=hF.mem _ (za (l:=l) (i:=0) (by omega))
  have ae:=hF.mem _ (za (l:=l) (i:=1) (by omega))
  generalize l.getD 0 tm0=p at ab O I
  generalize l.getD 1 tm0=q at ac ae I
  have ak:=ab
  cases p with
  | mk pk pn po pm pt pr pl=>
  obtain ⟨u0,u1,v0,v1,a2,a5,c2,heq,a6,ao,U⟩:=Tm.is_mk.1 ab
  have a7:=U.len
  rw [heq] at ak ⊢
  have one:(pk=6\/pk=9)->pl.length=1:=λh=>(sO O.ok).1 (by omega)
  have ah:pl.length=1->(pl.getD 0 tm0).F f:=λh=>((O.up (g:=f+1) (by omega)).mem _ (za (l:=pl) (i:=0) (by omega)))
  refine ⟨_,rfl,Br.beq (λh6=>?_) λh6=>Br.beq (λh9=>?_) λh9 a8 ax=>?_⟩
  ·have h1:=one (.inl h6)
   rw [if_pos (show (Tm.mk pk pn po pm pt pr pl).kd=6 from h6)] at I
   refine ⟨_,_,_,rfl,⟨by omega,by omega⟩,_,rfl,_,_,_,rfl,⟨by omega,by omega⟩,λN6 a9=>?_⟩
   exact zDX (ui U (j:=0) (by omega)) ac pn (ah h1).z ae.z N6 _ λdx N7 ba hx _ _ _ N8 bb=>I _ _ (by omega) hx
  ·have h1:=one (.inr h9)
   rw [if_neg (show ¬(Tm.mk pk pn po pm pt pr pl).kd=6 from h6),if_pos (show (Tm.mk pk pn po pm pt pr pl).kd=9 from h9)] at I
   refine ⟨_,_,_,rfl,⟨by omega,by omega⟩,_,rfl,_,rfl,_,_,_,rfl,⟨by omega,by omega⟩,λN9 bc=>?_⟩
   refine zDX (ui U (j:=0) (by omega)) ak pn (ah h1).z O.z N9 _ λdx bd ay hx _ _ _ aq az=>?_
   exact zDX hx ac po (zU7 (ah h1) O) ae.z aq _ λdy bg a0 hy _ _ _ bh a3=>I _ _ (by omega) hy
  ·rw [if_neg (show ¬(Tm.mk pk pn po pm pt pr pl).kd=6 from h6),if_neg (show ¬(Tm.mk pk pn po pm pt pr pl).kd=9 from h9)] at I
   exact I _ _ (by omega) ai
 ·intro i x xs J bi au N' am I
  have hb:=J.b
  have aw:i<l.length:=(oC.1 J.g).1
  obtain rfl:l.getD i tm0=x:=by rw [oA,J.g];rfl
  have al:=hF.mem _ J.m
  have aa:=J.lt
  rw [e2] at aa
  refine qF _ _ _ _ _ _ _ _ _ _ _ _ _ _ _ _ _ _ _ _ _ ?_
  rw [aa,oH,J.w]
  refine ⟨_,_,_,rfl,⟨by omega,by omega⟩,λN1 bj=>zg J.r al.ok al.dp N1 _ λN2 bm _=>Br.not (λhv N3 bn=>?_) λhv=>?_⟩
  ·have I:=I _ rfl
   simp only [goS] at I
   rw [if_neg (by rw [hv];decide)] at I
   exact zG5 hS ai hF aw N3 _ λdx N4 bp hx _ _ N5 bq=>I _ _ (by omega) hx
  ·rw [zG9 hv] at I
   exact au _ (by omega) I
theorem zQf {l:List Tm} (h:0<l.length):l.take 1=[l.getD 0 tm0]:=by
 cases l with
 | nil=>simp at h
 | cons x xs=>rfl
theorem zNR (k:Int) {p:Tm} {d:D} (h:p.Is d) (hc:p.cnt<=1073741824) (a:Option Addr) (N:Nat) (Q:QT [.ag 9]) (I:∀ d' N',N<=N'->(Tm.nod k [p]).Is d'->Own N N' d'->Q d' N') :
 ACalls prog 45 [.ag 9] [.j k,.sv a 9 [d] 1] N Q:=qg k (l:=[p]) (es:=[d]) ⟨d,[],rfl,h,rfl⟩ (by simp) (by simpa using hc) a 1 N Q I
/-- a form whose first part is searched -/
theorem zDZ {f:Nat} (hS:zSw 66 f) {k n0:Int} {nm ot:ByteArray} {ty re:Ty} {l:List Tm} {d:D} (hk:k=5\/k=8\/k=12\/k=13) (hd:(Tm.mk k nm ot n0 ty re l).Is d) (hF:(Tm.mk k nm ot n0 ty re l).F (f+1)) :
  zOO 106 [.dg 9 d] (zRa f (Tm.mk k nm ot n0 ty re l) 1):=λN Q I=>by
 have aa:=hd
 obtain ⟨t0,t1,r0,r1,a,es,c,rfl,hh,a5,ab⟩:=Tm.is_mk.1 hd
 have hl:=ab.len
 have ac:0<l.length:=by
  obtain ⟨a1,a2,a3,_⟩:=sO hF.ok
  rcases hk with h | h | h | h
  ·have:=a3 h;omega
  ·have:=a2 (.inr h);omega
  ·have:=a1 (by omega);omega
  ·have:=a1 (by omega);omega
 have ae:=ui ab ac
 have J:=hF.mem _ (za ac)
 simp only [zRa] at I
 rw [zQf ac] at I
 simp only [goS] at I
 refine zHy N _ Q λ_=>⟨_,_,_,rfl,⟨by omega,by omega⟩,λN1 a8=>zg ae J.ok J.dp N1 _ λN2 a9 _=>Br.not (λhv N3 ba=>?_) λhv=>?_⟩
 ·rw [if_neg (by rw [hv];decide)] at I
  exact zG5 hS aa hF ac N3 _ λdx N4 aw hx _ _ N5 ax=>I _ _ (by omega) hx
 rw [if_pos hv] at I
 simp only [Tm.apl] at I
 generalize bb:l.getD 0 tm0=p at ae J hv I
 have ai:=ae
 have am:=λh=>zOm J.ok h
 cases p with
 | mk pk O U pm pt pr Y=>
 obtain ⟨u0,u1,v0,v1,a2,ay,c2,heq,bc,az,ah⟩:=Tm.is_mk.1 ae
 have bd:=ah.len
 simp only [Tm.kd,Tm.no] at am
 rw [heq] at ai ⊢
 have lift:∀ (N:Nat) (a:Option Addr) (N':Nat) (hN:N2<=N) (_:vI N [a]),(∀ d N',N2<=N'->(Tm.nod 10 [Tm.mk pk O U pm pt pr Y]).Is d->Q d 8 N') ->
   ACalls prog 45 [.ag 9] [.j 10,.sv a 9 [.ag [.j pk,.t O,.t U,.j pm,u0,u1,v0,v1,.sl a2 9 ay c2]] 1] N (λx N7=>N<=N7->Off [a] x/\(Bel N7 x->∀ N8,N7<=N8->Q x 8 N8)):=λN3 a N' hN hb hq=>
  zNR 10 ai (by have:=J.c;omega) a N3 _ λdx N4 aw hx ho _=>⟨wU hb ho,λ_ N5 ax=>hq _ _ (by omega) hx⟩
 rcases hk with rfl | rfl | rfl | rfl
 ·have bg:=(sO hF.ok).2.2.1 rfl
  rw [if_neg (by decide),if_pos rfl] at I
  refine ⟨_,rfl,Br.beq (λ_=>⟨_,rfl,Br.beq (λh3=>?_) λh3=>?_⟩) (λh=>absurd rfl h)⟩
  ·have hn:=am h3
   rw [if_pos (show (Tm.mk pk O U pm pt pr Y).kd=3 from h3)] at I
   have hw:IntKind.i64.wrap (2 - pm)=2 - pm:=i64_in _ (by omega)
   refine ⟨_,_,_,rfl,_,rfl,?_⟩
   rw [hw]
   refine ⟨⟨by omega,by omega⟩,λN6 ao=>?_⟩
   refine zNn qE (ui ab (j:=(2 - pm).toNat) (by omega)) (xF hF.z.g.2.2.2 (za (by omega))) (N0:=N) (by omega) (λd N=>Q d 2 N) λd' N7 aq aj _=>I _ _ (by omega) aj
  ·rw [if_neg (show ¬(Tm.mk pk O U pm pt pr Y).kd=3 from h3)] at I
   repeat' first | refine ⟨_,rfl,?_⟩ | refine Br.beq (λh=>absurd h (by decide)) λ_=>?_
   all_goals exact λN hN=>I _ _ (by omega) aa
 ·have bh:=(sO hF.ok).2.1 (.inr rfl)
  rw [if_neg (by decide),if_neg (by decide),if_neg (by decide),if_pos rfl] at I
  have a0:=hF.mem _ (za (l:=l) (i:=1) (by omega))
  have a4:=ui ab (j:=1) (by omega)
  repeat' first | refine ⟨_,rfl,?_⟩ | refine Br.beq (λh=>absurd h (by decide)) λ_=>?_ | refine Br.beq (λ_=>?_) (λh=>absurd rfl h)
  all_goals
   refine ⟨_,_,_,rfl,⟨by omega,by omega⟩,_,rfl,λN6 ao=>?_⟩
   exact zDX a4 ai nm a0.z J.z N6 _ λdx N7 aq hx _ _ _ N8 bi=>I _ _ (by omega) hx
 ·rw [if_neg (by decide),if_neg (by decide),if_neg (by decide),if_neg (by decide),if_pos rfl] at I
  repeat' first | refine ⟨_,rfl,?_⟩ | refine Br.beq (λh=>absurd h (by decide)) λ_=>?_ | refine Br.beq (λ_=>?_) (λh=>absurd rfl h)
  all_goals
   refine Br.beq (λak=>?_) λak=>?_
   ·rw [if_pos (show (Tm.mk pk O U pm pt pr Y).kd=10 from ak)] at I
    have h1:=(sO J.ok).1 (by omega)
    refine ⟨_,_,_,rfl,⟨by omega,by omega⟩,λN6 ao=>?_⟩
    refine zNn qE (ui ah (j:=0) (by omega)) (xF J.z.g.2.2.2 (za (by omega))) (N0:=N) (by omega) (λd N=>Q d 7 N) λd' N7 aq aj _=>I _ _ (by omega) aj
   ·rw [if_neg (show ¬(Tm.mk pk O U pm pt pr Y).kd=10 from ak)] at I
    repeat' first | refine ⟨_,rfl,?_⟩ | refine Br.beq (λh=>absurd h (by decide)) λ_=>?_
    all_goals exact λN hN=>I _ _ (by omega) aa
 ·rw [if_neg (by decide),if_neg (by decide),if_neg (by decide),if_neg (by decide),if_neg (by decide),if_pos rfl] at I
  repeat' first | refine ⟨_,rfl,?_⟩ | refine Br.beq (λh=>absurd h (by decide)) λ_=>?_ | refine Br.beq (λ_=>?_) (λh=>absurd rfl h)
  all_goals
   refine Br.beq (λh2=>⟨⟨rfl,rfl⟩,λa6 _ al au hb=>?_⟩) λh2=>⟨_,rfl,Br.beq (λh3=>⟨⟨rfl,rfl⟩,λa6 _ al au hb=>?_⟩) λh3 bj a7=>?_⟩
   ·rw [if_pos (show (Tm.mk pk O U pm pt pr Y).kd=2\/(Tm.mk pk O U pm pt pr Y).kd=3 from .inl h2)] at I
    exact lift al a6 0 (by omega) hb λd N' h1 h2=>I _ _ (by omega) h2
   ·rw [if_pos (show (Tm.mk pk O U pm pt pr Y).kd=2\/(Tm.mk pk O U pm pt pr Y).kd=3 from .inr h3)] at I
    exact lift al a6 0 (by omega) hb λd N' h1 h2=>I _ _ (by omega) h2
   ·rw [if_neg (show ¬((Tm.mk pk O U pm pt pr Y).kd=2\/(Tm.mk pk O U pm pt pr Y).kd=3) from λh=>h.elim h2 h3)] at I
    exact I _ _ (by omega) aa
theorem zD4:∀ f,zSw 66 f
 | 0=>λe d _ U=>absurd (Tm.dp_pos e) (by have:=U.d;omega)
 | f+1=>λe d hd U N Q hQ=>by
   have ih:=zD4 f
   cases e with
   | mk k nm ot n0 ty re l=>
   have I:=hd
   obtain ⟨t0,t1,r0,r1,a,es,c,rfl,hh,am,ah⟩:=Tm.is_mk.1 hd
   have hl:=ah.len
   simp only [Tm.stp] at hQ
   refine zF9 N _ Q λ_ N1 ay=>zg I U.ok U.dp N1 _ λN2 az _=>Br.of (λhv N3 a0=>?_) λhv=>⟨_,rfl,?_⟩
   ·rw [if_pos hv] at hQ
    exact hQ _ _ (by omega) I
   rw [if_neg (by rw [hv];decide)] at hQ
   have other:k≠10->∀ m,zFO k l.length=m->∀ d N',N<=N'->(zRa f (Tm.mk k nm ot n0 ty re l) m).1.Is d->Q d (zRa f (Tm.mk k nm ot n0 ty re l) m).2 N':=λhk m hm=>by
    rw [if_neg (show ¬(Tm.mk k nm ot n0 ty re l).kd=10 from hk),hm] at hQ
    exact hQ
   refine Br.beq (λh4 N4 Y=>?_) λh4=>Br.beq (λh7 N4 Y=>?_) λh7=>Br.beq (λO=>?_) λO=>Br.beq (λh5 N4 Y=>?_) λh5=>Br.beq (λh8 N4 Y=>?_) λh8=>Br.beq (λaa N4 Y=>?_) λaa=>Br.beq (λab N4 Y=>?_) λab N4 Y=>?_
   ·subst h4
    have J:=other (by decide) l.length (by simp [zFO])
    simp only [zRa,lH,Tm.apl,mE] at J
    exact zR5 ih I U rfl N4 _ λx N5 ac hx _ _ N6 ae=>J _ _ (by omega) hx
   ·subst h7
    have J:=other (by decide) l.length (by simp [zFO])
    exact zQU ih I U N4 _ λx N5 ac hx _ _ N6 ae=>J _ _ (by omega) hx
   ·rw [if_pos (by exact O)] at hQ
    have a2:=(sO U.ok).1 (by omega)
    have ai:=za (l:=l) (i:=0) (by omega)
    refine ⟨_,_,_,rfl,⟨by omega,by omega⟩,λaj ao=>?_⟩
    have a3:=dp_mem (k:=k) (nm:=nm) (ot:=ot) (n:=n0) (ty:=ty) (re:=re) ai
    have a4:=U.dp
    refine zO6 ih _ _ (ui ah (j:=0) (by omega)) ((U.mem _ ai).up (by omega)) 1 (by unfold LvIn;omega) aj _ λdx a5 aq hx _ _ ak au=>?_
    exact zEN I U.z.g hx (i:=0) (by simp only [Tm.as];omega) ak _ λd' a6 aw al _ _ a7 ax=>hQ _ _ (by omega) al
   ·have J:=other O 1 (by simp [zFO,h4,h7,h5])
    exact zDZ ih (.inl h5) I U N4 _ λx N5 ac hx _ _ N6 ae=>J _ _ (by omega) hx
   ·have J:=other O 1 (by simp [zFO,h4,h7,h8])
    exact zDZ ih (.inr (.inl h8)) I U N4 _ λx N5 ac hx _ _ N6 ae=>J _ _ (by omega) hx
   ·have J:=other O 1 (by simp [zFO,h4,h7,aa])
    exact zDZ ih (.inr (.inr (.inl aa))) I U N4 _ λx N5 ac hx _ _ N6 ae=>J _ _ (by omega) hx
   ·have J:=other O 1 (by simp [zFO,h4,h7,ab])
    exact zDZ ih (.inr (.inr (.inr ab))) I U N4 _ λx N5 ac hx _ _ N6 ae=>J _ _ (by omega) hx
   ·have J:=other O 0 (by simp [zFO,h4,h7,h5,h8,aa,ab])
    simp only [zRa,mv,goS,Tm.apl] at J
    rw [if_neg h4,if_neg h5,if_neg h7,if_neg h8,if_neg aa,if_neg ab] at J
    exact J _ _ (by omega) I
theorem zTF:tm0.Is (.ag [.j 0,.t (bytes []),.t (bytes []),.j 0,.j 0,.sl none 2 [] 0,.j 0,.sl none 2 [] 0,.sl none 9 [] 0]):=
 Tm.is_mk.2 ⟨_,_,_,_,_,_,_,rfl,⟨by decide,by decide,xP _,xP _⟩,by simp,rfl⟩
theorem zBy:∀ (t:Tm) (d:D),t.Is d->t.sz<=9223372036854775807->rN 64 [.dg 9 d] t.sz:=by
 refine Tm.ind λk nm ot n0 ty re l ih d hd hc N Q hQ=>?_
 obtain ⟨t0,t1,r0,r1,a,es,c,rfl,hh,J,O⟩:=Tm.is_mk.1 hd
 simp only [Tm.sz] at hc
 refine zHm N _ Q λ_=>?_
 refine up O J (λi xs=>∀ (m:Nat) (N':Nat),N<=N'->m+zw xs=1+zw l->wj Q N m i (.ag [.j k,.t nm,.t ot,.j n0,t0,t1,r0,r1,.sl a 9 es c]) N') ?_ ?_ 1 N (oD _) rfl
 ·intro i U _ m N' Y hm
  refine rP _ _ _ _ _ _ ⟨_,_,_,rfl,?_⟩
  simp only [zw] at hm
  rw [U]
  exact λN2 aa=>Qi (hQ _ (by omega)) (by simp only [Tm.sz];omega)
 ·intro i x xs I _ ab m N' Y hm
  have hb:=I.b
  have ac:=vO I.m
  simp only [zw] at hm
  refine rP _ _ _ _ _ _ ⟨_,_,_,rfl,?_⟩
  rw [I.lt,I.w,oH]
  refine ⟨_,_,_,rfl,⟨by omega,by omega⟩,λN1 ae=>ih x I.m _ I.r (by omega) N1 _ λN2 aa _=>?_⟩
  rw [i64_in _ (by omega)]
  have:=ab (m+x.sz) N2 (by omega) (by omega)
  simpa using this
/-- a term's types are small -/
theorem zT4:∀ t:Tm,t.ok=true->t.cnt<=61*t.sz:=by
 refine Tm.ind λk nm ot n ty re l ih h=>?_
 obtain ⟨h1,I,h3⟩:=Tm.ok_mk.1 h
 have Y:∀ t:Ty,t.zero=true->t.cnt<=30:=λt J=>by
  cases t with
  | mk k l=>
  simp only [Ty.zero,Ty.k,Ty.as,oI,nl] at J
  have:l=[]:=oW (by omega)
  subst this
  simp [Ty.cnt,zJ]
 have v1:∀ t:Ty,t.valid=true->t.cnt<=30:=λt J=>by
  simp only [Ty.valid,oI,nO] at J
  exact J.1.1
 simp only [zK,oI,nl,nS] at I
 have aa:ty.cnt<=30:=by
  rcases I.2.1 with h | h
  ·exact v1 _ (by rw [<-I.1,h])
  ·exact Y _ h
 have ab:re.cnt<=30:=by
  rcases I.2.2.2.1 with h | h
  ·exact v1 _ (by rw [<-I.2.2.1];simpa using h)
  ·exact Y _ h
 have key:∀ xs:List Tm,(∀ x∈xs,x∈l)->zR xs<=61*zw xs:=by
  intro xs
  induction xs with
  | nil=>intro _;exact oD _
  | cons x xs O=>
    intro U
    have a1:=ih x (U x (by simp)) (h1 x (U x (by simp)))
    have a2:=O λy hy=>U y (by simp [hy])
    simp only [zR,zw];omega
 have:=key l λx hx=>hx
 simp only [Tm.cnt,Tm.sz];omega
/-- a term that is reached by steps -/
structure Rch (x:Tm):Prop where
 g:x.G
 s:x.sz<=64482000
 o:x.sz<=400->x.ok=true
theorem Rch.F {x:Tm} (h:Rch x) (hs:x.sz<=400):x.F x.dp:=Tm.F.of (h.o hs) (oD _) (by have:=zT4 x (h.o hs);omega)
theorem Rch.step {x:Tm} (h:Rch x) (hs:x.sz<=400):Rch (x.stp x.dp).1:=⟨zS5 _ _ h.g,by have:=zRS x.dp x hs;omega,λI=>zKg _ x (oD _) (h.o hs) I⟩
theorem Rch.of {e:Tm} (I:e.ok=true) (J:e.cnt<=4000000):Rch e:=⟨Tm.G_cnt e (by omega),by have:=Tm.sz_cnt e;omega,λ_=>I⟩
/-- how a run ends, as data -/
def zTl (r:Int × Tm × Nat) (d:D):Prop:=∃ cs,d=.ag (.j r.1::(cs++[.j (r.2.2:Nat)]))/\r.2.1.Is (.ag cs)
theorem zCL (m n:Nat) (x:Tm):zNH m n x=if x.sz>400 then ((3,tm0,n),[]) else if x.res then ((1,x,n),[]) else match m with
  | 0=>((2,x,n),[])
  | m+1=>if (x.stp x.dp).2=0 then ((4,x,n),[]) else ((zNH m (n+1) (x.stp x.dp).1).1,(x.stp x.dp).2::(zNH m (n+1) (x.stp x.dp).1).2):=by
 cases m<;>rfl
theorem zLH {s:Int} {k n0:Int} {nm ot:ByteArray} {ty re:Ty} {l:List Tm} {n:Nat} {I J O U Y y5 y6 y7 y8:D} (h:(Tm.mk k nm ot n0 ty re l).Is (.ag [I,J,O,U,Y,y5,y6,y7,y8])) :
 zTl (s,Tm.mk k nm ot n0 ty re l,n) (.ag [.j s,I,J,O,U,Y,y5,y6,y7,y8,.j (n:Nat)]):=⟨_,rfl,h⟩
theorem zTM {s:Int} {n:Nat}:zTl (s,tm0,n) (.ag [.j s,.j 0,.t (bytes []),.t (bytes []),.j 0,.j 0,.sl none 2 [] 0,.j 0,.sl none 2 [] 0,.sl none 9 [] 0,.j (n:Nat)]):=⟨_,rfl,zTF⟩
theorem Rs.cells {r:Int × Tm × Nat} {d:D} (h:zTl r d):∃ J O U Y y4 y5 y6 y7 y8,d=.ag [.j r.1,J,O,U,Y,y4,y5,y6,y7,y8,.j (r.2.2:Nat)]/\r.2.1.Is (.ag [J,O,U,Y,y4,y5,y6,y7,y8]):=by
 obtain ⟨cs,rfl,h⟩:=h
 obtain ⟨s,t,n⟩:=r
 cases t with
 | mk k nm ot n0 ty re l=>
 obtain ⟨t0,t1,r0,r1,a,es,c,I,hh,aa,ab⟩:=Tm.is_mk.1 h
 injection I with I
 subst I
 exact ⟨_,_,_,_,_,_,_,_,_,rfl,h⟩
theorem zFc {e:Tm} {d:D} (he:e.Is d) (hc:e.cnt<=4000000) (fu:Int) (N:Nat) (Q:QT [.ag 11]) (O:∀ d N',N<=N'->zTl (qB e fu) d->Q d N'):ACalls prog 22 [.ag 11] [.dg 9 d,.j fu] N Q:=by
 have hG:=Tm.G_cnt e (by omega)
 unfold qB at O
 refine zFd N _ fu Q λ_ N1 ai=>zEp e d he (by omega) 0 N1 _ λN2 aj _=>Br.not (λhv N3 ac=>?_) λhv N4 ak=>yk _ _ _ N4 _ λN5 al _=>Br.not (λhb N6 ae=>?_) λhb N7 am=>?_
 ·rw [if_neg (by rw [hv];simp)] at O
  exact O _ _ (by omega) zTM
 ·rw [if_neg (by rw [hv,hb];decide)] at O
  exact O _ _ (by omega) zTM
 rw [if_pos (by rw [hv,hb];rfl)] at O
 have bc:=yE.1 hb
 have aw:e.ok=true:=by unfold zDU at hv;simp at hv;exact hv.1
 have hR:=Rch.of aw hc
 refine qE e d he hG N7 _ ?_
 obtain ⟨F,rfl⟩:∃ F:Nat,fu=(F:Int):=⟨fu.toNat,by omega⟩
 rw [oH] at O
 have rest:∀ (m n:Nat) (x:Tm) (dx:D) (N':Nat),N<=N'->n+m=F->Rch x->x.Is dx->(∀ d N',N<=N'->zTl (zNH m n x).1 d->Q d N')->xO Q N (F:Nat) n 0 0 (bytes []) (bytes []) 0 0 none [] 0 0 none [] 0 none [] 0 0 dx N':=by
  intro m
  induction m with
  | zero=>
    intro n x dx N' ax hn hx I J
    rw [zCL] at J
    have ao:=hx.s
    refine uw _ _ _ _ _ _ _ _ _ _ _ _ _ _ _ _ _ _ _ _ _ _ _ λN1 ai=>zBy x dx I (by omega) N1 _ λN2 aj _=>Br.dec (λh4 N3 ac=>?_) λh4 N4 ak=>?_
    ·rw [if_pos (by omega)] at J;exact J _ _ (by omega) zTM
    ·rw [if_neg (by omega)] at J
     have hF:=hx.F (by omega)
     refine zg I hF.ok hF.dp N4 _ λN5 al _=>Br.of (λU N6 ae=>?_) λU=>Br.beq (λ_ N7 am=>?_) λaa=>absurd (by omega) aa
     ·rw [if_pos U] at J
      cases x with
      | mk k nm ot n0 ty re l=>
      obtain ⟨t0,t1,r0,r1,a,es,c,rfl,hh,Y,ah⟩:=Tm.is_mk.1 I
      exact J _ _ (by omega) (zLH I)
     ·rw [if_neg (by rw [U];decide)] at J
      cases x with
      | mk k nm ot n0 ty re l=>
      obtain ⟨t0,t1,r0,r1,a,es,c,rfl,hh,Y,ah⟩:=Tm.is_mk.1 I
      exact J _ _ (by omega) (zLH I)
  | succ m ih=>
    intro n x dx N' ax hn hx I J
    rw [zCL] at J
    have ao:=hx.s
    refine uw _ _ _ _ _ _ _ _ _ _ _ _ _ _ _ _ _ _ _ _ _ _ _ λN1 ai=>zBy x dx I (by omega) N1 _ λN2 aj _=>Br.dec (λh4 N3 ac=>?_) λh4 N4 ak=>?_
    ·rw [if_pos (by omega)] at J;exact J _ _ (by omega) zTM
    ·rw [if_neg (by omega)] at J
     have hF:=hx.F (by omega)
     refine zg I hF.ok hF.dp N4 _ λN5 al _=>Br.of (λU N6 ae=>?_) λU=>Br.beq (λaa=>absurd aa (by omega)) λ_ N8 ay=>?_
     ·rw [if_pos U] at J
      cases x with
      | mk k nm ot n0 ty re l=>
      obtain ⟨t0,t1,r0,r1,a,es,c,rfl,hh,Y,ah⟩:=Tm.is_mk.1 I
      exact J _ _ (by omega) (zLH I)
     ·rw [if_neg (by rw [U];decide)] at J
      refine zD4 _ _ _ I hF N8 _ λdy N9 az hy _ _=>Br.beq (λh0 aq au=>?_) λh0=>?_
      ·simp only at J
       rw [if_pos h0] at J
       cases x with
       | mk k nm ot n0 ty re l=>
       obtain ⟨t0,t1,r0,r1,a,es,c,rfl,hh,Y,ah⟩:=Tm.is_mk.1 I
       exact J _ _ (by omega) (zLH I)
      ·simp only at J
       rw [if_neg h0] at J
       rw [i64_in _ (by omega)]
       have:=ih (n+1) _ dy N9 (by omega) (by omega) (hx.step (by omega)) hy J
       simpa using this
 cases e with
 | mk k nm ot n0 ty re l=>
 intro x4 x5 x6 x7 a0 c' N8 ay a2 ab bd _ _
 have bg:=ab.len
 have bh:=hG.2.2.1
 have ao:=hR.s
 refine zDS _ _ _ _ _ _ _ _ _ _ _ _ _ _ _ _ _ _ _ _ _ _ _ _ _ _ _ _ _ _ _ _ _ _ ⟨⟨rfl,rfl⟩,⟨rfl,rfl⟩,λa1 N9 az _ aq au=>?_⟩
 have I:(Tm.mk k nm ot n0 ty re l).Is (.ag [.j k,.t nm,.t ot,.j n0,x4,x5,x6,x7,.sl a1 9 a0 c']):=Tm.is_mk.2 ⟨_,_,_,_,_,_,_,rfl,a2,by omega,ab⟩
 rw [zCL] at O
 refine zBy _ _ I (by omega) aq _ λbi a6 _=>Br.dec (λh4 N3 ac=>?_) λh4 a3 a7=>?_
 ·rw [if_pos (by omega)] at O;exact O _ _ (by omega) zTM
 rw [if_neg (by omega)] at O
 have hF:=hR.F (by omega)
 refine zg I hF.ok hF.dp a3 _ λbj a8 _=>Br.of (λU N6 ae=>?_) λU=>Br.beq (λh0 N7 am=>?_) λaa a4 a9=>?_
 ·rw [if_pos U] at O;exact O _ _ (by omega) (zLH I)
 ·rw [if_neg (by rw [U];decide)] at O
  have:F=0:=by omega
  subst this
  exact O _ _ (by omega) (zLH I)
 ·rw [if_neg (by rw [U];decide)] at O
  obtain ⟨m,rfl⟩:∃ m,F=m+1:=⟨F - 1,by omega⟩
  simp only at O
  refine zD4 _ _ _ I hF a4 _ λdy a5 ba hy _ _=>Br.beq (λh0 bm bb=>?_) λh0=>?_
  ·rw [if_pos h0] at O;exact O _ _ (by omega) (zLH I)
  ·rw [if_neg h0] at O
   rw [i64_in _ (by omega)]
   exact rest m 1 _ dy a5 (by omega) (by omega) (hR.step (by omega)) hy O
end Go.Proofs.YtlahkdflngobiaaGreat
