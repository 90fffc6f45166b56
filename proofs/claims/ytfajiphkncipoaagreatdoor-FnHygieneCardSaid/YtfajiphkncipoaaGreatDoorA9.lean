/- Substitution: how deep, how great (no program in sight). -/
import Derived.Test.YtfajiphkncipoaaGreatDoorA7
import Derived.Test.YtfajiphkncipoaaGreatDoorA8
import Derived.Test.YtfajiphkncipoaaGreatDoorKf
set_option linter.unusedVariables false
set_option linter.unusedSimpArgs false
namespace Go.Proofs.YtfajiphkncipoaaGreatDoor
open Go Go.Proofs Go.Proofs.Tryz Go.IntWalk
mutual
/-- variables have no parts -/
def Tm.V:Tm->Prop
 | .mk k _ _ _ _ _ l=>(k=1->l=[])/\zRM l
def zRM:List Tm->Prop
 | []=>True
 | t::I=>t.V/\zRM I
end
theorem tC:∀ {l:List Tm},zRM l↔∀ x∈l,x.V
 | []=>by simp [zRM]
 | t::I=>by simp only [zRM,tC (l:=I),oF,mf]
theorem vp:∀ {l:List Tm} {n:Nat},qI l<=n↔∀ x∈l,x.dp<=n
 | [],n=>by simp [qI]
 | t::I,n=>by simp only [qI,Nat.max_le,vp (l:=I),oF,mf]
theorem Tm.dp_pos (t:Tm):1<=t.dp:=by cases t;simp only [Tm.dp];omega
/-- no greater, no deeper -/
structure LeT (t' t:Tm):Prop where
 c:t'.vc<=t.vc
 d:t'.dp<=t.dp
 v:t.V->t'.V
 g:t.G->t'.G
 s:t'.sz<=t.sz
 n:t'.cnt<=t.cnt
theorem LeT.rfl {t:Tm}:LeT t t:=⟨oD _,oD _,id,id,oD _,oD _⟩
theorem LeT.trans {a b c:Tm} (h:LeT a b) (I:LeT b c):LeT a c:=⟨oS h.c I.c,oS h.d I.d,λJ=>h.v (I.v J),λJ=>h.g (I.g J),oS h.s I.s,oS h.n I.n⟩
theorem zMB:∀ {l' l:List Tm},l'.length=l.length->(∀ (i:Nat) (t' t:Tm),l'[i]?=some t'->l[i]?=some t->LeT t' t)->w8 l'<=w8 l/\qI l'<=qI l/\(zRM l->zRM l')/\(zMO l->zMO l')/\zW l'<=zW l/\zL l'<=zL l
 | [],[],_,_=>⟨oD _,oD _,id,id,oD _,oD _⟩
 | [],_::_,h,_=>by simp at h
 | _::_,[],h,_=>by simp at h
 | t'::O,t::Y,h,U=>by
   obtain ⟨h1,h2,h3,h4,h5,h6⟩:=zMB (l':=O) (l:=Y) (by simpa using h) λi a b ha hb=>U (i+1) a b (by simpa using ha) (by simpa using hb)
   have I:=U 0 t' t (by simp) (by simp)
   have:=I.c
   have:=I.d
   have:=I.s
   have:=I.n
   refine ⟨by simp only [w8];omega,by simp only [qI];omega,λJ=>⟨I.v J.1,h3 J.2⟩,λJ=>⟨I.g J.1,h4 J.2⟩,by simp only [zW];omega,by simp only [zL];omega⟩
theorem zIU {l:List Tm} {g:Tm->Tm} {j:Nat} {v t' t:Tm} {i:Nat} (h:((l.map g).set j v)[i]?=some t') (J:l[i]?=some t):(i=j/\t'=v)\/(i≠j/\t'=g t):=by
 rw [nK] at h
 split at h
 ·rename_i I
  split at h
  ·exact .inl ⟨I.symm,(oT h).symm⟩
  ·cases h
 ·rename_i I
  rw [oE,J] at h
  exact .inr ⟨λhc=>I hc.symm,(oT h).symm⟩
theorem zOT {k:Int} {nm ot J O:ByteArray} {n:Int} {ty re:Ty} {l l':List Tm} (U:k≠1) (h:l'.length=l.length) (Y:∀ (i:Nat) (t' t:Tm),l'[i]?=some t'->l[i]?=some t->LeT t' t):LeT (.mk k J O n ty re l') (.mk k nm ot n ty re l):=by
 obtain ⟨h1,h2,h3,h4,h5,h6⟩:=zMB h Y
 exact ⟨by simp only [Tm.vc,if_neg U];omega,by simp only [Tm.dp];omega,λI=>⟨λhc=>absurd hc U,h3 I.2⟩,λI=>⟨I.1,I.2.1,h ▸ I.2.2.1,h4 I.2.2.2⟩,by simp only [Tm.sz];omega,by simp only [Tm.cnt];omega⟩
theorem zBU {S:Tm->ByteArray->Tm->Tm} (I:∀ t x y,LeT (S t x (pP y)) t) (k:Int) (n:Nat) (fb:List ByteArray) (x old:ByteArray) (s:ByteArray × ByteArray × Tm):LeT (rn1 S k n fb x old s).2.2 s.2.2:=by
 unfold rn1
 split
 ·split
  ·exact I _ _ _
  ·exact I _ _ _
 ·exact LeT.rfl
theorem sL {S:Tm->ByteArray->Tm->Tm} (I:∀ t x y,LeT (S t x (pP y)) t) (k:Int) (n:Nat) (fb:List ByteArray) (x:ByteArray):∀ (l:List ByteArray) (s:ByteArray × ByteArray × Tm),LeT (rns S k n fb x l s).2.2 s.2.2
 | [],s=>LeT.rfl
 | old::l,s=>(sL I k n fb x l _).trans (zBU I k n fb x old s)
/-- a name put for a name -/
theorem xg:∀ (f:Nat) (t:Tm) (x y:ByteArray),LeT (t.sub f x (pP y)) t
 | 0,t,x,y=>by simp only [Tm.sub];exact LeT.rfl
 | f + 1,.mk k nm ot n ty re l,x,y=>by
   have U:=xg f
   simp only [Tm.sub]
   split
   ·rename_i Y
    split
    ·exact ⟨by simp only [pP,Tm.vc,if_pos Y,ma];exact oD _,by simp only [pP,Tm.dp,qI];omega,λ_=>⟨λ_=>rfl,trivial⟩,λ_=>by simp [pP,Tm.G,zMO,Ty.cnt,zM],by simp only [pP,Tm.sz,zW];omega,by have:=Ty.cnt_pos ty;have:=Ty.cnt_pos re;simp only [pP,Tm.cnt,zL,Ty.cnt,zM];omega⟩
    ·exact LeT.rfl
   ·rename_i Y
    split
    ·refine zOT Y (by simp) λi t' t I J=>?_
     rw [oE,J] at I
     cases I
     exact U t x y
    ·rename_i hb
     obtain ⟨g1,g2⟩:=wR hb
     split
     ·refine zOT Y (by simp) λi t' t I J=>?_
      rcases zIU I J with ⟨h1,O⟩ | ⟨h1,O⟩
      ·rw [h1,zX g1] at J
       rw [O,<-oT J]
       exact LeT.rfl
      ·rw [O];exact U t x y
     ·refine zOT Y (by simp) λi t' t I J=>?_
      rcases zIU I J with ⟨h1,O⟩ | ⟨h1,O⟩
      ·rw [h1,zX g1] at J
       rw [O,<-oT J]
       exact (U _ x y).trans (sL U _ _ _ _ _ _)
      ·rw [O];exact U t x y
/-- what holds of each node of what is put in -/
theorem zPn:∀ (f:Nat) (t:Tm) (x:ByteArray) (b:Tm),t.G->b.G->(t.sub f x b).G
 | 0,t,x,b,h,_=>by simp only [Tm.sub];exact h
 | f + 1,.mk k nm ot n ty re l,x,b,h,U=>by
   have I:=zPn f
   obtain ⟨Y,h2,h3,h4⟩:=h
   have vG:∀ y,(pP y).G:=λy=>by simp [pP,Tm.G,zMO,Ty.cnt,zM]
   simp only [Tm.sub]
   split
   ·split
    ·exact U
    ·exact ⟨Y,h2,h3,h4⟩
   ·split
    ·refine ⟨Y,h2,by simpa using h3,zBf λy J=>?_⟩
     obtain ⟨z,hz,rfl⟩:=oR.1 J
     exact I z x b (yH h4 hz) U
    ·rename_i aa
     obtain ⟨g1,g2⟩:=wR aa
     have O:=yH h4 (oC (zX g1))
     have key:∀ v:Tm,v.G->zMO ((l.map λt=>Tm.sub f t x b).set (yL k l.length).toNat v):=λv hv=>zBf λy J=>by
      rcases nG J with J | rfl
      ·obtain ⟨z,hz,rfl⟩:=oR.1 J
       exact I z x b (yH h4 hz) U
      ·exact hv
     split
     ·exact ⟨Y,h2,by simpa using h3,key _ O⟩
     ·refine ⟨Y,h2,by simpa using h3,key _ (I _ x b ?_ U)⟩
      have r1:∀ (old:ByteArray) (s:ByteArray × ByteArray × Tm),s.2.2.G->(rn1 (Tm.sub f) k l.length b.fv x old s).2.2.G:=λold s hs=>by
       unfold rn1
       split
       ·split
        ·exact I _ _ _ hs (vG _)
        ·exact I _ _ _ hs (vG _)
       ·exact hs
      have rs:∀ (ns:List ByteArray) (s:ByteArray × ByteArray × Tm),s.2.2.G->(rns (Tm.sub f) k l.length b.fv x ns s).2.2.G:=by
       intro ns
       induction ns with
       | nil=>exact λs hs=>hs
       | cons o os ab=>exact λs hs=>ab _ (r1 o s hs)
      exact rs _ _ O
theorem zRl:∀ (f:Nat) (t:Tm) (x:ByteArray) (b:Tm),t.V->b.V->(t.sub f x b).V
 | 0,t,x,b,h,_=>by simp only [Tm.sub];exact h
 | f + 1,.mk k nm ot n ty re l,x,b,h,Y=>by
   have ih:=zRl f
   obtain ⟨h1,J⟩:=h
   have J:=tC.1 J
   simp only [Tm.sub]
   split
   ·split
    ·exact Y
    ·exact ⟨h1,tC.2 J⟩
   ·rename_i hk
    have I:∀ l':List Tm,k=1->l'=[]:=λ_ hc=>absurd hc hk
    split
    ·refine ⟨I _,tC.2 λy O=>?_⟩
     obtain ⟨z,hz,rfl⟩:=oR.1 O
     exact ih z x b (J z hz) Y
    ·rename_i aa
     obtain ⟨g1,g2⟩:=wR aa
     have U:=J _ (oC (zX g1))
     have key:∀ v:Tm,v.V->zRM ((l.map λt=>Tm.sub f t x b).set (yL k l.length).toNat v):=λv hv=>tC.2 λy O=>by
      rcases nG O with O | rfl
      ·obtain ⟨z,hz,rfl⟩:=oR.1 O
       exact ih z x b (J z hz) Y
      ·exact hv
     split
     ·exact ⟨I _,key _ U⟩
     ·exact ⟨I _,key _ (ih _ x b ((sL (xg f) _ _ _ _ _ _).v U) Y)⟩
theorem zDZ {g:Tm->Tm} {m:Nat}:∀ {l:List Tm},(∀ t∈l,(g t).vc<=t.vc*m)->w8 (l.map g)<=w8 l*m
 | [],_=>by simp [w8]
 | t::l,h=>by
   have J:=zDZ (l:=l) λx I=>h x (by simp [I])
   have O:=h t (by simp)
   simp only [o8,w8,nC]
   omega
theorem zE3 {g:Tm->Tm} {m:Nat} {v:Tm}:∀ {l:List Tm} {j:Nat},(∀ t∈l,(g t).vc<=t.vc*m)->(∀ t,l[j]?=some t->v.vc<=t.vc*m)->w8 ((l.map g).set j v)<=w8 l*m
 | [],_,_,_=>by simp [w8]
 | t::l,0,h,J=>by
   have O:=zDZ (l:=l) λx I=>h x (by simp [I])
   have U:=J t rfl
   simp only [o8,mE,w8,nC]
   omega
 | t::l,j+1,h,J=>by
   have O:=zE3 (l:=l) (j:=j) (v:=v) (λx I=>h x (by simp [I])) λx I=>J x (by simpa using I)
   have U:=h t (by simp)
   simp only [o8,mQ,w8,nC]
   omega
/-- how many variables: each may become what is put in -/
theorem zRJ:∀ (f:Nat) (t:Tm) (x:ByteArray) (b:Tm),(t.sub f x b).vc<=t.vc*(b.vc+1)
 | 0,t,x,b=>by simp only [Tm.sub];exact nw _ (by omega)
 | f + 1,.mk k nm ot n ty re l,x,b=>by
   have O:=zRJ f
   simp only [Tm.sub]
   split
   ·rename_i I
    split
    ·simp only [Tm.vc,if_pos I];omega
    ·exact nw _ (by omega)
   ·rename_i I
    split
    ·simp only [Tm.vc,if_neg I]
     exact zDZ λt _=>O t x b
    ·rename_i U
     obtain ⟨Y,g2⟩:=wR U
     split
     ·simp only [Tm.vc,if_neg I]
      refine zE3 (λt _=>O t x b) λt J=>?_
      rw [zX Y] at J
      rw [<-oT J]
      exact nw _ (by omega)
     ·simp only [Tm.vc,if_neg I]
      refine zE3 (λt _=>O t x b) λt J=>?_
      rw [zX Y] at J
      rw [<-oT J]
      exact oS (O _ x b) (oc _ (sL (xg f) _ _ _ _ _ _).c)
/-- not too great to be copied, its free names to be listed -/
structure Tm.Z (t:Tm):Prop where
 g:t.G
 c:t.vc<=2199023255552
 v:t.V
theorem Tm.Z.mem {k:Int} {nm ot:ByteArray} {n:Int} {ty re:Ty} {l:List Tm} (h:(Tm.mk k nm ot n ty re l).Z):∀ y∈l,y.Z:=λy I=>by
 have hc:=h.c
 have:=zBo I
 simp only [Tm.vc] at hc
 split at hc
 ·rename_i J
  rw [h.v.1 J] at I
  simp at I
 ·exact ⟨yH h.g.2.2.2 I,by omega,tC.1 h.v.2 y I⟩
theorem LeT.z {t' t:Tm} (h:LeT t' t) (I:t.Z):t'.Z:=⟨h.g I.g,oS h.c I.c,h.v I.v⟩
theorem zRX (s:ByteArray):(pP s).Z:=⟨by simp [pP,Tm.G,zMO,Ty.cnt,zM],by simp only [pP,Tm.vc,ma];omega,λ_=>rfl,trivial⟩
theorem zJh:∀ {l:List D} {j:Nat} {x:D} {b:Nat},b∈zF (l.set j x)->b∈zF l\/b∈x.foot
 | [],j,x,b,h=>by simp [zF] at h
 | a::l,0,x,b,h=>by
   simp only [mE,zF,oK] at h ⊢
   rcases h with h | h
   ·exact .inr h
   ·exact .inl (.inr h)
 | a::l,j+1,x,b,h=>by
   simp only [mQ,zF,oK] at h ⊢
   rcases h with h | h
   ·exact .inl (.inl h)
   ·rcases zJh h with h | h
    ·exact .inl (.inr h)
    ·exact .inr h
theorem zMM {N N1 N2 N3:Nat} {x:D} (I:Own N2 N3 x) (h1:N<=N2) (h2:N1<=N2) (h3:N2<=N3):∀ {l:List D} {j:Nat},OwnL N N1 l->OwnL N N3 (l.set j x)
 | [],j,h=>by simp only [List.set_nil];exact h.mono (oD _) (by omega)
 | a::l,0,h=>by
   have J:=h.nd
   simp only [zF,nO] at J
   simp only [mE]
   refine ⟨?_,⟨I.fl,h.fl.2⟩,λb hb=>?_,λb hb=>?_⟩
   ·simp only [zF,nO]
    refine ⟨I.nd,J.2.1,λu U v hv O=>?_⟩
    have:=I.lo u U
    have:=h.hi v (by simp only [zF,oK];exact .inr hv)
    omega
   ·simp only [zF,oK] at hb
    rcases hb with hb | hb
    ·have:=I.lo b hb;omega
    ·exact h.lo b (by simp only [zF,oK];exact .inr hb)
   ·simp only [zF,oK] at hb
    rcases hb with hb | hb
    ·exact I.hi b hb
    ·have:=h.hi b (by simp only [zF,oK];exact .inr hb);omega
 | a :: l,j+1,h=>by
   have J:=h.nd
   simp only [zF,nO] at J
   have hl:OwnL N N1 l:=⟨J.2.1,h.fl.2,λb hb=>h.lo b (by simp only [zF,oK];exact .inr hb),λb hb=>h.hi b (by simp only [zF,oK];exact .inr hb)⟩
   have Y:=zMM I h1 h2 h3 (l:=l) (j:=j) hl
   simp only [mQ]
   refine ⟨?_,⟨h.fl.1,Y.fl⟩,λb hb=>?_,λb hb=>?_⟩
   ·simp only [zF,nO]
    refine ⟨J.1,Y.nd,λu U v hv O=>?_⟩
    rcases zJh hv with hv | hv
    ·exact J.2.2 u U v hv O
    ·have:=I.lo v hv
     have:=h.hi u (by simp only [zF,oK];exact .inl U)
     omega
   ·simp only [zF,oK] at hb
    rcases hb with hb | hb
    ·exact h.lo b (by simp only [zF,oK];exact .inl hb)
    ·exact Y.lo b hb
   ·simp only [zF,oK] at hb
    rcases hb with hb | hb
    ·have:=h.hi b (by simp only [zF,oK];exact .inl hb);omega
    ·exact Y.hi b hb
/-- behind four cells -/
theorem rj {N N1 N2 N3:Nat} {x I J O U:D} {es:List D} {j:Nat} (h:OwnL N N1 ([I,J,O,U]++es)) (Y:Own N2 N3 x) (h1:N<=N2) (h2:N1<=N2) (h3:N2<=N3):OwnL N N3 ([I,J,O,U]++es.set j x):=
 zMM Y h1 h2 h3 (l:=[I,J,O,U]++es) (j:=j+4) h
theorem zBQ:∀ {u v:List D},xf (u++v)->xf u/\xf v
 | [],v,h=>⟨trivial,h⟩
 | x::u,v,h=>⟨⟨h.1,(zBQ h.2).1⟩,(zBQ h.2).2⟩
theorem zP0 {N0 N1 N3:Nat} {hd es ds:List D} {a:Option Addr} {z c:Nat} (h:OwnL N0 N1 (hd++es)) (J:Fresh N0 N3 a (.ag es::(hd++ds))) (hN:N1<=N3):OwnL N0 N3 (hd++[.sl a z es c]):=by
 obtain ⟨Y,aa⟩:=zBQ h.fl
 have U:=h.nd
 rw [zG,nO] at U
 have e:zF (hd++[D.sl a z es c])=zF hd++(D.sl a z es c).foot:=by simp only [zG,zF,nD]
 have hE:∀ ad,a=some ad->ad.block∉zF es:=λad h=>J.ap ad h (.ag es) (by simp)
 have hH:∀ ad,a=some ad->ad.block∉zF hd:=λad h hc=>by
  obtain ⟨d,ab,hb⟩:=zK.1 hc
  exact J.ap ad h d (by simp [ab]) hb
 refine ⟨?_,yW Y ⟨⟨λad h=>J.off ad h,aa⟩,trivial⟩,λb hb=>?_,λb hb=>?_⟩
 ·rw [e,nO]
  refine ⟨U.1,zLb U.2.1 hE,λx hx y hy ac=>?_⟩
  subst ac
  rcases uT x hy with I | ⟨ad,I,O⟩
  ·exact U.2.2 x hx x I rfl
  ·subst O;exact hH ad I hx
 ·rw [e] at hb
  rcases oK.1 hb with hb | hb
  ·exact h.lo b (by rw [zG];exact oe _ hb)
  ·rcases uT b hb with I | ⟨ad,I,O⟩
   ·exact h.lo b (by rw [zG];exact nL _ I)
   ·subst O;exact J.lo ad I
 ·rw [e] at hb
  rcases oK.1 hb with hb | hb
  ·have:=h.hi b (by rw [zG];exact oe _ hb);omega
  ·rcases uT b hb with I | ⟨ad,I,O⟩
   ·have:=h.hi b (by rw [zG];exact nL _ I);omega
   ·subst O;exact J.hi ad I
theorem vn {N N1 N2:Nat} {v0 v1 v2 v3:Value} {I J O U:D} {es:List D} {a:Option Addr} {c:Nat} (h:OwnL N N1 ([I,J,O,U]++es)) (Y:Fresh N N2 a [.ag es,I,J,O,U]) (hN:N1<=N2):Own N N2 (.ag [.lit v0,.lit v1,.lit v2,.lit v3,I,J,O,U,.sl a 9 es c]):=
 zGk (xI (xI (xI (xI (zP0 (hd:=[I,J,O,U]) (ds:=[]) h Y hN)))))
theorem t6 {α:Type} {R:α->D->Prop}:∀ {l:List α} {es:List D} {t:α} {d:D} {j:Nat},All2 R l es->R t d->All2 R (l.set j t) (es.set j d)
 | [],es,t,d,j,h,_=>by cases h;exact rfl
 | x::l,es,t,d,0,h,I=>by
   obtain ⟨y,ys,rfl,O,J⟩:=h
   exact ⟨_,_,rfl,I,J⟩
 | x::l,es,t,d,j+1,h,I=>by
   obtain ⟨y,ys,rfl,O,J⟩:=h
   exact ⟨_,_,rfl,O,t6 J I⟩
theorem zOx {α:Type} {T l:List α} {i:Nat} {t:α} (O:T.length=l.length) (hi:i<l.length) (I:T[i]?=some t):(T.take i++l.drop i).set i t=T.take (i+1)++l.drop (i+1):=by
 have J:(T.take i).length=i:=by rw [nF];omega
 rw [m7 _ _ (by omega),J,Nat.sub_self,mX hi,mE,wS I,nY]
 rfl
theorem zLp {α:Type} {T l:List α} {i:Nat} {t:α} (hi:i<l.length) (I:l[i]?=some t) (J:T[i]?=some t):T.take i++l.drop i=T.take (i+1)++l.drop (i+1):=by
 rw [mX hi,wS J,nY]
 rw [oG hi] at I
 rw [oT I]
 rfl
theorem yP {l:List Tm} {es:List D} (h:All2 Tm.Is l es) {j:Nat} (I:j<l.length):(l.getD j tm0).Is (es.getD j default):=by
 have:=h.get (zX I)
 exact this
def zR4 (f:FuncId) (args:List PV) (t:Tm):Prop:=∀ (N:Nat) (Q:QT [.ag 9]),(∀ d N',N<=N'->t.Is d->Own N N' d->Q d N')->ACalls prog f [.ag 9] args N Q
/-- puts b for x, at terms of some depth -/
def zSq (F:FuncId) (f:Nat):Prop:=∀ (e:Tm) (d:D) (x:ByteArray) (b:Tm) (I:D),e.Is d->b.Is I->e.dp<=f->e.Z->b.Z->zR4 F [.dg 9 d,.str x,.dg 9 I] (e.sub f x b)
theorem zNf {s:ByteArray} (hs:s.size<=4611686018427387904):(pP s).Is (.ag [.lit (.int .i64 1),.lit (.string s),.lit (.string (bytes [])),.lit (.int .i64 0),.lit (.int .i64 0),.sl none 2 [] 0,.lit (.int .i64 0),.sl none 2 [] 0,.sl none 9 [] 0]):=
 Tm.is_mk.2 ⟨_,_,_,_,_,_,_,rfl,⟨hs,by decide,Ty.is_mk.2 ⟨_,_,_,rfl,by simp,rfl⟩,Ty.is_mk.2 ⟨_,_,_,rfl,by simp,rfl⟩⟩,by simp,rfl⟩
theorem zGf {l:List ByteArray} (h:l.length<=8796093022208):(fresh l).size<=4611686018427387904:=by
 obtain ⟨k,e,_,I,_,_⟩:=ti l
 rw [e]
 have:=zNA k (by omega)
 omega
theorem zPV {f:Nat} (hS:zSq 105 f) {k n0:Int} {nm ot:ByteArray} {ty re:Ty} {l:List Tm} {d:D} (hd:(Tm.mk k nm ot n0 ty re l).Is d) (hG:(Tm.mk k nm ot n0 ty re l).G) {n j:Nat} (hn:l.length=n) (am:yL k n=(j:Int))
  {p:Tm} (hp:l.getD j tm0=p) (ao:p.dp<=f) (hc:p.Z) (old x:ByteArray) (fb:List ByteArray) (bp:fb.length<=2199023255552) (a:Option Addr) (c:Nat) {I:ByteArray} (Y:fresh (fb++(p.fv++([x]++bdN k nm ot n)))=I) (N:Nat)
  (Q:QT [.pk,.int .i64,.str,.str,.int .i64,.dc,.dc,.dc,.dc,.row 29 9]) (hQ:tH (.mk k (if nm=old then I else nm) (if nm=old then ot else I) n0 ty re (l.set j (p.sub f old (pP I)))) N Q) :
  ACalls prog 149 [.pk,.int .i64,.str,.str,.int .i64,.dc,.dc,.dc,.dc,.row 29 9] [.dg 9 d,.int .i64 (j:Int),.str old,.sv a 0 (zA fb) c,.str x] N Q:=by
 subst hn
 obtain ⟨t0,t1,r0,r1,a8,es,c8,rfl,hh,bc,aj⟩:=Tm.is_mk.1 hd
 have hl:=aj.len
 obtain ⟨g1,_⟩:=wR (k:=k) (n:=l.length) (by omega)
 rw [am,oH] at g1
 have ah:=yP aj g1
 rw [hp] at ah
 have bq:=Tm.fv_len p
 have aq:=hc.c
 have bt:=ri k nm ot l.length
 have ai:(fb++(p.fv++([x]++bdN k nm ot l.length))).length<=8796093022208:=by simp only [oI,oN,oQ];omega
 have aa:zKY [fb,p.fv,[x],bdN k nm ot l.length]=fb++(p.fv++([x]++bdN k nm ot l.length)):=by simp [zKY]
 have O:I.size<=4611686018427387904:=Y ▸ zGf ai
 refine zFm N _ _ old a _ c x Q λ_ _ N1 bv=>zLF (n:=l.length) (by omega) N1 _ λa1 c1 N2 bw _ _ _=>⟨_,_,_,rfl,⟨by omega,by omega⟩,λN3 bz=>?_⟩
 rw [oH]
 refine uN p _ ah aq N3 _ λc2 N4 b0 _ _=>⟨⟨rfl,rfl⟩,λa2 N5 b1 _=>⟨⟨rfl,rfl⟩,λa3 N6 b2 _=>⟨⟨rfl,rfl⟩,λa4 _ N7 b3 ak=>?_⟩⟩⟩
 have au:All2 IsW [fb,p.fv,[x],bdN k nm ot l.length] [.sl a 0 (zA fb) c,.sl a2 0 (zA p.fv) c2,.sl a3 0 [.lit (.string x)] 1,.sl a1 0 (zA (bdN k nm ot l.length)) c1]:=
  ⟨_,_,rfl,⟨_,_,rfl⟩,_,_,rfl,⟨_,_,rfl⟩,_,_,rfl,⟨_,_,rfl⟩,_,_,rfl,⟨_,_,rfl⟩,rfl⟩
 refine zL0 au (by simp) (by rw [aa];exact ai) a4 4 N7 _ λa5 c5 N8 b4 aw _=>⟨vH ak aw,λ_ N9 b5=>?_⟩
 rw [aa]
 refine zC5 _ ai a5 c5 N9 _ λb6 bd _ ax bg=>?_
 rw [Y]
 refine rt _ _ hd hG ax _ ?_
 simp only [tH] at hQ ⊢
 intro x4 x5 x6 x7 al c' b7 bh J ab ay _ _
 have b8:=ab.len
 refine ⟨_,_,_,rfl,⟨by omega,by omega⟩,λaz bi=>zKT az I _ λb9 bj _ _ a6 bm=>?_⟩
 refine hS p _ old (pP I) _ ah (zNf O) ao hc (zRX _) a6 _ λdx a7 bn hx ba _ _=>⟨⟨by omega,by omega,by omega⟩,by omega,_,rfl,?_⟩
 have ac:All2 Tm.Is (l.set j (p.sub f old (pP I))) (al.set (0+j) dx):=by rw [ol];exact t6 ab hx
 have ae:OwnL N a7 ([x4,x5,x6,x7]++al.set (0+j) dx):=rj (ay.mono (by omega) (oD _)) ba (by omega) (by omega) (by omega)
 refine Br.str (λh=>⟨⟨by simp,trivial⟩,λbb U=>?_⟩) λh=>⟨⟨by simp,trivial⟩,λbb U=>?_⟩
 ·rw [if_pos h,if_pos h] at hQ
  exact hQ _ _ _ _ _ _ _ (by omega) ⟨O,J.ot,J.ty,J.re⟩ ac (ae.mono (oD _) U)
 ·rw [if_neg h,if_neg h] at hQ
  exact hQ _ _ _ _ _ _ _ (by omega) ⟨J.nm,O,J.ty,J.re⟩ ac (ae.mono (oD _) U)
/-- a node's parts, each put through; the node anew -/
theorem zPZ {f:Nat} (hS:zSq 105 f) {k n0:Int} {nm ot:ByteArray} {ty re:Ty} {l:List Tm} {d:D} (hd:(Tm.mk k nm ot n0 ty re l).Is d) (hc:(Tm.mk k nm ot n0 ty re l).Z) (hp:∀ y∈l,y.dp<=f)
  (x:ByteArray) {b:Tm} {O:D} (hb:b.Is O) (ah:b.Z) (ad J:Addr) (N:Nat) (Q:QT [.pk,.int .i64,.str,.str,.int .i64,.dc,.dc,.dc,.dc,.row 29 9])
  (hQ:tH (.mk k nm ot n0 ty re (l.map λt=>t.sub f x b)) N Q) :
  ACalls prog 61 [.pk,.int .i64,.str,.str,.int .i64,.dc,.dc,.dc,.dc,.row 29 9] [.dg 9 d,.fn 146 [.pd ad 0 (.lit (.string x)),.pd J 9 O]] N Q:=by
 obtain ⟨t0,t1,r0,r1,a,es,c,rfl,hh,U,Y⟩:=Tm.is_mk.1 hd
 have hl:=Y.len
 obtain ⟨q1,q2,q3,_⟩:=hc.g
 simp only [tH] at hQ
 refine s6 N _ ad _ J _ Q λ_=>⟨_,_,_,rfl,?_⟩
 refine up Y U (λi xs=>∀ (done:List D) (q N':Nat),N<=N'->All2 Tm.Is ((l.map λt=>t.sub f x b).take i) done->done.length=i->OwnL N N' done ->
  ya Q N ad (.lit (.string x)) J O done.length q a es c es.length i (.ag [.lit (.int .i64 k),.lit (.string nm),.lit (.string ot),.lit (.int .i64 n0),t0,t1,r0,r1,.sl a 9 es c]) 0 (bytes []) (bytes []) 0 0 none [] 0 0 none [] 0 none [] 0 done q N') ?_ ?_ [] 0 N (oD _) rfl rfl zHT
 ·intro i ai hi done q N' aj hd aa ho
  refine vS _ _ _ _ _ _ _ _ _ _ _ _ _ _ _ _ _ _ _ _ _ _ _ _ _ _ _ _ _ _ _ _ ?_
  rw [om (by simp;omega)] at hd
  rw [ai]
  refine ⟨⟨rfl,rfl⟩,λa1 a6 _ N4 ak ab=>?_⟩
  refine zKg hh q1 q2 a1 done q N4 _ λx4 x5 x6 x7 N5 al am ac _=>⟨rfl,?_⟩
  have off:∀ y∈[x4,x5,x6,x7],Off [a1] y:=λy hy a' ao ad aq hc=>by
   have h1:=ab a' ao ad aq
   have h2:=ac.lo _ (zK.2 ⟨y,hy,hc⟩)
   omega
  refine ⟨off x4 (by simp),off x5 (by simp),off x6 (by simp),off x7 (by simp),⟨rfl,rfl⟩,λN6 au=>?_⟩
  exact hQ _ _ _ _ _ _ _ (by omega) am hd (zB8 (N1:=N4) (ac.mono (oD _) (by omega)) (ho.mono (oD _) ak) (by omega) (by omega))
 ·intro i y xs I _ aw done q N' aj hd aa ho
  have a7:=I.b
  have ax:=hp y I.m
  have ay:=hc.mem y I.m
  have ae:(l.map λt=>t.sub f x b)[i]?=some (y.sub f x b):=by rw [oE,I.g];rfl
  refine vS _ _ _ _ _ _ _ _ _ _ _ _ _ _ _ _ _ _ _ _ _ _ _ _ _ _ _ _ _ _ _ _ ?_
  rw [I.lt,oH,I.w]
  refine ⟨⟨by omega,by omega⟩,λN5 al=>qC N5 _ ad _ J O _ λ_=>⟨_,rfl,λN6 au=>hS y _ x b O I.r hb ax ay ah N6 _ λdx N7 a8 hx az _ _ N8 ba _ _=>⟨⟨rfl,rfl⟩,by unfold zB;rw [oI];simp only [oN,oQ];omega,λc3=>?_⟩⟩⟩
  refine aw _ _ _ (by omega) (by rw [wS ae];exact hd.snoc hx) (by simp [aa]) ?_
  exact (wH ho (xb (az.mono (by omega) (oD _))) (N1:=N') (by omega) (by omega)).mono (oD _) (by omega)
theorem zGR:∀ f,zSq 105 f
 | 0=>λe d x b db _ _ bj=>absurd (Tm.dp_pos e) (by omega)
 | f + 1 => λe d x b db he hb bj hc ak N Q U=>by
   have ih:=zGR f
   have hG:=hc.g
   have bm:=ak.g
   have cw:=ak.c
   cases e with
   | mk k nm ot n0 ty re l=>
   have cx:=hc
   simp only [Tm.dp] at bj
   have hp:∀ y∈l,y.dp<=f:=λy hy=>vp.1 (mA bj) y hy
   have b6:=hc.mem
   obtain ⟨t0,t1,r0,r1,a,es,c,rfl,hh,b7,bn⟩:=Tm.is_mk.1 he
   have hl:=bn.len
   have dk:=hG.2.2.1
   simp only [Tm.sub] at U
   refine zCZ N _ x db Q λ_ _=>⟨_,rfl,Br.beq (λh1=>⟨_,rfl,Br.str (λh2 N1 a7=>?_) λh2 N1 a7=>?_⟩) λh1 N1 a7=>zLF (n:=l.length) (by omega) N1 _ λa1 c1 N2 b8 _ _ _=>Br.dec (λal=>?_) λb9 N3 am=>?_⟩
   ·rw [if_pos h1,if_pos h2] at U
    refine rt b db hb bm N1 _ ?_
    cases b with
    | mk k2 dl dm n2 dn dq l2=>
    simp only [tH]
    intro x4 x5 x6 x7 ao c' N2 b8 Y J aa _ _
    have aq:=J.len
    have dr:=bm.2.2.1
    exact ⟨⟨trivial,trivial⟩,⟨trivial,trivial⟩,λa2 N3 am hf N4 au=>U _ _ (by omega) (Tm.is_mk.2 ⟨_,_,_,_,_,_,_,rfl,Y,by omega,J⟩) ((vn (aa.mono a7 (oD _)) hf am).mono (oD _) au)⟩
   ·rw [if_pos h1,if_neg h2] at U
    refine rt _ _ he hG N1 _ ?_
    simp only [tH]
    intro x4 x5 x6 x7 ao c' N2 b8 Y J aa _ _
    have aq:=J.len
    exact ⟨⟨trivial,trivial⟩,⟨trivial,trivial⟩,λa2 N3 am hf N4 au=>U _ _ (by omega) (Tm.is_mk.2 ⟨_,_,_,_,_,_,_,rfl,Y,by omega,J⟩) ((vn (aa.mono a7 (oD _)) hf am).mono (oD _) au)⟩
   ·rw [if_neg h1,if_pos al] at U
    refine λad _ _ bp _ _ N3 am ac=>zPZ ih he cx hp x hb ak ad bp N3 _ ?_
    simp only [tH]
    intro x4 x5 x6 x7 ao c' N4 au Y J aa _
    have aq:=J.len
    simp only [o9] at aq
    have off:∀ y∈[x4,x5,x6,x7],Off [some ad,some bp] y:=λy hy a' ah ab ai hc=>by
     have h1:=ac a' ah ab ai
     have h2:=aa.lo _ (zK.2 ⟨y,oe _ hy,hc⟩)
     omega
    have aw:Off [some ad,some bp] (.ag ao):=λa' ah ab ai hc=>by
     have h1:=ac a' ah ab ai
     have h2:=aa.lo ab.block (by rw [zG];exact nL _ (by simpa only [D.foot] using hc))
     omega
    refine ⟨off x4 (by simp),off x5 (by simp),off x6 (by simp),off x7 (by simp),aw,λ_=>⟨⟨trivial,trivial⟩,⟨trivial,trivial⟩,λa2 N5 ax hf N6 ay=>U _ _ (by omega) (Tm.is_mk.2 ⟨_,_,_,_,_,_,_,rfl,Y,by omega,J⟩) ((vn (aa.mono (by omega) (oD _)) hf ax).mono (oD _) ay)⟩⟩
   ·rw [if_neg h1,if_neg b9] at U
    refine rt _ _ he hG N3 _ ?_
    simp only [tH]
    intro x4 x5 x6 x7 ao c' N4 au Y J aa _ _
    have aq:=J.len
    obtain ⟨g1,g2⟩:=wR b9
    have dt:=ri k nm ot l.length
    obtain ⟨j,ca⟩:∃ j:Nat,yL k l.length=(j:Int):=⟨_,g2.symm⟩
    rw [ca] at g1 U ⊢
    rw [oH] at g1 U
    generalize cc:l.getD j tm0=p at U
    have bq:l[j]?=some p:=cc ▸ zX g1
    have du:=hp p (oC bq)
    have a8:=b6 p (oC bq)
    have cd:=a8.c
    have ce:=yP bn g1
    rw [cc] at ce
    generalize hg:(λt:Tm=>t.sub f x b)=g at U
    have cy:∀ y∈l,(g y).G:=λy hy=>by rw [<-hg];exact zPn f y x b (yH hG.2.2.2 hy) bm
    have dv:=zH (bdN k nm ot l.length)
    refine ⟨_,_,_,rfl,?_⟩
    have fin:∀ (ba bb:ByteArray) (y4 y5 y6 y7:D) (L:List Tm) (r:List D) (q N':Nat),N<=N'->L.length=l.length->Tm.Hd ba bb ty re y4 y5 y6 y7->All2 Tm.Is L r->OwnL N N' ([y4,y5,y6,y7]++r) ->
      (∀ d' N'',N<=N''->(Tm.mk k ba bb n0 ty re L).Is d'->Own N N'' d'->Q d' N'')->∀ a2 N5,N'<=N5->Fresh N N5 a2 [.ag r,y4,y5,y6,y7]->∀ N6,N5<=N6->Q (.ag [.lit (.int .i64 k),.lit (.string ba),.lit (.string bb),.lit (.int .i64 n0),y4,y5,y6,y7,.sl a2 9 r q]) N6:=
     λba bb y4 y5 y6 y7 L r q N' aj hL hH hA hO hq a2 N5 ax hf N6 ay=>by
      have ae:=hA.len
      exact hq _ _ (by omega) (Tm.is_mk.2 ⟨_,_,_,_,_,_,_,rfl,hH,by omega,hA⟩) ((vn hO hf ax).mono (oD _) ay)
    refine up bn b7 (λi xs=>∀ (r:List D) (q N':Nat),N<=N'->All2 Tm.Is (((l.map g).set j p).take i++l.drop i) r->r.length=l.length->OwnL N N' ([x4,x5,x6,x7]++r) ->
     yO Q N a1 (zA (bdN k nm ot l.length)) c1 (j:Int) a es c es.length i (.ag [.lit (.int .i64 k),.lit (.string nm),.lit (.string ot),.lit (.int .i64 n0),t0,t1,r0,r1,.sl a 9 es c]) x db 0 (bytes []) (bytes []) 0 0 none [] 0 0 none [] 0 none [] 0 k nm ot n0 x4 x5 x6 x7 r.length q r q N') ?_ ?_ ao c' N4 (by omega) (by simpa using J) aq (aa.mono (by omega) (oD _))
    ·intro i al hi r q N' aj hA ae hO
     rw [om (by simp;omega),nz (by omega),nD] at hA
     refine uF _ _ _ _ _ _ _ _ _ _ _ _ _ _ _ _ _ _ _ _ _ _ _ _ _ _ _ _ _ _ _ _ _ _ _ _ _ _ _ _ _ _ ?_
     rw [al]
     refine λN5 ax=>ye _ (by omega) a1 c1 x N5 _ λN6 ay _=>?_
     rw [zBm]
     refine Br.dec (λhx=>⟨⟨rfl,rfl⟩,⟨rfl,rfl⟩,⟨rfl,rfl⟩,λa2 N7 cz hf N8 cf=>?_⟩) λhx=>⟨_,_,_,rfl,⟨by omega,by omega⟩,λN7 cz=>?_⟩
     ·rw [if_pos (.inl hx)] at U
      exact fin _ _ _ _ _ _ _ _ _ N' aj (by simp) Y hA hO U a2 N7 (by omega) hf N8 cf
     ·rw [oH]
      have dw:=Tm.fv_len p
      refine uN p _ ce cd N7 _ λc8 N8 cf _ _=>⟨⟨rfl,rfl⟩,λa9 _ N9 dz _=>ye _ (by omega) a9 c8 x N9 _ λd5 dh _=>?_⟩
      rw [zBm]
      refine Br.ndec (λbt=>⟨⟨rfl,rfl⟩,⟨rfl,rfl⟩,⟨rfl,rfl⟩,λa2 bv cg hf bw bd=>?_⟩) λbt bv cg=>?_
      ·rw [if_pos (.inr bt)] at U
       exact fin _ _ _ _ _ _ _ _ _ N' aj (by simp) Y hA hO U a2 bv (by omega) hf bw bd
      ·rw [if_neg (by rintro (h | h);exact hx h;exact h bt)] at U
       have di:=Tm.fv_len b
       refine uN b _ hb cw bv _ λbc bw bd _ _=>?_
       have d6:=zH b.fv
       generalize hT:rns (Tm.sub f) k l.length b.fv x (bdN k nm ot l.length) (nm,ot,p)=T at U
       refine up (yz (bdN k nm ot l.length)) (by omega) (λi xs=>∀ (s:ByteArray × ByteArray × Tm) (y4 y5 y6 y7:D) (r:List D) (q N':Nat),N<=N'->Tm.Hd s.1 s.2.1 ty re y4 y5 y6 y7->All2 Tm.Is ((l.map g).set j s.2.2) r->r.length=l.length->OwnL N N' ([y4,y5,y6,y7]++r)->LeT s.2.2 p->rns (Tm.sub f) k l.length b.fv x xs s=T ->
        yR Q N (j:Int) (zA b.fv).length bc a1 (zA (bdN k nm ot l.length)) c1 ((zA (bdN k nm ot l.length)).length:Int) i x db 0 (bytes []) (bytes []) 0 0 none [] 0 0 none [] 0 none [] 0 k s.1 s.2.1 n0 y4 y5 y6 y7 r.length q (zA b.fv) bc r q N') ?_ ?_ (nm,ot,p) x4 x5 x6 x7 r q bw (by omega) Y hA ae (hO.mono (oD _) (by omega)) LeT.rfl hT
       ·intro i al hi s y4 y5 y6 y7 r q N' aj hH hA ae hO O hs
        simp only [rns] at hs
        subst hs
        refine uc _ _ _ _ _ _ _ _ _ _ _ _ _ _ _ _ _ _ _ _ _ _ _ _ _ _ _ _ _ _ _ _ _ _ _ _ _ _ _ _ _ _ ?_
        rw [al]
        refine ⟨⟨by omega,by omega,by omega⟩,by omega,λbz ch=>?_⟩
        have bg:=yP hA (j:=j) (by simpa using g1)
        have b0:((l.map g).set j s.2.2).getD j tm0=s.2.2:=by rw [oA,nA (by simpa using g1)];rfl
        rw [b0] at bg
        have cj:=O.c
        have ck:=O.d
        rw [oH,ol]
        refine ih s.2.2 _ x b db bg hb (by omega) (O.z a8) ak bz _ λdx b1 cm hx b2 _ _=>?_
        have cn:All2 Tm.Is ((l.map g).set j (s.2.2.sub f x b)) (r.set j dx):=by have:=t6 (j:=j) hA hx;rwa [List.set_set] at this
        have co:OwnL N b1 ([y4,y5,y6,y7]++r.set j dx):=rj hO b2 (by omega) (by omega) (by omega)
        exact ⟨⟨by omega,by omega,by omega⟩,by omega,⟨by simp,rfl⟩,⟨by simp,rfl⟩,⟨by simp,rfl⟩,⟨by simp,rfl⟩,⟨by simp,rfl⟩,λa2 cp bh hf b3 bi=>fin _ _ _ _ _ _ _ _ _ b1 (by omega) (by simp) hH cn co U a2 cp bh hf b3 bi⟩
       ·intro i old xs I _ az s y4 y5 y6 y7 r q N' aj hH hA ae hO O hs
        have c2:=I.b
        have hr:=I.r
        simp only [rns] at hs
        refine uc _ _ _ _ _ _ _ _ _ _ _ _ _ _ _ _ _ _ _ _ _ _ _ _ _ _ _ _ _ _ _ _ _ _ _ _ _ _ _ _ _ _ ?_
        rw [I.lt,oH,I.w,hr]
        refine ⟨⟨by omega,by omega⟩,old,rfl,⟨rfl,rfl⟩,λc3 _ bz ch _=>ye _ (by omega) c3 bc old bz _ λb1 cm _=>?_⟩
        rw [zBm]
        refine Br.dec (λho=>⟨⟨rfl,rfl⟩,⟨rfl,rfl⟩,λc4 cp bh _=>⟨⟨rfl,rfl⟩,λb4 _ b3 bi ac=>?_⟩⟩) λho=>?_
        ·have cj:=O.c
         have ck:=O.d
         have c5:(Tm.mk k s.1 s.2.1 n0 ty re ((l.map g).set j s.2.2)).Is (.ag [.lit (.int .i64 k),.lit (.string s.1),.lit (.string s.2.1),.lit (.int .i64 n0),y4,y5,y6,y7,.sl c4 9 r q]):=Tm.is_mk.2 ⟨_,_,_,_,_,_,_,rfl,hH,by omega,hA⟩
         have b0:((l.map g).set j s.2.2).getD j tm0=s.2.2:=by rw [oA,nA (by simpa using g1)];rfl
         have c6:(Tm.mk k s.1 s.2.1 n0 ty re ((l.map g).set j s.2.2)).G:=⟨hG.1,hG.2.1,by simpa using hG.2.2.1,zBf λy hy=>by
          rcases nG hy with hy | rfl
          ·obtain ⟨z,hz,rfl⟩:=oR.1 hy
           exact cy z hz
          ·exact O.g a8.g⟩
         refine zPV ih c5 c6 (n:=l.length) (by simp) ca b0 (by omega) (O.z a8) old x b.fv (by omega) b4 bc rfl b3 _ ?_
         simp only [tH]
         intro z4 z5 z6 z7 c7 c9 d7 dj da a6 b5 _
         have off:∀ y∈[z4,z5,z6,z7],Off [b4] y:=λy hy a' ah ab ai hc=>by
          have h1:=ac a' ah ab ai
          have h2:=b5.lo _ (zK.2 ⟨y,oe _ hy,hc⟩)
          omega
         have aw:Off [b4] (.ag c7):=λa' ah ab ai hc=>by
          have h1:=ac a' ah ab ai
          have h2:=b5.lo ab.block (by rw [zG];exact nL _ (by simpa only [D.foot] using hc))
          omega
         rw [List.set_set] at a6
         have cq:=a6.len
         simp only [nU,o9] at cq
         refine ⟨off z4 (by simp),off z5 (by simp),off z6 (by simp),off z7 (by simp),aw,λ_=>?_⟩
         have e1:rn1 (Tm.sub f) k l.length b.fv x old s=(if s.1=old then fresh (b.fv++(s.2.2.fv++([x]++bdN k s.1 s.2.1 l.length))) else s.1,if s.1=old then s.2.1 else fresh (b.fv++(s.2.2.fv++([x]++bdN k s.1 s.2.1 l.length))),s.2.2.sub f old (pP (fresh (b.fv++(s.2.2.fv++([x]++bdN k s.1 s.2.1 l.length)))))):=by
          unfold rn1
          rw [if_pos ho]
          split<;>rfl
         rw [e1] at hs
         exact az _ _ _ _ _ _ _ _ (by omega) da a6 cq (b5.mono (by omega) (oD _)) ((xg f _ _ _).trans O) hs
        ·have e1:rn1 (Tm.sub f) k l.length b.fv x old s=s:=by unfold rn1;rw [if_neg ho]
         rw [e1] at hs
         exact az _ _ _ _ _ _ _ _ (by omega) hH hA ae (hO.mono (oD _) (by omega)) O hs
    ·intro i y xs I _ az r q N' aj hA ae hO
     have c2:=I.b
     have de:=hp y I.m
     have df:=b6 y I.m
     have cr:i<l.length:=(oB.1 I.g).1
     refine uF _ _ _ _ _ _ _ _ _ _ _ _ _ _ _ _ _ _ _ _ _ _ _ _ _ _ _ _ _ _ _ _ _ _ _ _ _ _ _ _ _ _ ?_
     rw [I.lt,oH,I.w]
     refine ⟨⟨by omega,by omega⟩,Br.bne (λd8 N5 ax=>ih y _ x b db I.r hb de df ak N5 _ λdx N6 ay hx b2 _ _=>⟨⟨by omega,by omega,by omega⟩,by omega,?_⟩) λheq=>?_⟩
     ·have hT:((l.map g).set j p)[i]?=some (y.sub f x b):=by
       rw [ow (by omega),oE,I.g,<-hg];rfl
      rw [ol]
      have h2:=t6 (j:=i) hA hx
      rw [zOx (by simp) cr hT] at h2
      have h3:=az (r.set i dx) q N6 (by omega) h2 (by simpa using ae) (rj hO b2 (by omega) (by omega) (by omega))
      simpa using h3
     ·have ct:i=j:=by omega
      have hyp:y=p:=by
       have:=I.g
       rw [ct,bq] at this
       exact (oT this).symm
      have hT:((l.map g).set j p)[i]?=some y:=by rw [ct,hyp,nA (by simpa using g1)]
      rw [zLp cr I.g hT] at hA
      exact az r q N' aj hA ae hO
theorem zMa (s:ByteArray) (l:List ByteArray):decide (zCD (λx=>decide (x=s)) l 0≥0)=decide (s∈l):=by
 have h:=zDu s l
 rw [mJ,mF,mF] at h ⊢
 constructor
 ·intro J;exact mH.1 λI=>by have:=h.2 I;omega
 ·intro J;exact Int.not_lt.1 λI=>h.1 I J
/-- what a node binds, away from some names -/
theorem zOi {f:Nat} (hS:zSq 122 f) {k n0:Int} {nm ot:ByteArray} {ty re:Ty} {l:List Tm} {d:D} (hd:(Tm.mk k nm ot n0 ty re l).Is d) (hG:(Tm.mk k nm ot n0 ty re l).G) {j:Nat} (bd:yL k l.length=(j:Int))
  {p:Tm} (hp:l.getD j tm0=p) (cq:p.dp<=f) (hc:p.Z) (x:ByteArray) (fb:List ByteArray) (cr:fb.length<=2199023255552) (a:Option Addr) (c:Nat) (N:Nat) {T:ByteArray × ByteArray × Tm} (hT:rns (Tm.sub f) k l.length fb x (bdN k nm ot l.length) (nm,ot,p)=T)
  (Q:QT [.pk,.int .i64,.str,.str,.int .i64,.dc,.dc,.dc,.dc,.row 29 9]) (hQ:tH (.mk k T.1 T.2.1 n0 ty re (l.set j T.2.2)) N Q) :
  ACalls prog 156 [.pk,.int .i64,.str,.str,.int .i64,.dc,.dc,.dc,.dc,.row 29 9] [.dg 9 d,.int .i64 (j:Int),.str x,.sv a 0 (zA fb) c] N Q:=by
 obtain ⟨t0,t1,r0,r1,a8,es,c8,rfl,hh,ca,bg⟩:=Tm.is_mk.1 hd
 have hl:=bg.len
 obtain ⟨g1,_⟩:=wR (k:=k) (n:=l.length) (by omega)
 rw [bd,oH] at g1
 have ct:=ri k nm ot l.length
 have cw:=zH (bdN k nm ot l.length)
 have cx:=hG.2.2.1
 refine zFG N _ _ x a _ c Q λ_ _ N1 bh=>qA _ _ hd hG N1 _ ?_
 simp only [tH] at hQ ⊢
 intro x4 x5 x6 x7 bi c' N2 cy bj ai bm _ _ N3 cz
 refine zAl (n:=l.length) (by omega) N3 _ λa1 c1 N4 c2 _ _ _=>?_
 have c3:=ai.len
 have al:l.set j p=l:=by
  apply nB
  intro i
  rw [nK]
  split
  ·rename_i hi
   subst hi
   rw [zX g1,hp]
  ·rfl
 refine up (yz (bdN k nm ot l.length)) (by omega) (λi xs=>∀ (s:ByteArray × ByteArray × Tm) (y4 y5 y6 y7:D) (r:List D) (q N':Nat),N<=N'->Tm.Hd s.1 s.2.1 ty re y4 y5 y6 y7->All2 Tm.Is (l.set j s.2.2) r->OwnL N N' ([y4,y5,y6,y7]++r)->LeT s.2.2 p->rns (Tm.sub f) k l.length fb x xs s=T ->
  (i=0->s=(nm,ot,p))->(0<i->∀ o∈xs,o∈fb->s.1≠o) ->
  yU Q N j x a (zA fb) c a1 (zA (bdN k nm ot l.length)) c1 i 0 (bytes []) (bytes []) 0 0 none [] 0 0 none [] 0 none [] 0 k s.1 s.2.1 n0 y4 y5 y6 y7 r.length q r q N') ?_ ?_ (nm,ot,p) x4 x5 x6 x7 bi c' N4 (by omega) bj (by rw [al];exact ai) (bm.mono bh (by omega)) LeT.rfl hT (λ_=>rfl) (λh=>absurd h (by omega))
 ·intro i bn hi s y4 y5 y6 y7 r q N' bp hH hA hO U hs _ _
  simp only [rns] at hs
  subst hs
  refine sg _ _ _ _ _ _ _ _ _ _ _ _ _ _ _ _ _ _ _ _ _ _ _ _ _ _ _ _ _ _ _ _ _ _ _ _ _ _ _ ?_
  rw [bn]
  exact ⟨⟨rfl,rfl⟩,λN5 aq=>hQ _ _ _ _ _ _ _ (by omega) hH hA (hO.mono (oD _) aq)⟩
 ·intro i old xs I au am s y4 y5 y6 y7 r q N' bp hH hA hO U hs h0 h1
  have c4:=I.b
  have hr:=I.r
  have bq:=hA.len
  simp only [nU] at bq
  simp only [rns] at hs
  refine sg _ _ _ _ _ _ _ _ _ _ _ _ _ _ _ _ _ _ _ _ _ _ _ _ _ _ _ _ _ _ _ _ _ _ _ _ _ _ _ ?_
  rw [I.lt,oH,I.w,hr]
  refine ⟨⟨by omega,by omega⟩,old,rfl,λN5 aq=>xC fb (by omega) a c old N5 _ λN6 c5 _=>?_⟩
  show Br (decide (zCD (λx=>decide (x=old)) fb 0<0)) _ _
  rw [zDu]
  have hold:i=0->s.1=old:=λhi=>by
   subst hi
   have h2:=I.g
   rw [h0 rfl]
   unfold bdN at h2
   (repeat' split at h2)<;>simp at h2<;>exact h2
  have aw:0<i->old∈fb->s.1≠old:=λhi Y=>h1 hi old (by simp) Y
  have aa:∀ s':ByteArray × ByteArray × Tm,rn1 (Tm.sub f) k l.length fb x old s=s'->0<i+1->∀ o∈xs,o∈fb->s'.1≠o:=λs' bt _ o Y bv=>by
   have ax:i=0:=by
    have h3:=oO.1 Y
    obtain ⟨m,hm⟩:=h3
    rw [<-au,nJ] at hm
    have:=(oB.1 hm).1
    omega
   have bw:=h0 ax
   subst ax
   have bz:o∈bdN k nm ot l.length:=by rw [<-au] at Y;exact oi Y
   have ab:=hold rfl
   subst bt
   unfold rn1
   by_cases ac:old∈fb
   ·have b0:=tg (fb++(s.2.2.fv++([x]++bdN k s.1 s.2.1 l.length)))
    rw [if_pos ac,if_pos ab]
    intro hc
    refine b0 ?_
    simp only at hc
    rw [hc,bw]
    simp [bz]
   ·rw [if_neg ac]
    intro hc
    exact ac (by rw [<-ab,hc];exact bv)
  refine Br.dec (λY=>?_) λY=>?_
  ·have e1:rn1 (Tm.sub f) k l.length fb x old s=s:=by unfold rn1;rw [if_neg Y]
   have J:=aa s e1
   rw [e1] at hs
   exact am _ _ _ _ _ _ _ _ (by omega) hH hA (hO.mono (oD _) (by omega)) U hs (λh=>absurd h (by omega)) J
  ·have Y:old∈fb:=mH.1 Y
   have ae:=yP hA (j:=j) (by simpa using g1)
   have b1:(l.set j s.2.2).getD j tm0=s.2.2:=by rw [oA,nA (by simpa using g1)];rfl
   rw [b1] at ae
   have ay:=U.z hc
   have da:=ay.c
   have db:=Tm.fv_len s.2.2
   have de:=zEz fb s.2.2.fv
   have cc:=ri k s.1 s.2.1 l.length
   have cd:=zH (bdN k s.1 s.2.1 l.length)
   have ce:=U.d
   refine ⟨⟨rfl,rfl⟩,λa5 _ N7 df az=>zAl (n:=l.length) (by omega) N7 _ λa6 c6 N8 dh b2 _=>⟨vH az b2,λ_=>⟨⟨by omega,by omega,by omega⟩,by omega,λN9 di=>?_⟩⟩⟩
   rw [oH,ol]
   refine wY s.2.2 _ ae (by omega) N9 _ λa7 c7 dj cf _ _ _ b3 cg=>?_
   refine tS fb s.2.2.fv (by omega) (by omega) a a7 c c7 b3 _ λc8 dk ch _ _=>?_
   rw [vI,zGh]
   have ba:(rQ fb s.2.2.fv++[x]++bdN k s.1 s.2.1 l.length).length<=8796093022208:=by simp only [oI,oN,oQ];omega
   have bb:fresh (rQ fb s.2.2.fv++[x]++bdN k s.1 s.2.1 l.length)=fresh (fb++(s.2.2.fv++([x]++bdN k s.1 s.2.1 l.length))):=zP1 λy=>by simp [zI7,or_assoc]
   refine ⟨⟨rfl,rfl⟩,pX (by omega),λc9=>⟨⟨rfl,rfl⟩,by unfold zB;rw [oI,zH,zH,oI,oN,oQ];omega,λb4=>⟨⟨rfl,rfl⟩,λb5 _ b6 cj _=>?_⟩⟩⟩
   refine zCm _ ba b5 b4 b6 _ λdl ck _=>⟨⟨by omega,by omega,by omega⟩,by omega,⟨by omega,by omega⟩,old,rfl,λb7 cm=>?_⟩
   have ah:=zGf ba
   rw [bb] at ah ⊢
   have e1:rn1 (Tm.sub f) k l.length fb x old s=(if s.1=old then fresh (fb++(s.2.2.fv++([x]++bdN k s.1 s.2.1 l.length))) else s.1,if s.1=old then s.2.1 else fresh (fb++(s.2.2.fv++([x]++bdN k s.1 s.2.1 l.length))),s.2.2.sub f old (pP (fresh (fb++(s.2.2.fv++([x]++bdN k s.1 s.2.1 l.length)))))):=by
    unfold rn1
    rw [if_pos Y]
    split<;>rfl
   have J:=aa _ e1
   rw [e1] at hs
   generalize fresh (fb++(s.2.2.fv++([x]++bdN k s.1 s.2.1 l.length)))=O at ah hs J ⊢
   refine zCE b7 O _ λdm cn _ _ b8 co=>?_
   refine hS s.2.2 _ old (pP O) _ ae (zNf ah) (by omega) ay (zRX _) b8 _ λdx ao cp hx b9 _ _=>⟨⟨by omega,by omega,by omega⟩,by omega,?_⟩
   have aj:All2 Tm.Is (l.set j (s.2.2.sub f old (pP O))) (r.set j dx):=by have:=t6 (j:=j) hA hx;rwa [List.set_set] at this
   have ak:OwnL N ao ([y4,y5,y6,y7]++r.set j dx):=rj hO b9 (by omega) (by omega) (by omega)
   have bc:(r.set j dx).length=r.length:=nU
   refine Br.beq (λhi=>?_) λhi=>?_
   ·have hi:i=0:=by omega
    rw [if_pos (hold hi),if_pos (hold hi)] at hs J
    have:=am (O,s.2.1,s.2.2.sub f old (pP O)) y4 y5 y6 y7 (r.set j dx) q ao (by omega) ⟨ah,hH.ot,hH.ty,hH.re⟩ aj ak ((xg f _ _ _).trans U) hs (λh=>absurd h (by omega)) J
    rwa [bc] at this
   ·have hi:0<i:=by omega
    rw [if_neg (aw hi Y),if_neg (aw hi Y)] at hs J
    have:=am (s.1,O,s.2.2.sub f old (pP O)) y4 y5 y6 y7 (r.set j dx) q ao (by omega) ⟨hH.nm,ah,hH.ty,hH.re⟩ aj ak ((xg f _ _ _).trans U) hs (λh=>absurd h (by omega)) J
    rwa [bc] at this
/-- the parts, each put through, but for one -/
theorem zAU {f:Nat} (hS:zSq 122 f) {k n0:Int} {nm ot:ByteArray} {ty re:Ty} {L Lf:List Tm} {x:ByteArray} {b:Tm} {db:D} (hb:b.Is db) (aj:b.Z) (hL:∀ y∈L,y.dp<=f/\y.Z) (ax:L.length<=1073741824) {at_:Int} {hid:Bool}
  (ak:Lf.length=L.length) (hf:∀ (i:Nat) (y:Tm),L[i]?=some y->Lf[i]?=some (if hid=true/\(i:Int)=at_ then y else y.sub f x b)) {y4 y5 y6 y7:D} (hH:Tm.Hd nm ot ty re y4 y5 y6 y7) {r:List D} (hA:All2 Tm.Is L r) (q N N':Nat) (O:N<=N') (hO:OwnL N N' ([y4,y5,y6,y7]++r))
  (Q:QT [.ag 9]) (hQ:∀ d' N'',N<=N''->(Tm.mk k nm ot n0 ty re Lf).Is d'->Own N N'' d'->Q d' N'') :
  zC Q N x at_ hid 0 db 0 (bytes []) (bytes []) 0 0 none [] 0 0 none [] 0 none [] 0 k nm ot n0 y4 y5 y6 y7 r.length q r q N':=by
 have ay:=hA.len
 refine up hA (by omega) (λi xs=>∀ (r':List D) (q N':Nat),N<=N'->All2 Tm.Is (Lf.take i++L.drop i) r'->r'.length=r.length->OwnL N N' ([y4,y5,y6,y7]++r') ->
  zC Q N x at_ hid i db 0 (bytes []) (bytes []) 0 0 none [] 0 0 none [] 0 none [] 0 k nm ot n0 y4 y5 y6 y7 r.length q r' q N') ?_ ?_ r q N' O (by simpa using hA) rfl hO
 ·intro i al hi r' q N' O J aa U
  rw [om (by omega),nz (by omega),nD] at J
  refine uw _ _ _ _ _ _ _ _ _ _ _ _ _ _ _ _ _ _ _ _ _ _ _ _ _ _ _ _ _ _ _ _ _ _ _ ?_
  rw [al]
  exact ⟨⟨by omega,rfl⟩,⟨by omega,rfl⟩,⟨by omega,rfl⟩,⟨by omega,rfl⟩,λa2 N5 ab hf N6 ac=>hQ _ _ (by omega) (Tm.is_mk.2 ⟨_,_,_,_,_,_,_,rfl,hH,by omega,J⟩) ((vn U hf ab).mono (oD _) ac)⟩
 ·intro i y xs I _ ae r' q N' O J aa U
  have az:=I.b
  obtain ⟨am,ao⟩:=hL y I.m
  have ah:i<L.length:=(oB.1 I.g).1
  have Y:=hf i y I.g
  have aq:y.Is (r'.getD i default):=by
   refine J.get ?_
   rw [oP (by rw [nF];omega),nF,show i - min i Lf.length=0 by omega,nJ]
   exact I.g
  have put:(if hid=true/\(i:Int)=at_ then y else y.sub f x b)=y.sub f x b->∀ N5,N'<=N5->ACalls prog 122 [.ag 9] [.dg 9 (List.getD r' i default),.str x,.dg 9 db] N5 (λai N6=>N5<=N6->Bel N6 ai->((0:Int)<=(i:Int)/\(i:Int)<(r.length:Int)/\i<r'.length)/\i<r'.length /\
    zC Q N x at_ hid ((i+1:Nat):Int) db 0 (bytes []) (bytes []) 0 0 none [] 0 0 none [] 0 none [] 0 k nm ot n0 y4 y5 y6 y7 r.length q (List.set r' i ai) q N6):=λe N5 ab=>
   hS y _ x b db aq hb am ao aj N5 _ λdx N6 ac hx au _ _=>⟨⟨by omega,by omega,by omega⟩,by omega,by
    rw [e] at Y
    have h2:=t6 (j:=i) J hx
    rw [zOx ak ah Y] at h2
    exact ae (r'.set i dx) q N6 (by omega) h2 (by simpa using aa) (rj U au (by omega) (by omega) (by omega))⟩
  refine uw _ _ _ _ _ _ _ _ _ _ _ _ _ _ _ _ _ _ _ _ _ _ _ _ _ _ _ _ _ _ _ _ _ _ _ ?_
  rw [I.lt,oH,I.w,ol]
  refine Br.bne (λaw=>⟨⟨by omega,by omega,by omega⟩,by omega,put (if_neg λh=>aw h.2)⟩) λheq=>?_
  refine Br.not (λhh=>⟨⟨by omega,by omega,by omega⟩,by omega,put (if_neg λh=>by rw [hh] at h;exact absurd h.1 (by decide))⟩) λhh=>?_
  rw [if_pos ⟨hh,heq⟩] at Y
  rw [zLp ah I.g Y] at J
  exact ae r' q N' O J aa U
theorem zMR {g:Tm->Tm} {l:List Tm} {i:Nat} {y:Tm} (h:l[i]?=some y):(l.map g)[i]?=some (g y):=by rw [oE,h];rfl
theorem zGF:∀ f,zSq 122 f
 | 0=>λe d x b db _ _ ae=>absurd (Tm.dp_pos e) (by omega)
 | f + 1=>λe d x b db he hb ae hc U N Q J=>by
   have ih:=zGF f
   have hG:=hc.g
   have aq:=U.g
   have bg:=U.c
   cases e with
   | mk k nm ot n0 ty re l=>
   simp only [Tm.dp] at ae
   have hp:∀ y∈l,y.dp<=f/\y.Z:=λy O=>⟨vp.1 (mA ae) y O,hc.mem y O⟩
   obtain ⟨t0,t1,r0,r1,a,es,c,rfl,hh,bz,au⟩:=Tm.is_mk.1 he
   have hl:=au.len
   have ab:=hG.2.2.1
   have b6:=ri k nm ot l.length
   have b7:=zH (bdN k nm ot l.length)
   refine zCw N _ x db Q λ_ _=>⟨_,rfl,?_⟩
   have aw:¬(k=1/\nm=x)->(Tm.mk k nm ot n0 ty re l).sub (f+1) x b=if yL k l.length<0 then .mk k nm ot n0 ty re (l.map λt=>Tm.sub f t x b)
     else if x∈bdN k nm ot l.length\/x∉(l.getD (yL k l.length).toNat tm0).fv then
      .mk k nm ot n0 ty re ((l.map λt=>Tm.sub f t x b).set (yL k l.length).toNat (l.getD (yL k l.length).toNat tm0))
     else
      .mk k (rns (Tm.sub f) k l.length b.fv x (bdN k nm ot l.length) (nm,ot,l.getD (yL k l.length).toNat tm0)).1
       (rns (Tm.sub f) k l.length b.fv x (bdN k nm ot l.length) (nm,ot,l.getD (yL k l.length).toNat tm0)).2.1 n0 ty re
       ((l.map λt=>Tm.sub f t x b).set (yL k l.length).toNat (Tm.sub f (rns (Tm.sub f) k l.length b.fv x (bdN k nm ot l.length) (nm,ot,l.getD (yL k l.length).toNat tm0)).2.2 x b)):=λhn=>by
    simp only [Tm.sub]
    by_cases hk:k=1
    ·rw [if_pos hk,if_neg (λh=>hn ⟨hk,h⟩)]
     have:l=[]:=hc.v.1 hk
     subst this
     subst hk
     rw [if_pos (by decide)]
     rfl
    ·rw [if_neg hk]
   refine Br.beq (λh1=>⟨_,rfl,Br.str (λh2 N1 ah=>?_) λh2=>?_⟩) λh1=>?_
   ·simp only [Tm.sub] at J
    rw [if_pos h1,if_pos h2] at J
    refine qA b db hb aq N1 _ ?_
    cases b with
    | mk k2 b8 b9 n2 ca cc l2=>
    simp only [tH]
    intro x4 x5 x6 x7 ax c' N2 bh aa I ai _ _
    have bi:=I.len
    have cd:=aq.2.2.1
    exact ⟨⟨trivial,trivial⟩,⟨trivial,trivial⟩,λa2 N3 ay hf N4 az=>J _ _ (by omega) (Tm.is_mk.2 ⟨_,_,_,_,_,_,_,rfl,aa,by omega,I⟩) ((vn (ai.mono ah (oD _)) hf ay).mono (oD _) az)⟩
   all_goals
    rw [aw (λh=>by first | exact h2 h.2 | exact h1 h.1)] at J
    intro N1 ah
    refine qA _ _ he hG N1 _ ?_
    simp only [tH]
    intro x4 x5 x6 x7 ax c' N2 bh aa I ai _ _ N3 ay
    have bi:=I.len
    refine zAl (n:=l.length) (by omega) N3 _ λa1 c1 N4 az _ _ _ N5 ce=>?_
    refine xC _ (by omega) a1 c1 x N5 _ λN6 cf _=>?_
    rw [zMa]
    have aj:OwnL N N6 ([x4,x5,x6,x7]++ax):=ai.mono ah (by omega)
    refine Br.dec (λcg=>?_) λch=>?_
    ·rw [if_neg (by omega)] at J
     obtain ⟨g1,g2⟩:=wR (k:=k) (n:=l.length) (by omega)
     obtain ⟨j,a6⟩:∃ j:Nat,yL k l.length=(j:Int):=⟨_,g2.symm⟩
     rw [a6] at g1 J ⊢
     rw [oH] at g1 J ⊢
     generalize ak:l.getD j tm0=p at J
     have al:l[j]?=some p:=ak ▸ zX g1
     obtain ⟨a7,am⟩:=hp p (oC al)
     have ba:=am.c
     have bb:=yP au g1
     rw [ak] at bb
     refine Br.ndec (λhx=>⟨_,_,_,rfl,⟨by omega,by omega⟩,λN7 cj=>?_⟩) λhx=>?_
     ·have ck:=Tm.fv_len p
      refine wY p _ bb ba N7 _ λa8 c8 N8 cm _ _ _ N9 cn=>xC _ (by omega) a8 c8 x N9 _ λbj b0 _=>?_
      rw [zMa]
      rw [mZ hx]
      refine Br.dec (λac bm b1=>?_) λac=>?_
      ·rw [if_neg (by rintro (h | h);exact hx h;exact h ac)] at J
       have b2:=Tm.fv_len b
       refine wY b _ hb bg bm _ λbn bp co b3 _ _ _ bq b4=>?_
       generalize hT:rns (Tm.sub f) k l.length b.fv x (bdN k nm ot l.length) (nm,ot,p)=T at J
       have ao:=sL (xg f) k l.length b.fv x (bdN k nm ot l.length) (nm,ot,p)
       rw [hT] at ao
       have bc:=ao.d
       refine zOi ih he hG a6 ak a7 am x b.fv (by omega) bn bp bq hT _ ?_
       simp only [tH]
       intro z4 z5 z6 z7 cp c9 bt b5 bv bd bw _ _
       refine zAU ih hb U (L:=l.set j T.2.2) (Lf:=(l.map λt=>t.sub f x b).set j (T.2.2.sub f x b)) (λy O=>?_) (by simpa using ab) (by simp) (λi y O=>?_) bv bd c9 N bt (by omega) (bw.mono (by omega) (oD _)) Q J
       ·rcases nG O with O | rfl
        ·exact hp y O
        ·exact ⟨oS bc a7,ao.z am⟩
       ·rw [if_neg (λh=>by simp at h)]
        rw [<-List.map_set]
        exact zMR O
      ·rw [if_pos (.inr ac)] at J
       refine zAU ih hb U hp ab (by simp) (λi y O=>?_) aa I c' N bj (by omega) (aj.mono (oD _) (by omega)) Q J
       rw [if_neg (λh=>by simp at h)]
       by_cases Y:j=i
       ·subst Y
        have:y=p:=oT (O.symm.trans al)
        rw [nA (by simpa using g1),this,zQ9 f p x b ac]
       ·rw [ow Y];exact zMR O
     ·rw [if_pos (.inl hx)] at J
      rw [mT hx]
      refine zAU ih hb U hp ab (by simp) (λi y O=>?_) aa I c' N N6 (by omega) aj Q J
      by_cases Y:j=i
      ·subst Y
       have:y=p:=oT (O.symm.trans al)
       rw [if_pos ⟨rfl,rfl⟩,nA (by simpa using g1),this]
      ·rw [if_neg (λh=>Y (by omega)),ow Y];exact zMR O
    ·rw [if_pos (by omega)] at J
     refine zAU ih hb U hp ab (by simp) (λi y O=>?_) aa I c' N N6 (by omega) aj Q J
     rw [if_neg (λh=>by have:=h.2;omega)]
     exact zMR O
end Go.Proofs.YtfajiphkncipoaaGreatDoor
