/- Substitution: how deep, how great (no program in sight). -/
import Derived.Test.YtfajiphkncipoaaGreatDoorA7
import Derived.Test.YtfajiphkncipoaaGreatDoorA8
import Derived.Test.YtfajiphkncipoaaGreatDoorKf
set_option linter.unusedVariables false
set_option linter.unusedSimpArgs false
namespace Go.Proofs.YtfajiphkncipoaaGreatDoor
open Go Go.Proofs Go.Proofs.Tryz Go.IntWalk
mutual
/-- variables have no parts -/
def Tm.V:Tm->Prop
 | .mk k _ _ _ _ _ l=>(k=1->l=[])/\zQs l
def zQs:List Tm->Prop
 | []=>True
 | t::I=>t.V/\zQs I
end
theorem tN:∀ {l:List Tm},zQs l↔∀ x∈l,x.V
 | []=>by simp [zQs]
 | t::I=>by simp only [zQs,tN (l:=I),oI,ml]
theorem zPG {l:List Tm}:zKi l↔∀ x∈l,x.G:=⟨λh _ I=>za h I,pR⟩
theorem ww:∀ {l:List Tm} {n:Nat},vD l<=n↔∀ x∈l,x.dp<=n
 | [],n=>by simp [vD]
 | t::I,n=>by simp only [vD,Nat.max_le,ww (l:=I),oI,ml]
theorem Tm.dp_pos (t:Tm):1<=t.dp:=by cases t;simp only [Tm.dp];omega
/-- no greater, no deeper -/
structure LeT (t' t:Tm):Prop where
 c:t'.vc<=t.vc
 d:t'.dp<=t.dp
 v:t.V->t'.V
 g:t.G->t'.G
 s:t'.sz<=t.sz
 n:t'.cnt<=t.cnt
theorem LeT.rfl {t:Tm}:LeT t t:=⟨oB _,oB _,id,id,oB _,oB _⟩
theorem LeT.trans {a b c:Tm} (h:LeT a b) (I:LeT b c):LeT a c:=⟨oR h.c I.c,oR h.d I.d,λJ=>h.v (I.v J),λJ=>h.g (I.g J),oR h.s I.s,oR h.n I.n⟩
theorem zLZ:∀ {l' l:List Tm},l'.length=l.length->(∀ (i:Nat) (t' t:Tm),l'[i]?=some t'->l[i]?=some t->LeT t' t)->vI l'<=vI l/\vD l'<=vD l/\(zQs l->zQs l')/\(zKi l->zKi l')/\zF l'<=zF l/\zN l'<=zN l
 | [],[],_,_=>⟨oB _,oB _,id,id,oB _,oB _⟩
 | [],_::_,h,_=>by simp at h
 | _::_,[],h,_=>by simp at h
 | t'::O,t::Y,h,U=>by
   obtain ⟨h1,h2,h3,h4,h5,h6⟩:=zLZ (l':=O) (l:=Y) (by simpa using h) λi a b ha hb=>U (i+1) a b (by simpa using ha) (by simpa using hb)
   have I:=U 0 t' t (by simp) (by simp)
   have:=I.c
   have:=I.d
   have:=I.s
   have:=I.n
   refine ⟨by simp only [vI];omega,by simp only [vD];omega,λJ=>⟨I.v J.1,h3 J.2⟩,λJ=>⟨I.g J.1,h4 J.2⟩,by simp only [zF];omega,by simp only [zN];omega⟩
theorem zH7 {l:List Tm} {g:Tm->Tm} {j:Nat} {v t' t:Tm} {i:Nat} (h:((l.map g).set j v)[i]?=some t') (J:l[i]?=some t):(i=j/\t'=v)\/(i≠j/\t'=g t):=by
 rw [nN] at h
 split at h
 ·rename_i I
  split at h
  ·exact .inl ⟨I.symm,(oS h).symm⟩
  ·cases h
 ·rename_i I
  rw [oE,J] at h
  exact .inr ⟨λhc=>I hc.symm,(oS h).symm⟩
theorem zNq {k:Int} {nm ot J O:ByteArray} {n:Int} {ty re:Ty} {l l':List Tm} (U:k≠1) (h:l'.length=l.length) (Y:∀ (i:Nat) (t' t:Tm),l'[i]?=some t'->l[i]?=some t->LeT t' t):LeT (.mk k J O n ty re l') (.mk k nm ot n ty re l):=by
 obtain ⟨h1,h2,h3,h4,h5,h6⟩:=zLZ h Y
 exact ⟨by simp only [Tm.vc,if_neg U];omega,by simp only [Tm.dp];omega,λI=>⟨λhc=>absurd hc U,h3 I.2⟩,λI=>⟨I.1,I.2.1,h ▸ I.2.2.1,h4 I.2.2.2⟩,by simp only [Tm.sz];omega,by simp only [Tm.cnt];omega⟩
theorem zKA {S:Tm->ByteArray->Tm->Tm} (I:∀ t x y,LeT (S t x (zBx y)) t) (k:Int) (n:Nat) (fb:List ByteArray) (x old:ByteArray) (s:ByteArray × ByteArray × Tm):LeT (rn1 S k n fb x old s).2.2 s.2.2:=by
 unfold rn1
 split
 ·split
  ·exact I _ _ _
  ·exact I _ _ _
 ·exact LeT.rfl
theorem sL {S:Tm->ByteArray->Tm->Tm} (I:∀ t x y,LeT (S t x (zBx y)) t) (k:Int) (n:Nat) (fb:List ByteArray) (x:ByteArray):∀ (l:List ByteArray) (s:ByteArray × ByteArray × Tm),LeT (rns S k n fb x l s).2.2 s.2.2
 | [],s=>LeT.rfl
 | old::l,s=>(sL I k n fb x l _).trans (zKA I k n fb x old s)
/-- a name put for a name -/
theorem vL:∀ (f:Nat) (t:Tm) (x y:ByteArray),LeT (t.sub f x (zBx y)) t
 | 0,t,x,y=>by simp only [Tm.sub];exact LeT.rfl
 | f + 1,.mk k nm ot n ty re l,x,y=>by
   have U:=vL f
   simp only [Tm.sub]
   split
   ·rename_i Y
    split
    ·exact ⟨by simp only [zBx,Tm.vc,if_pos Y,mm];exact oB _,by simp only [zBx,Tm.dp,vD];omega,λ_=>⟨λ_=>rfl,trivial⟩,λ_=>by simp [zBx,Tm.G,zKi,Ty.cnt,zm],by simp only [zBx,Tm.sz,zF];omega,by have:=Ty.cnt_pos ty;have:=Ty.cnt_pos re;simp only [zBx,Tm.cnt,zN,Ty.cnt,zm];omega⟩
    ·exact LeT.rfl
   ·rename_i Y
    split
    ·refine zNq Y (by simp) λi t' t I J=>?_
     rw [oE,J] at I
     cases I
     exact U t x y
    ·rename_i hb
     obtain ⟨g1,g2⟩:=wV hb
     split
     ·refine zNq Y (by simp) λi t' t I J=>?_
      rcases zH7 I J with ⟨h1,O⟩ | ⟨h1,O⟩
      ·rw [h1,zY g1] at J
       rw [O,<-oS J]
       exact LeT.rfl
      ·rw [O];exact U t x y
     ·refine zNq Y (by simp) λi t' t I J=>?_
      rcases zH7 I J with ⟨h1,O⟩ | ⟨h1,O⟩
      ·rw [h1,zY g1] at J
       rw [O,<-oS J]
       exact (U _ x y).trans (sL U _ _ _ _ _ _)
      ·rw [O];exact U t x y
/-- what holds of each node of what is put in -/
theorem zPL:∀ (f:Nat) (t:Tm) (x:ByteArray) (b:Tm),t.G->b.G->(t.sub f x b).G
 | 0,t,x,b,h,_=>by simp only [Tm.sub];exact h
 | f + 1,.mk k nm ot n ty re l,x,b,h,U=>by
   have I:=zPL f
   obtain ⟨Y,h2,h3,h4⟩:=h
   have vG:∀ y,(zBx y).G:=λy=>by simp [zBx,Tm.G,zKi,Ty.cnt,zm]
   simp only [Tm.sub]
   split
   ·split
    ·exact U
    ·exact ⟨Y,h2,h3,h4⟩
   ·split
    ·refine ⟨Y,h2,by simpa using h3,pR λy J=>?_⟩
     obtain ⟨z,hz,rfl⟩:=oQ.1 J
     exact I z x b (za h4 hz) U
    ·rename_i aa
     obtain ⟨g1,g2⟩:=wV aa
     have O:=za h4 (oD (zY g1))
     have key:∀ v:Tm,v.G->zKi ((l.map λt=>Tm.sub f t x b).set (xB k l.length).toNat v):=λv hv=>pR λy J=>by
      rcases o6 J with J | rfl
      ·obtain ⟨z,hz,rfl⟩:=oQ.1 J
       exact I z x b (za h4 hz) U
      ·exact hv
     split
     ·exact ⟨Y,h2,by simpa using h3,key _ O⟩
     ·refine ⟨Y,h2,by simpa using h3,key _ (I _ x b ?_ U)⟩
      have r1:∀ (old:ByteArray) (s:ByteArray × ByteArray × Tm),s.2.2.G->(rn1 (Tm.sub f) k l.length b.fv x old s).2.2.G:=λold s hs=>by
       unfold rn1
       split
       ·split
        ·exact I _ _ _ hs (vG _)
        ·exact I _ _ _ hs (vG _)
       ·exact hs
      have rs:∀ (ns:List ByteArray) (s:ByteArray × ByteArray × Tm),s.2.2.G->(rns (Tm.sub f) k l.length b.fv x ns s).2.2.G:=by
       intro ns
       induction ns with
       | nil=>exact λs hs=>hs
       | cons o os ab=>exact λs hs=>ab _ (r1 o s hs)
      exact rs _ _ O
theorem zRE:∀ (f:Nat) (t:Tm) (x:ByteArray) (b:Tm),t.V->b.V->(t.sub f x b).V
 | 0,t,x,b,h,_=>by simp only [Tm.sub];exact h
 | f + 1,.mk k nm ot n ty re l,x,b,h,Y=>by
   have ih:=zRE f
   obtain ⟨h1,J⟩:=h
   have J:=tN.1 J
   simp only [Tm.sub]
   split
   ·split
    ·exact Y
    ·exact ⟨h1,tN.2 J⟩
   ·rename_i hk
    have I:∀ l':List Tm,k=1->l'=[]:=λ_ hc=>absurd hc hk
    split
    ·refine ⟨I _,tN.2 λy O=>?_⟩
     obtain ⟨z,hz,rfl⟩:=oQ.1 O
     exact ih z x b (J z hz) Y
    ·rename_i aa
     obtain ⟨g1,g2⟩:=wV aa
     have U:=J _ (oD (zY g1))
     have key:∀ v:Tm,v.V->zQs ((l.map λt=>Tm.sub f t x b).set (xB k l.length).toNat v):=λv hv=>tN.2 λy O=>by
      rcases o6 O with O | rfl
      ·obtain ⟨z,hz,rfl⟩:=oQ.1 O
       exact ih z x b (J z hz) Y
      ·exact hv
     split
     ·exact ⟨I _,key _ U⟩
     ·exact ⟨I _,key _ (ih _ x b ((sL (vL f) _ _ _ _ _ _).v U) Y)⟩
theorem zDe {g:Tm->Tm} {m:Nat}:∀ {l:List Tm},(∀ t∈l,(g t).vc<=t.vc*m)->vI (l.map g)<=vI l*m
 | [],_=>by simp [vI]
 | t::l,h=>by
   have J:=zDe (l:=l) λx I=>h x (by simp [I])
   have O:=h t (by simp)
   simp only [nD,vI,nG]
   omega
theorem zE1 {g:Tm->Tm} {m:Nat} {v:Tm}:∀ {l:List Tm} {j:Nat},(∀ t∈l,(g t).vc<=t.vc*m)->(∀ t,l[j]?=some t->v.vc<=t.vc*m)->vI ((l.map g).set j v)<=vI l*m
 | [],_,_,_=>by simp [vI]
 | t::l,0,h,J=>by
   have O:=zDe (l:=l) λx I=>h x (by simp [I])
   have U:=J t rfl
   simp only [nD,nz,vI,nG]
   omega
 | t::l,j+1,h,J=>by
   have O:=zE1 (l:=l) (j:=j) (v:=v) (λx I=>h x (by simp [I])) λx I=>J x (by simpa using I)
   have U:=h t (by simp)
   simp only [nD,mX,vI,nG]
   omega
/-- how many variables: each may become what is put in -/
theorem zQo:∀ (f:Nat) (t:Tm) (x:ByteArray) (b:Tm),(t.sub f x b).vc<=t.vc*(b.vc+1)
 | 0,t,x,b=>by simp only [Tm.sub];exact mB _ (by omega)
 | f + 1,.mk k nm ot n ty re l,x,b=>by
   have O:=zQo f
   simp only [Tm.sub]
   split
   ·rename_i I
    split
    ·simp only [Tm.vc,if_pos I];omega
    ·exact mB _ (by omega)
   ·rename_i I
    split
    ·simp only [Tm.vc,if_neg I]
     exact zDe λt _=>O t x b
    ·rename_i U
     obtain ⟨Y,g2⟩:=wV U
     split
     ·simp only [Tm.vc,if_neg I]
      refine zE1 (λt _=>O t x b) λt J=>?_
      rw [zY Y] at J
      rw [<-oS J]
      exact mB _ (by omega)
     ·simp only [Tm.vc,if_neg I]
      refine zE1 (λt _=>O t x b) λt J=>?_
      rw [zY Y] at J
      rw [<-oS J]
      exact oR (O _ x b) (oi _ (sL (vL f) _ _ _ _ _ _).c)
/-- not too great to be copied, its free names to be listed -/
structure Tm.Z (t:Tm):Prop where
 g:t.G
 c:t.vc<=2199023255552
 v:t.V
theorem Tm.Z.mem {k:Int} {nm ot:ByteArray} {n:Int} {ty re:Ty} {l:List Tm} (h:(Tm.mk k nm ot n ty re l).Z):∀ y∈l,y.Z:=λy I=>by
 have hc:=h.c
 have:=zBw I
 simp only [Tm.vc] at hc
 split at hc
 ·rename_i J
  rw [h.v.1 J] at I
  simp at I
 ·exact ⟨za h.g.2.2.2 I,by omega,tN.1 h.v.2 y I⟩
theorem LeT.z {t' t:Tm} (h:LeT t' t) (I:t.Z):t'.Z:=⟨h.g I.g,oR h.c I.c,h.v I.v⟩
theorem zQ3 (s:ByteArray):(zBx s).Z:=⟨by simp [zBx,Tm.G,zKi,Ty.cnt,zm],by simp only [zBx,Tm.vc,mm];omega,λ_=>rfl,trivial⟩
theorem zI4:∀ {l:List D} {j:Nat} {x:D} {b:Nat},b∈zH (l.set j x)->b∈zH l\/b∈x.foot
 | [],j,x,b,h=>by simp [zH] at h
 | a::l,0,x,b,h=>by
   simp only [nz,zH,oK] at h ⊢
   rcases h with h | h
   ·exact .inr h
   ·exact .inl (.inr h)
 | a::l,j+1,x,b,h=>by
   simp only [mX,zH,oK] at h ⊢
   rcases h with h | h
   ·exact .inl (.inl h)
   ·rcases zI4 h with h | h
    ·exact .inl (.inr h)
    ·exact .inr h
theorem zLk {N N1 N2 N3:Nat} {x:D} (I:Own N2 N3 x) (h1:N<=N2) (h2:N1<=N2) (h3:N2<=N3):∀ {l:List D} {j:Nat},OwnL N N1 l->OwnL N N3 (l.set j x)
 | [],j,h=>by simp only [List.set_nil];exact h.mono (oB _) (by omega)
 | a::l,0,h=>by
   have J:=h.nd
   simp only [zH,nS] at J
   simp only [nz]
   refine ⟨?_,⟨I.fl,h.fl.2⟩,λb hb=>?_,λb hb=>?_⟩
   ·simp only [zH,nS]
    refine ⟨I.nd,J.2.1,λu U v hv O=>?_⟩
    have:=I.lo u U
    have:=h.hi v (by simp only [zH,oK];exact .inr hv)
    omega
   ·simp only [zH,oK] at hb
    rcases hb with hb | hb
    ·have:=I.lo b hb;omega
    ·exact h.lo b (by simp only [zH,oK];exact .inr hb)
   ·simp only [zH,oK] at hb
    rcases hb with hb | hb
    ·exact I.hi b hb
    ·have:=h.hi b (by simp only [zH,oK];exact .inr hb);omega
 | a :: l,j+1,h=>by
   have J:=h.nd
   simp only [zH,nS] at J
   have hl:OwnL N N1 l:=⟨J.2.1,h.fl.2,λb hb=>h.lo b (by simp only [zH,oK];exact .inr hb),λb hb=>h.hi b (by simp only [zH,oK];exact .inr hb)⟩
   have Y:=zLk I h1 h2 h3 (l:=l) (j:=j) hl
   simp only [mX]
   refine ⟨?_,⟨h.fl.1,Y.fl⟩,λb hb=>?_,λb hb=>?_⟩
   ·simp only [zH,nS]
    refine ⟨J.1,Y.nd,λu U v hv O=>?_⟩
    rcases zI4 hv with hv | hv
    ·exact J.2.2 u U v hv O
    ·have:=I.lo v hv
     have:=h.hi u (by simp only [zH,oK];exact .inl U)
     omega
   ·simp only [zH,oK] at hb
    rcases hb with hb | hb
    ·exact h.lo b (by simp only [zH,oK];exact .inl hb)
    ·exact Y.lo b hb
   ·simp only [zH,oK] at hb
    rcases hb with hb | hb
    ·have:=h.hi b (by simp only [zH,oK];exact .inl hb);omega
    ·exact Y.hi b hb
/-- behind four cells -/
theorem rj {N N1 N2 N3:Nat} {x I J O U:D} {es:List D} {j:Nat} (h:OwnL N N1 ([I,J,O,U]++es)) (Y:Own N2 N3 x) (h1:N<=N2) (h2:N1<=N2) (h3:N2<=N3):OwnL N N3 ([I,J,O,U]++es.set j x):=
 zLk Y h1 h2 h3 (l:=[I,J,O,U]++es) (j:=j+4) h
theorem zBZ:∀ {u v:List D},xc (u++v)->xc u/\xc v
 | [],v,h=>⟨trivial,h⟩
 | x::u,v,h=>⟨⟨h.1,(zBZ h.2).1⟩,(zBZ h.2).2⟩
theorem zPZ {N0 N1 N3:Nat} {hd es ds:List D} {a:Option Addr} {z c:Nat} (h:OwnL N0 N1 (hd++es)) (J:Fresh N0 N3 a (.ag es::(hd++ds))) (hN:N1<=N3):OwnL N0 N3 (hd++[.sl a z es c]):=by
 obtain ⟨Y,aa⟩:=zBZ h.fl
 have U:=h.nd
 rw [zI,nS] at U
 have e:zH (hd++[D.sl a z es c])=zH hd++(D.sl a z es c).foot:=by simp only [zI,zH,o7]
 have hE:∀ ad,a=some ad->ad.block∉zH es:=λad h=>J.ap ad h (.ag es) (by simp)
 have hH:∀ ad,a=some ad->ad.block∉zH hd:=λad h hc=>by
  obtain ⟨d,ab,hb⟩:=zG.1 hc
  exact J.ap ad h d (by simp [ab]) hb
 refine ⟨?_,ya Y ⟨⟨λad h=>J.off ad h,aa⟩,trivial⟩,λb hb=>?_,λb hb=>?_⟩
 ·rw [e,nS]
  refine ⟨U.1,zKv U.2.1 hE,λx hx y hy ac=>?_⟩
  subst ac
  rcases ub x hy with I | ⟨ad,I,O⟩
  ·exact U.2.2 x hx x I rfl
  ·subst O;exact hH ad I hx
 ·rw [e] at hb
  rcases oK.1 hb with hb | hb
  ·exact h.lo b (by rw [zI];exact ol _ hb)
  ·rcases ub b hb with I | ⟨ad,I,O⟩
   ·exact h.lo b (by rw [zI];exact nJ _ I)
   ·subst O;exact J.lo ad I
 ·rw [e] at hb
  rcases oK.1 hb with hb | hb
  ·have:=h.hi b (by rw [zI];exact ol _ hb);omega
  ·rcases ub b hb with I | ⟨ad,I,O⟩
   ·have:=h.hi b (by rw [zI];exact nJ _ I);omega
   ·subst O;exact J.hi ad I
theorem vW {N N1 N2:Nat} {v0 v1 v2 v3:Value} {I J O U:D} {es:List D} {a:Option Addr} {c:Nat} (h:OwnL N N1 ([I,J,O,U]++es)) (Y:Fresh N N2 a [.ag es,I,J,O,U]) (hN:N1<=N2):Own N N2 (.ag [.lit v0,.lit v1,.lit v2,.lit v3,I,J,O,U,.sl a 9 es c]):=
 zEp (yG (yG (yG (yG (zPZ (hd:=[I,J,O,U]) (ds:=[]) h Y hN)))))
theorem xk {α:Type} {R:α->D->Prop}:∀ {l:List α} {es:List D} {t:α} {d:D} {j:Nat},All2 R l es->R t d->All2 R (l.set j t) (es.set j d)
 | [],es,t,d,j,h,_=>by cases h;exact rfl
 | x::l,es,t,d,0,h,I=>by
   obtain ⟨y,ys,rfl,O,J⟩:=h
   exact ⟨_,_,rfl,I,J⟩
 | x::l,es,t,d,j+1,h,I=>by
   obtain ⟨y,ys,rfl,O,J⟩:=h
   exact ⟨_,_,rfl,O,xk J I⟩
theorem zOM {α:Type} {T l:List α} {i:Nat} {t:α} (O:T.length=l.length) (hi:i<l.length) (I:T[i]?=some t):(T.take i++l.drop i).set i t=T.take (i+1)++l.drop (i+1):=by
 have J:(T.take i).length=i:=by rw [ou];omega
 rw [ma _ _ (by omega),J,Nat.sub_self,ni hi,nz,xN I,nO]
 rfl
theorem zK6 {α:Type} {T l:List α} {i:Nat} {t:α} (hi:i<l.length) (I:l[i]?=some t) (J:T[i]?=some t):T.take i++l.drop i=T.take (i+1)++l.drop (i+1):=by
 rw [ni hi,xN J,nO]
 rw [oG hi] at I
 rw [oS I]
 rfl
theorem zf {l:List Tm} {es:List D} (h:All2 Tm.Is l es) {j:Nat} (I:j<l.length):(l.getD j tm0).Is (es.getD j default):=by
 have:=h.get (zY I)
 exact this
def zRU (f:FuncId) (args:List PV) (t:Tm):Prop:=∀ (N:Nat) (Q:QT [.ag 9]),(∀ d N',N<=N'->t.Is d->Own N N' d->Q d N')->ACalls prog f [.ag 9] args N Q
/-- puts b for x, at terms of some depth -/
def zSE (F:FuncId) (f:Nat):Prop:=∀ (e:Tm) (d:D) (x:ByteArray) (b:Tm) (I:D),e.Is d->b.Is I->e.dp<=f->e.Z->b.Z->zRU F [.dg 9 d,.str x,.dg 9 I] (e.sub f x b)
theorem zM1 {s:ByteArray} (hs:s.size<=4611686018427387904):(zBx s).Is (.ag [.j 1,.t s,.t (bytes []),.j 0,.j 0,.sl none 2 [] 0,.j 0,.sl none 2 [] 0,.sl none 9 [] 0]):=
 Tm.is_mk.2 ⟨_,_,_,_,_,_,_,rfl,⟨hs,by decide,Ty.is_mk.2 ⟨_,_,_,rfl,by simp,rfl⟩,Ty.is_mk.2 ⟨_,_,_,rfl,by simp,rfl⟩⟩,by simp,rfl⟩
theorem zGY {l:List ByteArray} (h:l.length<=8796093022208):(fresh l).size<=4611686018427387904:=by
 obtain ⟨k,e,_,I,_,_⟩:=tq l
 rw [e]
 have:=zMU k (by omega)
 omega
theorem zO0 {f:Nat} (hS:zSE 105 f) {k n0:Int} {nm ot:ByteArray} {ty re:Ty} {l:List Tm} {d:D} (hd:(Tm.mk k nm ot n0 ty re l).Is d) (hG:(Tm.mk k nm ot n0 ty re l).G) {n j:Nat} (hn:l.length=n) (am:xB k n=(j:Int))
  {p:Tm} (hp:l.getD j tm0=p) (ao:p.dp<=f) (hc:p.Z) (old x:ByteArray) (fb:List ByteArray) (bp:fb.length<=2199023255552) (a:Option Addr) (c:Nat) {I:ByteArray} (Y:fresh (fb++(p.fv++([x]++bdN k nm ot n)))=I) (N:Nat)
  (Q:QT [.pk,.i,.str,.str,.i,.dc,.dc,.dc,.dc,.row 29 9]) (hQ:tQ (.mk k (if nm=old then I else nm) (if nm=old then ot else I) n0 ty re (l.set j (p.sub f old (zBx I)))) N Q) :
  ACalls prog 149 [.pk,.i,.str,.str,.i,.dc,.dc,.dc,.dc,.row 29 9] [.dg 9 d,.j (j:Int),.str old,.sv a 0 (zA fb) c,.str x] N Q:=by
 subst hn
 obtain ⟨t0,t1,r0,r1,a8,es,c8,rfl,hh,bc,aj⟩:=Tm.is_mk.1 hd
 have hl:=aj.len
 obtain ⟨g1,_⟩:=wV (k:=k) (n:=l.length) (by omega)
 rw [am,oF] at g1
 have ah:=zf aj g1
 rw [hp] at ah
 have bq:=Tm.fv_len p
 have aq:=hc.c
 have bt:=ri k nm ot l.length
 have ai:(fb++(p.fv++([x]++bdN k nm ot l.length))).length<=8796093022208:=by simp only [oH,oN,oZ];omega
 have aa:zJt [fb,p.fv,[x],bdN k nm ot l.length]=fb++(p.fv++([x]++bdN k nm ot l.length)):=by simp [zJt]
 have O:I.size<=4611686018427387904:=Y ▸ zGY ai
 refine zFh N _ _ old a _ c x Q λ_ _ N1 bv=>zKa (n:=l.length) (by omega) N1 _ λa1 c1 N2 bw _ _ _=>⟨_,_,_,rfl,⟨by omega,by omega⟩,λN3 bz=>?_⟩
 rw [oF]
 refine uW p _ ah aq N3 _ λc2 N4 b1 _ _=>⟨⟨rfl,rfl⟩,λa2 N5 b2 _=>⟨⟨rfl,rfl⟩,λa3 N6 b3 _=>⟨⟨rfl,rfl⟩,λa4 _ N7 b4 ak=>?_⟩⟩⟩
 have au:All2 IsW [fb,p.fv,[x],bdN k nm ot l.length] [.sl a 0 (zA fb) c,.sl a2 0 (zA p.fv) c2,.sl a3 0 [.t x] 1,.sl a1 0 (zA (bdN k nm ot l.length)) c1]:=
  ⟨_,_,rfl,⟨_,_,rfl⟩,_,_,rfl,⟨_,_,rfl⟩,_,_,rfl,⟨_,_,rfl⟩,_,_,rfl,⟨_,_,rfl⟩,rfl⟩
 refine zLK au (by simp) (by rw [aa];exact ai) a4 4 N7 _ λa5 c5 N8 b5 aw _=>⟨wQ ak aw,λ_ N9 b6=>?_⟩
 rw [aa]
 refine zDA _ ai a5 c5 N9 _ λb7 bd _ ax bg=>?_
 rw [Y]
 refine uh _ _ hd hG ax _ ?_
 simp only [tQ] at hQ ⊢
 intro x4 x5 x6 x7 al c' b8 bh J ab ay _ _
 have b9:=ab.len
 refine ⟨_,_,_,rfl,⟨by omega,by omega⟩,λaz bi=>zJp az I _ λca bj _ _ a6 bm=>?_⟩
 refine hS p _ old (zBx I) _ ah (zM1 O) ao hc (zQ3 _) a6 _ λdx a7 bn hx ba _ _=>⟨⟨by omega,by omega,by omega⟩,by omega,_,rfl,?_⟩
 have ac:All2 Tm.Is (l.set j (p.sub f old (zBx I))) (al.set (0+j) dx):=by rw [oe];exact xk ab hx
 have ae:OwnL N a7 ([x4,x5,x6,x7]++al.set (0+j) dx):=rj (ay.mono (by omega) (oB _)) ba (by omega) (by omega) (by omega)
 refine Br.str (λh=>⟨⟨by simp,trivial⟩,λbb U=>?_⟩) λh=>⟨⟨by simp,trivial⟩,λbb U=>?_⟩
 ·rw [if_pos h,if_pos h] at hQ
  exact hQ _ _ _ _ _ _ _ (by omega) ⟨O,J.ot,J.ty,J.re⟩ ac (ae.mono (oB _) U)
 ·rw [if_neg h,if_neg h] at hQ
  exact hQ _ _ _ _ _ _ _ (by omega) ⟨J.nm,O,J.ty,J.re⟩ ac (ae.mono (oB _) U)
/-- a node's parts, each put through; the node anew -/
theorem zO3 {f:Nat} (hS:zSE 105 f) {k n0:Int} {nm ot:ByteArray} {ty re:Ty} {l:List Tm} {d:D} (hd:(Tm.mk k nm ot n0 ty re l).Is d) (hc:(Tm.mk k nm ot n0 ty re l).Z) (hp:∀ y∈l,y.dp<=f)
  (x:ByteArray) {b:Tm} {O:D} (hb:b.Is O) (ah:b.Z) (ad J:Addr) (N:Nat) (Q:QT [.pk,.i,.str,.str,.i,.dc,.dc,.dc,.dc,.row 29 9])
  (hQ:tQ (.mk k nm ot n0 ty re (l.map λt=>t.sub f x b)) N Q) :
  ACalls prog 61 [.pk,.i,.str,.str,.i,.dc,.dc,.dc,.dc,.row 29 9] [.dg 9 d,.fn 146 [.pd ad 0 (.t x),.pd J 9 O]] N Q:=by
 obtain ⟨t0,t1,r0,r1,a,es,c,rfl,hh,U,Y⟩:=Tm.is_mk.1 hd
 have hl:=Y.len
 obtain ⟨q1,q2,q3,_⟩:=hc.g
 simp only [tQ] at hQ
 refine rC N _ ad _ J _ Q λ_=>⟨_,_,_,rfl,?_⟩
 refine up Y U (λi xs=>∀ (done:List D) (q N':Nat),N<=N'->All2 Tm.Is ((l.map λt=>t.sub f x b).take i) done->done.length=i->OwnL N N' done ->
  yc Q N ad (.t x) J O done.length q a es c es.length i (.ag [.j k,.t nm,.t ot,.j n0,t0,t1,r0,r1,.sl a 9 es c]) 0 (bytes []) (bytes []) 0 0 none [] 0 0 none [] 0 none [] 0 done q N') ?_ ?_ [] 0 N (oB _) rfl rfl zDM
 ·intro i ai hi done q N' aj hd aa ho
  refine vb _ _ _ _ _ _ _ _ _ _ _ _ _ _ _ _ _ _ _ _ _ _ _ _ _ _ _ _ _ _ _ _ ?_
  rw [od (by simp;omega)] at hd
  rw [ai]
  refine ⟨⟨rfl,rfl⟩,λa1 a6 _ N4 ak ab=>?_⟩
  refine zG2 hh q1 q2 a1 done q N4 _ λx4 x5 x6 x7 N5 al am ac _=>⟨rfl,?_⟩
  have off:∀ y∈[x4,x5,x6,x7],Off [a1] y:=λy hy a' ao ad aq hc=>by
   have h1:=ab a' ao ad aq
   have h2:=ac.lo _ (zG.2 ⟨y,hy,hc⟩)
   omega
  refine ⟨off x4 (by simp),off x5 (by simp),off x6 (by simp),off x7 (by simp),⟨rfl,rfl⟩,λN6 au=>?_⟩
  exact hQ _ _ _ _ _ _ _ (by omega) am hd (zCK (N1:=N4) (ac.mono (oB _) (by omega)) (ho.mono (oB _) ak) (by omega) (by omega))
 ·intro i y xs I _ aw done q N' aj hd aa ho
  have a7:=I.b
  have ax:=hp y I.m
  have ay:=hc.mem y I.m
  have ae:(l.map λt=>t.sub f x b)[i]?=some (y.sub f x b):=by rw [oE,I.g];rfl
  refine vb _ _ _ _ _ _ _ _ _ _ _ _ _ _ _ _ _ _ _ _ _ _ _ _ _ _ _ _ _ _ _ _ ?_
  rw [I.lt,oF,I.w]
  refine ⟨⟨by omega,by omega⟩,λN5 al=>qC N5 _ ad _ J O _ λ_=>⟨_,rfl,λN6 au=>hS y _ x b O I.r hb ax ay ah N6 _ λdx N7 a8 hx az _ _ N8 ba _ _=>⟨⟨rfl,rfl⟩,by unfold zB;rw [oH];simp only [oN,oZ];omega,λc3=>?_⟩⟩⟩
  refine aw _ _ _ (by omega) (by rw [xN ae];exact hd.snoc hx) (by simp [aa]) ?_
  exact (wO ho (xV (az.mono (by omega) (oB _))) (N1:=N') (by omega) (by omega)).mono (oB _) (by omega)
theorem zGM:∀ f,zSE 105 f
 | 0=>λe d x b db _ _ bj=>absurd (Tm.dp_pos e) (by omega)
 | f + 1 => λe d x b db he hb bj hc ak N Q U=>by
   have ih:=zGM f
   have hG:=hc.g
   have bm:=ak.g
   have cx:=ak.c
   cases e with
   | mk k nm ot n0 ty re l=>
   have cy:=hc
   simp only [Tm.dp] at bj
   have hp:∀ y∈l,y.dp<=f:=λy hy=>ww.1 (mV bj) y hy
   have b7:=hc.mem
   obtain ⟨t0,t1,r0,r1,a,es,c,rfl,hh,b8,bn⟩:=Tm.is_mk.1 he
   have hl:=bn.len
   have dl:=hG.2.2.1
   simp only [Tm.sub] at U
   refine zCi N _ x db Q λ_ _=>⟨_,rfl,Br.beq (λh1=>⟨_,rfl,Br.str (λh2 N1 a7=>?_) λh2 N1 a7=>?_⟩) λh1 N1 a7=>zKa (n:=l.length) (by omega) N1 _ λa1 c1 N2 b9 _ _ _=>Br.dec (λal=>?_) λca N3 am=>?_⟩
   ·rw [if_pos h1,if_pos h2] at U
    refine uh b db hb bm N1 _ ?_
    cases b with
    | mk k2 dm dn n2 dq dt l2=>
    simp only [tQ]
    intro x4 x5 x6 x7 ao c' N2 b9 Y J aa _ _
    have aq:=J.len
    have du:=bm.2.2.1
    exact ⟨⟨trivial,trivial⟩,⟨trivial,trivial⟩,λa2 N3 am hf N4 au=>U _ _ (by omega) (Tm.is_mk.2 ⟨_,_,_,_,_,_,_,rfl,Y,by omega,J⟩) ((vW (aa.mono a7 (oB _)) hf am).mono (oB _) au)⟩
   ·rw [if_pos h1,if_neg h2] at U
    refine uh _ _ he hG N1 _ ?_
    simp only [tQ]
    intro x4 x5 x6 x7 ao c' N2 b9 Y J aa _ _
    have aq:=J.len
    exact ⟨⟨trivial,trivial⟩,⟨trivial,trivial⟩,λa2 N3 am hf N4 au=>U _ _ (by omega) (Tm.is_mk.2 ⟨_,_,_,_,_,_,_,rfl,Y,by omega,J⟩) ((vW (aa.mono a7 (oB _)) hf am).mono (oB _) au)⟩
   ·rw [if_neg h1,if_pos al] at U
    refine λad _ _ bp _ _ N3 am ac=>zO3 ih he cy hp x hb ak ad bp N3 _ ?_
    simp only [tQ]
    intro x4 x5 x6 x7 ao c' N4 au Y J aa _
    have aq:=J.len
    simp only [nE] at aq
    have off:∀ y∈[x4,x5,x6,x7],Off [some ad,some bp] y:=λy hy a' ah ab ai hc=>by
     have h1:=ac a' ah ab ai
     have h2:=aa.lo _ (zG.2 ⟨y,ol _ hy,hc⟩)
     omega
    have aw:Off [some ad,some bp] (.ag ao):=λa' ah ab ai hc=>by
     have h1:=ac a' ah ab ai
     have h2:=aa.lo ab.block (by rw [zI];exact nJ _ (by simpa only [D.foot] using hc))
     omega
    refine ⟨off x4 (by simp),off x5 (by simp),off x6 (by simp),off x7 (by simp),aw,λ_=>⟨⟨trivial,trivial⟩,⟨trivial,trivial⟩,λa2 N5 ax hf N6 ay=>U _ _ (by omega) (Tm.is_mk.2 ⟨_,_,_,_,_,_,_,rfl,Y,by omega,J⟩) ((vW (aa.mono (by omega) (oB _)) hf ax).mono (oB _) ay)⟩⟩
   ·rw [if_neg h1,if_neg ca] at U
    refine uh _ _ he hG N3 _ ?_
    simp only [tQ]
    intro x4 x5 x6 x7 ao c' N4 au Y J aa _ _
    have aq:=J.len
    obtain ⟨g1,g2⟩:=wV ca
    have dv:=ri k nm ot l.length
    obtain ⟨j,cc⟩:∃ j:Nat,xB k l.length=(j:Int):=⟨_,g2.symm⟩
    rw [cc] at g1 U ⊢
    rw [oF] at g1 U
    generalize cd:l.getD j tm0=p at U
    have bq:l[j]?=some p:=cd ▸ zY g1
    have dw:=hp p (oD bq)
    have a8:=b7 p (oD bq)
    have ce:=a8.c
    have cf:=zf bn g1
    rw [cd] at cf
    generalize hg:(λt:Tm=>t.sub f x b)=g at U
    have cz:∀ y∈l,(g y).G:=λy hy=>by rw [<-hg];exact zPL f y x b (za hG.2.2.2 hy) bm
    have d5:=zJ (bdN k nm ot l.length)
    refine ⟨_,_,_,rfl,?_⟩
    have fin:∀ (ba bb:ByteArray) (y4 y5 y6 y7:D) (L:List Tm) (r:List D) (q N':Nat),N<=N'->L.length=l.length->Tm.Hd ba bb ty re y4 y5 y6 y7->All2 Tm.Is L r->OwnL N N' ([y4,y5,y6,y7]++r) ->
      (∀ d' N'',N<=N''->(Tm.mk k ba bb n0 ty re L).Is d'->Own N N'' d'->Q d' N'')->∀ a2 N5,N'<=N5->Fresh N N5 a2 [.ag r,y4,y5,y6,y7]->∀ N6,N5<=N6->Q (.ag [.j k,.t ba,.t bb,.j n0,y4,y5,y6,y7,.sl a2 9 r q]) N6:=
     λba bb y4 y5 y6 y7 L r q N' aj hL hH hA hO hq a2 N5 ax hf N6 ay=>by
      have ae:=hA.len
      exact hq _ _ (by omega) (Tm.is_mk.2 ⟨_,_,_,_,_,_,_,rfl,hH,by omega,hA⟩) ((vW hO hf ax).mono (oB _) ay)
    refine up bn b8 (λi xs=>∀ (r:List D) (q N':Nat),N<=N'->All2 Tm.Is (((l.map g).set j p).take i++l.drop i) r->r.length=l.length->OwnL N N' ([x4,x5,x6,x7]++r) ->
     yT Q N a1 (zA (bdN k nm ot l.length)) c1 (j:Int) a es c es.length i (.ag [.j k,.t nm,.t ot,.j n0,t0,t1,r0,r1,.sl a 9 es c]) x db 0 (bytes []) (bytes []) 0 0 none [] 0 0 none [] 0 none [] 0 k nm ot n0 x4 x5 x6 x7 r.length q r q N') ?_ ?_ ao c' N4 (by omega) (by simpa using J) aq (aa.mono (by omega) (oB _))
    ·intro i al hi r q N' aj hA ae hO
     rw [od (by simp;omega),mD (by omega),o7] at hA
     refine uN _ _ _ _ _ _ _ _ _ _ _ _ _ _ _ _ _ _ _ _ _ _ _ _ _ _ _ _ _ _ _ _ _ _ _ _ _ _ _ _ _ _ ?_
     rw [al]
     refine λN5 ax=>yj _ (by omega) a1 c1 x N5 _ λN6 ay _=>?_
     rw [zBt]
     refine Br.dec (λhx=>⟨⟨rfl,rfl⟩,⟨rfl,rfl⟩,⟨rfl,rfl⟩,λa2 N7 c2 hf N8 cg=>?_⟩) λhx=>⟨_,_,_,rfl,⟨by omega,by omega⟩,λN7 c2=>?_⟩
     ·rw [if_pos (.inl hx)] at U
      exact fin _ _ _ _ _ _ _ _ _ N' aj (by simp) Y hA hO U a2 N7 (by omega) hf N8 cg
     ·rw [oF]
      have d6:=Tm.fv_len p
      refine uW p _ cf ce N7 _ λc8 N8 cg _ _=>⟨⟨rfl,rfl⟩,λa9 _ N9 d7 _=>yj _ (by omega) a9 c8 x N9 _ λd8 di _=>?_⟩
      rw [zBt]
      refine Br.ndec (λbt=>⟨⟨rfl,rfl⟩,⟨rfl,rfl⟩,⟨rfl,rfl⟩,λa2 bv ch hf bw bd=>?_⟩) λbt bv ch=>?_
      ·rw [if_pos (.inr bt)] at U
       exact fin _ _ _ _ _ _ _ _ _ N' aj (by simp) Y hA hO U a2 bv (by omega) hf bw bd
      ·rw [if_neg (by rintro (h | h);exact hx h;exact h bt)] at U
       have dj:=Tm.fv_len b
       refine uW b _ hb cx bv _ λbc bw bd _ _=>?_
       have d9:=zJ b.fv
       generalize hT:rns (Tm.sub f) k l.length b.fv x (bdN k nm ot l.length) (nm,ot,p)=T at U
       refine up (xI (bdN k nm ot l.length)) (by omega) (λi xs=>∀ (s:ByteArray × ByteArray × Tm) (y4 y5 y6 y7:D) (r:List D) (q N':Nat),N<=N'->Tm.Hd s.1 s.2.1 ty re y4 y5 y6 y7->All2 Tm.Is ((l.map g).set j s.2.2) r->r.length=l.length->OwnL N N' ([y4,y5,y6,y7]++r)->LeT s.2.2 p->rns (Tm.sub f) k l.length b.fv x xs s=T ->
        yV Q N (j:Int) (zA b.fv).length bc a1 (zA (bdN k nm ot l.length)) c1 ((zA (bdN k nm ot l.length)).length:Int) i x db 0 (bytes []) (bytes []) 0 0 none [] 0 0 none [] 0 none [] 0 k s.1 s.2.1 n0 y4 y5 y6 y7 r.length q (zA b.fv) bc r q N') ?_ ?_ (nm,ot,p) x4 x5 x6 x7 r q bw (by omega) Y hA ae (hO.mono (oB _) (by omega)) LeT.rfl hT
       ·intro i al hi s y4 y5 y6 y7 r q N' aj hH hA ae hO O hs
        simp only [rns] at hs
        subst hs
        refine um _ _ _ _ _ _ _ _ _ _ _ _ _ _ _ _ _ _ _ _ _ _ _ _ _ _ _ _ _ _ _ _ _ _ _ _ _ _ _ _ _ _ ?_
        rw [al]
        refine ⟨⟨by omega,by omega,by omega⟩,by omega,λbz cj=>?_⟩
        have bg:=zf hA (j:=j) (by simpa using g1)
        have b1:((l.map g).set j s.2.2).getD j tm0=s.2.2:=by rw [oA,o0 (by simpa using g1)];rfl
        rw [b1] at bg
        have ck:=O.c
        have cm:=O.d
        rw [oF,oe]
        refine ih s.2.2 _ x b db bg hb (by omega) (O.z a8) ak bz _ λdx b2 cn hx b3 _ _=>?_
        have co:All2 Tm.Is ((l.map g).set j (s.2.2.sub f x b)) (r.set j dx):=by have:=xk (j:=j) hA hx;rwa [List.set_set] at this
        have cp:OwnL N b2 ([y4,y5,y6,y7]++r.set j dx):=rj hO b3 (by omega) (by omega) (by omega)
        exact ⟨⟨by omega,by omega,by omega⟩,by omega,⟨by simp,rfl⟩,⟨by simp,rfl⟩,⟨by simp,rfl⟩,⟨by simp,rfl⟩,⟨by simp,rfl⟩,λa2 cq bh hf b4 bi=>fin _ _ _ _ _ _ _ _ _ b2 (by omega) (by simp) hH co cp U a2 cq bh hf b4 bi⟩
       ·intro i old xs I _ az s y4 y5 y6 y7 r q N' aj hH hA ae hO O hs
        have c3:=I.b
        have hr:=I.r
        simp only [rns] at hs
        refine um _ _ _ _ _ _ _ _ _ _ _ _ _ _ _ _ _ _ _ _ _ _ _ _ _ _ _ _ _ _ _ _ _ _ _ _ _ _ _ _ _ _ ?_
        rw [I.lt,oF,I.w,hr]
        refine ⟨⟨by omega,by omega⟩,old,rfl,⟨rfl,rfl⟩,λc4 _ bz cj _=>yj _ (by omega) c4 bc old bz _ λb2 cn _=>?_⟩
        rw [zBt]
        refine Br.dec (λho=>⟨⟨rfl,rfl⟩,⟨rfl,rfl⟩,λc5 cq bh _=>⟨⟨rfl,rfl⟩,λb5 _ b4 bi ac=>?_⟩⟩) λho=>?_
        ·have ck:=O.c
         have cm:=O.d
         have c6:(Tm.mk k s.1 s.2.1 n0 ty re ((l.map g).set j s.2.2)).Is (.ag [.j k,.t s.1,.t s.2.1,.j n0,y4,y5,y6,y7,.sl c5 9 r q]):=Tm.is_mk.2 ⟨_,_,_,_,_,_,_,rfl,hH,by omega,hA⟩
         have b1:((l.map g).set j s.2.2).getD j tm0=s.2.2:=by rw [oA,o0 (by simpa using g1)];rfl
         have c7:(Tm.mk k s.1 s.2.1 n0 ty re ((l.map g).set j s.2.2)).G:=⟨hG.1,hG.2.1,by simpa using hG.2.2.1,pR λy hy=>by
          rcases o6 hy with hy | rfl
          ·obtain ⟨z,hz,rfl⟩:=oQ.1 hy
           exact cz z hz
          ·exact O.g a8.g⟩
         refine zO0 ih c6 c7 (n:=l.length) (by simp) cc b1 (by omega) (O.z a8) old x b.fv (by omega) b5 bc rfl b4 _ ?_
         simp only [tQ]
         intro z4 z5 z6 z7 da c9 ea dk de a6 b6 _
         have off:∀ y∈[z4,z5,z6,z7],Off [b5] y:=λy hy a' ah ab ai hc=>by
          have h1:=ac a' ah ab ai
          have h2:=b6.lo _ (zG.2 ⟨y,ol _ hy,hc⟩)
          omega
         have aw:Off [b5] (.ag da):=λa' ah ab ai hc=>by
          have h1:=ac a' ah ab ai
          have h2:=b6.lo ab.block (by rw [zI];exact nJ _ (by simpa only [D.foot] using hc))
          omega
         rw [List.set_set] at a6
         have cr:=a6.len
         simp only [nR,nE] at cr
         refine ⟨off z4 (by simp),off z5 (by simp),off z6 (by simp),off z7 (by simp),aw,λ_=>?_⟩
         have e1:rn1 (Tm.sub f) k l.length b.fv x old s=(if s.1=old then fresh (b.fv++(s.2.2.fv++([x]++bdN k s.1 s.2.1 l.length))) else s.1,if s.1=old then s.2.1 else fresh (b.fv++(s.2.2.fv++([x]++bdN k s.1 s.2.1 l.length))),s.2.2.sub f old (zBx (fresh (b.fv++(s.2.2.fv++([x]++bdN k s.1 s.2.1 l.length)))))):=by
          unfold rn1
          rw [if_pos ho]
          split<;>rfl
         rw [e1] at hs
         exact az _ _ _ _ _ _ _ _ (by omega) de a6 cr (b6.mono (by omega) (oB _)) ((vL f _ _ _).trans O) hs
        ·have e1:rn1 (Tm.sub f) k l.length b.fv x old s=s:=by unfold rn1;rw [if_neg ho]
         rw [e1] at hs
         exact az _ _ _ _ _ _ _ _ (by omega) hH hA ae (hO.mono (oB _) (by omega)) O hs
    ·intro i y xs I _ az r q N' aj hA ae hO
     have c3:=I.b
     have df:=hp y I.m
     have dh:=b7 y I.m
     have ct:i<l.length:=(oC.1 I.g).1
     refine uN _ _ _ _ _ _ _ _ _ _ _ _ _ _ _ _ _ _ _ _ _ _ _ _ _ _ _ _ _ _ _ _ _ _ _ _ _ _ _ _ _ _ ?_
     rw [I.lt,oF,I.w]
     refine ⟨⟨by omega,by omega⟩,Br.bne (λeb N5 ax=>ih y _ x b db I.r hb df dh ak N5 _ λdx N6 ay hx b3 _ _=>⟨⟨by omega,by omega,by omega⟩,by omega,?_⟩) λheq=>?_⟩
     ·have hT:((l.map g).set j p)[i]?=some (y.sub f x b):=by
       rw [nA (by omega),oE,I.g,<-hg];rfl
      rw [oe]
      have h2:=xk (j:=i) hA hx
      rw [zOM (by simp) ct hT] at h2
      have h3:=az (r.set i dx) q N6 (by omega) h2 (by simpa using ae) (rj hO b3 (by omega) (by omega) (by omega))
      simpa using h3
     ·have cw:i=j:=by omega
      have hyp:y=p:=by
       have:=I.g
       rw [cw,bq] at this
       exact (oS this).symm
      have hT:((l.map g).set j p)[i]?=some y:=by rw [cw,hyp,o0 (by simpa using g1)]
      rw [zK6 ct I.g hT] at hA
      exact az r q N' aj hA ae hO
theorem zLw (s:ByteArray) (l:List ByteArray):decide (zCP (λx=>decide (x=s)) l 0≥0)=decide (s∈l):=by
 have h:=zDx s l
 rw [mR,mK,mK] at h ⊢
 constructor
 ·intro J;exact mP.1 λI=>by have:=h.2 I;omega
 ·intro J;exact Int.not_lt.1 λI=>h.1 I J
/-- what a node binds, away from some names -/
theorem zN3 {f:Nat} (hS:zSE 122 f) {k n0:Int} {nm ot:ByteArray} {ty re:Ty} {l:List Tm} {d:D} (hd:(Tm.mk k nm ot n0 ty re l).Is d) (hG:(Tm.mk k nm ot n0 ty re l).G) {j:Nat} (bd:xB k l.length=(j:Int))
  {p:Tm} (hp:l.getD j tm0=p) (cr:p.dp<=f) (hc:p.Z) (x:ByteArray) (fb:List ByteArray) (ct:fb.length<=2199023255552) (a:Option Addr) (c:Nat) (N:Nat) {T:ByteArray × ByteArray × Tm} (hT:rns (Tm.sub f) k l.length fb x (bdN k nm ot l.length) (nm,ot,p)=T)
  (Q:QT [.pk,.i,.str,.str,.i,.dc,.dc,.dc,.dc,.row 29 9]) (hQ:tQ (.mk k T.1 T.2.1 n0 ty re (l.set j T.2.2)) N Q) :
  ACalls prog 156 [.pk,.i,.str,.str,.i,.dc,.dc,.dc,.dc,.row 29 9] [.dg 9 d,.j (j:Int),.str x,.sv a 0 (zA fb) c] N Q:=by
 obtain ⟨t0,t1,r0,r1,a8,es,c8,rfl,hh,cc,bg⟩:=Tm.is_mk.1 hd
 have hl:=bg.len
 obtain ⟨g1,_⟩:=wV (k:=k) (n:=l.length) (by omega)
 rw [bd,oF] at g1
 have cw:=ri k nm ot l.length
 have cx:=zJ (bdN k nm ot l.length)
 have cy:=hG.2.2.1
 refine zFE N _ _ x a _ c Q λ_ _ N1 bh=>vQ _ _ hd hG N1 _ ?_
 simp only [tQ] at hQ ⊢
 intro x4 x5 x6 x7 bi c' N2 cz bj ai bm _ _ N3 c2
 refine zAt (n:=l.length) (by omega) N3 _ λa1 c1 N4 c3 _ _ _=>?_
 have c4:=ai.len
 have al:l.set j p=l:=by
  apply nF
  intro i
  rw [nN]
  split
  ·rename_i hi
   subst hi
   rw [zY g1,hp]
  ·rfl
 refine up (xI (bdN k nm ot l.length)) (by omega) (λi xs=>∀ (s:ByteArray × ByteArray × Tm) (y4 y5 y6 y7:D) (r:List D) (q N':Nat),N<=N'->Tm.Hd s.1 s.2.1 ty re y4 y5 y6 y7->All2 Tm.Is (l.set j s.2.2) r->OwnL N N' ([y4,y5,y6,y7]++r)->LeT s.2.2 p->rns (Tm.sub f) k l.length fb x xs s=T ->
  (i=0->s=(nm,ot,p))->(0<i->∀ o∈xs,o∈fb->s.1≠o) ->
  yY Q N j x a (zA fb) c a1 (zA (bdN k nm ot l.length)) c1 i 0 (bytes []) (bytes []) 0 0 none [] 0 0 none [] 0 none [] 0 k s.1 s.2.1 n0 y4 y5 y6 y7 r.length q r q N') ?_ ?_ (nm,ot,p) x4 x5 x6 x7 bi c' N4 (by omega) bj (by rw [al];exact ai) (bm.mono bh (by omega)) LeT.rfl hT (λ_=>rfl) (λh=>absurd h (by omega))
 ·intro i bn hi s y4 y5 y6 y7 r q N' bp hH hA hO U hs _ _
  simp only [rns] at hs
  subst hs
  refine sd _ _ _ _ _ _ _ _ _ _ _ _ _ _ _ _ _ _ _ _ _ _ _ _ _ _ _ _ _ _ _ _ _ _ _ _ _ _ _ ?_
  rw [bn]
  exact ⟨⟨rfl,rfl⟩,λN5 aq=>hQ _ _ _ _ _ _ _ (by omega) hH hA (hO.mono (oB _) aq)⟩
 ·intro i old xs I au am s y4 y5 y6 y7 r q N' bp hH hA hO U hs h0 h1
  have c5:=I.b
  have hr:=I.r
  have bq:=hA.len
  simp only [nR] at bq
  simp only [rns] at hs
  refine sd _ _ _ _ _ _ _ _ _ _ _ _ _ _ _ _ _ _ _ _ _ _ _ _ _ _ _ _ _ _ _ _ _ _ _ _ _ _ _ ?_
  rw [I.lt,oF,I.w,hr]
  refine ⟨⟨by omega,by omega⟩,old,rfl,λN5 aq=>xL fb (by omega) a c old N5 _ λN6 da _=>?_⟩
  show Br (decide (zCP (λx=>decide (x=old)) fb 0<0)) _ _
  rw [zDx]
  have hold:i=0->s.1=old:=λhi=>by
   subst hi
   have h2:=I.g
   rw [h0 rfl]
   unfold bdN at h2
   (repeat' split at h2)<;>simp at h2<;>exact h2
  have aw:0<i->old∈fb->s.1≠old:=λhi Y=>h1 hi old (by simp) Y
  have aa:∀ s':ByteArray × ByteArray × Tm,rn1 (Tm.sub f) k l.length fb x old s=s'->0<i+1->∀ o∈xs,o∈fb->s'.1≠o:=λs' bt _ o Y bv=>by
   have ax:i=0:=by
    have h3:=oO.1 Y
    obtain ⟨m,hm⟩:=h3
    rw [<-au,nM] at hm
    have:=(oC.1 hm).1
    omega
   have bw:=h0 ax
   subst ax
   have bz:o∈bdN k nm ot l.length:=by rw [<-au] at Y;exact oh Y
   have ab:=hold rfl
   subst bt
   unfold rn1
   by_cases ac:old∈fb
   ·have b1:=zEU (fb++(s.2.2.fv++([x]++bdN k s.1 s.2.1 l.length)))
    rw [if_pos ac,if_pos ab]
    intro hc
    refine b1 ?_
    simp only at hc
    rw [hc,bw]
    simp [bz]
   ·rw [if_neg ac]
    intro hc
    exact ac (by rw [<-ab,hc];exact bv)
  refine Br.dec (λY=>?_) λY=>?_
  ·have e1:rn1 (Tm.sub f) k l.length fb x old s=s:=by unfold rn1;rw [if_neg Y]
   have J:=aa s e1
   rw [e1] at hs
   exact am _ _ _ _ _ _ _ _ (by omega) hH hA (hO.mono (oB _) (by omega)) U hs (λh=>absurd h (by omega)) J
  ·have Y:old∈fb:=mP.1 Y
   have ae:=zf hA (j:=j) (by simpa using g1)
   have b2:(l.set j s.2.2).getD j tm0=s.2.2:=by rw [oA,o0 (by simpa using g1)];rfl
   rw [b2] at ae
   have ay:=U.z hc
   have db:=ay.c
   have de:=Tm.fv_len s.2.2
   have df:=zEy fb s.2.2.fv
   have cd:=ri k s.1 s.2.1 l.length
   have ce:=zJ (bdN k s.1 s.2.1 l.length)
   have cf:=U.d
   refine ⟨⟨rfl,rfl⟩,λa5 _ N7 dh az=>zAt (n:=l.length) (by omega) N7 _ λa6 c6 N8 di b3 _=>⟨wQ az b3,λ_=>⟨⟨by omega,by omega,by omega⟩,by omega,λN9 dj=>?_⟩⟩⟩
   rw [oF,oe]
   refine uT s.2.2 _ ae (by omega) N9 _ λa7 c7 dk cg _ _ _ b4 ch=>?_
   refine tY fb s.2.2.fv (by omega) (by omega) a a7 c c7 b4 _ λc8 dl cj _ _=>?_
   rw [vR,zGa]
   have ba:(rR fb s.2.2.fv++[x]++bdN k s.1 s.2.1 l.length).length<=8796093022208:=by simp only [oH,oN,oZ];omega
   have bb:fresh (rR fb s.2.2.fv++[x]++bdN k s.1 s.2.1 l.length)=fresh (fb++(s.2.2.fv++([x]++bdN k s.1 s.2.1 l.length))):=zPa λy=>by simp [zIb,or_assoc]
   refine ⟨⟨rfl,rfl⟩,pc (by omega),λc9=>⟨⟨rfl,rfl⟩,by unfold zB;rw [oH,zJ,zJ,oH,oN,oZ];omega,λb5=>⟨⟨rfl,rfl⟩,λb6 _ b7 ck _=>?_⟩⟩⟩
   refine zCu _ ba b6 b5 b7 _ λdm cm _=>⟨⟨by omega,by omega,by omega⟩,by omega,⟨by omega,by omega⟩,old,rfl,λb8 cn=>?_⟩
   have ah:=zGY ba
   rw [bb] at ah ⊢
   have e1:rn1 (Tm.sub f) k l.length fb x old s=(if s.1=old then fresh (fb++(s.2.2.fv++([x]++bdN k s.1 s.2.1 l.length))) else s.1,if s.1=old then s.2.1 else fresh (fb++(s.2.2.fv++([x]++bdN k s.1 s.2.1 l.length))),s.2.2.sub f old (zBx (fresh (fb++(s.2.2.fv++([x]++bdN k s.1 s.2.1 l.length)))))):=by
    unfold rn1
    rw [if_pos Y]
    split<;>rfl
   have J:=aa _ e1
   rw [e1] at hs
   generalize fresh (fb++(s.2.2.fv++([x]++bdN k s.1 s.2.1 l.length)))=O at ah hs J ⊢
   refine zCQ b8 O _ λdn co _ _ b9 cp=>?_
   refine hS s.2.2 _ old (zBx O) _ ae (zM1 ah) (by omega) ay (zQ3 _) b9 _ λdx ao cq hx ca _ _=>⟨⟨by omega,by omega,by omega⟩,by omega,?_⟩
   have aj:All2 Tm.Is (l.set j (s.2.2.sub f old (zBx O))) (r.set j dx):=by have:=xk (j:=j) hA hx;rwa [List.set_set] at this
   have ak:OwnL N ao ([y4,y5,y6,y7]++r.set j dx):=rj hO ca (by omega) (by omega) (by omega)
   have bc:(r.set j dx).length=r.length:=nR
   refine Br.beq (λhi=>?_) λhi=>?_
   ·have hi:i=0:=by omega
    rw [if_pos (hold hi),if_pos (hold hi)] at hs J
    have:=am (O,s.2.1,s.2.2.sub f old (zBx O)) y4 y5 y6 y7 (r.set j dx) q ao (by omega) ⟨ah,hH.ot,hH.ty,hH.re⟩ aj ak ((vL f _ _ _).trans U) hs (λh=>absurd h (by omega)) J
    rwa [bc] at this
   ·have hi:0<i:=by omega
    rw [if_neg (aw hi Y),if_neg (aw hi Y)] at hs J
    have:=am (s.1,O,s.2.2.sub f old (zBx O)) y4 y5 y6 y7 (r.set j dx) q ao (by omega) ⟨hH.nm,ah,hH.ty,hH.re⟩ aj ak ((vL f _ _ _).trans U) hs (λh=>absurd h (by omega)) J
    rwa [bc] at this
/-- the parts, each put through, but for one -/
theorem zAc {f:Nat} (hS:zSE 122 f) {k n0:Int} {nm ot:ByteArray} {ty re:Ty} {L Lf:List Tm} {x:ByteArray} {b:Tm} {db:D} (hb:b.Is db) (ak:b.Z) (hL:∀ y∈L,y.dp<=f/\y.Z) (ay:L.length<=1073741824) {at_:Int} {hid:Bool}
  (al:Lf.length=L.length) (hf:∀ (i:Nat) (y:Tm),L[i]?=some y->Lf[i]?=some (if hid=true/\(i:Int)=at_ then y else y.sub f x b)) {y4 y5 y6 y7:D} (hH:Tm.Hd nm ot ty re y4 y5 y6 y7) {r:List D} (hA:All2 Tm.Is L r) (q N N':Nat) (U:N<=N') (hO:OwnL N N' ([y4,y5,y6,y7]++r))
  (Q:QT [.ag 9]) (hQ:∀ d' N'',N<=N''->(Tm.mk k nm ot n0 ty re Lf).Is d'->Own N N'' d'->Q d' N'') :
  zE Q N x at_ hid 0 db 0 (bytes []) (bytes []) 0 0 none [] 0 0 none [] 0 none [] 0 k nm ot n0 y4 y5 y6 y7 r.length q r q N':=by
 have az:=hA.len
 refine up hA (by omega) (λi xs=>∀ (O:List D) (q N':Nat),N<=N'->All2 Tm.Is (Lf.take i++L.drop i) O->O.length=r.length->OwnL N N' ([y4,y5,y6,y7]++O) ->
  zE Q N x at_ hid i db 0 (bytes []) (bytes []) 0 0 none [] 0 0 none [] 0 none [] 0 k nm ot n0 y4 y5 y6 y7 r.length q O q N') ?_ ?_ r q N' U (by simpa using hA) rfl hO
 ·intro i am hi O q N' U J ab Y
  rw [od (by omega),mD (by omega),o7] at J
  refine tA _ _ _ _ _ _ _ _ _ _ _ _ _ _ _ _ _ _ _ _ _ _ _ _ _ _ _ _ _ _ _ _ _ _ _ ?_
  rw [am]
  exact ⟨⟨by omega,rfl⟩,⟨by omega,rfl⟩,⟨by omega,rfl⟩,⟨by omega,rfl⟩,λa2 N5 ac hf N6 ae=>hQ _ _ (by omega) (Tm.is_mk.2 ⟨_,_,_,_,_,_,_,rfl,hH,by omega,J⟩) ((vW Y hf ac).mono (oB _) ae)⟩
 ·intro i y xs I _ ah O q N' U J ab Y
  have a1:=I.b
  obtain ⟨ao,aq⟩:=hL y I.m
  have ai:i<L.length:=(oC.1 I.g).1
  have aa:=hf i y I.g
  have au:y.Is (O.getD i default):=by
   refine J.get ?_
   rw [oP (by rw [ou];omega),ou,show i - min i Lf.length=0 by omega,nM]
   exact I.g
  have put:(if hid=true/\(i:Int)=at_ then y else y.sub f x b)=y.sub f x b->∀ N5,N'<=N5->ACalls prog 122 [.ag 9] [.dg 9 (List.getD O i default),.str x,.dg 9 db] N5 (λaj N6=>N5<=N6->Bel N6 aj->((0:Int)<=(i:Int)/\(i:Int)<(r.length:Int)/\i<O.length)/\i<O.length /\
    zE Q N x at_ hid ((i+1:Nat):Int) db 0 (bytes []) (bytes []) 0 0 none [] 0 0 none [] 0 none [] 0 k nm ot n0 y4 y5 y6 y7 r.length q (List.set O i aj) q N6):=λe N5 ac=>
   hS y _ x b db au hb ao aq ak N5 _ λdx N6 ae hx aw _ _=>⟨⟨by omega,by omega,by omega⟩,by omega,by
    rw [e] at aa
    have h2:=xk (j:=i) J hx
    rw [zOM al ai aa] at h2
    exact ah (O.set i dx) q N6 (by omega) h2 (by simpa using ab) (rj Y aw (by omega) (by omega) (by omega))⟩
  refine tA _ _ _ _ _ _ _ _ _ _ _ _ _ _ _ _ _ _ _ _ _ _ _ _ _ _ _ _ _ _ _ _ _ _ _ ?_
  rw [I.lt,oF,I.w,oe]
  refine Br.bne (λax=>⟨⟨by omega,by omega,by omega⟩,by omega,put (if_neg λh=>ax h.2)⟩) λheq=>?_
  refine Br.not (λhh=>⟨⟨by omega,by omega,by omega⟩,by omega,put (if_neg λh=>by rw [hh] at h;exact absurd h.1 (by decide))⟩) λhh=>?_
  rw [if_pos ⟨hh,heq⟩] at aa
  rw [zK6 ai I.g aa] at J
  exact ah O q N' U J ab Y
theorem zLo {g:Tm->Tm} {l:List Tm} {i:Nat} {y:Tm} (h:l[i]?=some y):(l.map g)[i]?=some (g y):=by rw [oE,h];rfl
theorem zGB:∀ f,zSE 122 f
 | 0=>λe d x b db _ _ ae=>absurd (Tm.dp_pos e) (by omega)
 | f + 1=>λe d x b db he hb ae hc U N Q J=>by
   have ih:=zGB f
   have hG:=hc.g
   have aq:=U.g
   have bg:=U.c
   cases e with
   | mk k nm ot n0 ty re l=>
   simp only [Tm.dp] at ae
   have hp:∀ y∈l,y.dp<=f/\y.Z:=λy O=>⟨ww.1 (mV ae) y O,hc.mem y O⟩
   obtain ⟨t0,t1,r0,r1,a,es,c,rfl,hh,bz,au⟩:=Tm.is_mk.1 he
   have hl:=au.len
   have ab:=hG.2.2.1
   have b7:=ri k nm ot l.length
   have b8:=zJ (bdN k nm ot l.length)
   refine zC2 N _ x db Q λ_ _=>⟨_,rfl,?_⟩
   have aw:¬(k=1/\nm=x)->(Tm.mk k nm ot n0 ty re l).sub (f+1) x b=if xB k l.length<0 then .mk k nm ot n0 ty re (l.map λt=>Tm.sub f t x b)
     else if x∈bdN k nm ot l.length\/x∉(l.getD (xB k l.length).toNat tm0).fv then
      .mk k nm ot n0 ty re ((l.map λt=>Tm.sub f t x b).set (xB k l.length).toNat (l.getD (xB k l.length).toNat tm0))
     else
      .mk k (rns (Tm.sub f) k l.length b.fv x (bdN k nm ot l.length) (nm,ot,l.getD (xB k l.length).toNat tm0)).1
       (rns (Tm.sub f) k l.length b.fv x (bdN k nm ot l.length) (nm,ot,l.getD (xB k l.length).toNat tm0)).2.1 n0 ty re
       ((l.map λt=>Tm.sub f t x b).set (xB k l.length).toNat (Tm.sub f (rns (Tm.sub f) k l.length b.fv x (bdN k nm ot l.length) (nm,ot,l.getD (xB k l.length).toNat tm0)).2.2 x b)):=λhn=>by
    simp only [Tm.sub]
    by_cases hk:k=1
    ·rw [if_pos hk,if_neg (λh=>hn ⟨hk,h⟩)]
     have:l=[]:=hc.v.1 hk
     subst this
     subst hk
     rw [if_pos (by decide)]
     rfl
    ·rw [if_neg hk]
   refine Br.beq (λh1=>⟨_,rfl,Br.str (λh2 N1 ah=>?_) λh2=>?_⟩) λh1=>?_
   ·simp only [Tm.sub] at J
    rw [if_pos h1,if_pos h2] at J
    refine vQ b db hb aq N1 _ ?_
    cases b with
    | mk k2 b9 ca n2 cc cd l2=>
    simp only [tQ]
    intro x4 x5 x6 x7 ax c' N2 bh aa I ai _ _
    have bi:=I.len
    have ce:=aq.2.2.1
    exact ⟨⟨trivial,trivial⟩,⟨trivial,trivial⟩,λa2 N3 ay hf N4 az=>J _ _ (by omega) (Tm.is_mk.2 ⟨_,_,_,_,_,_,_,rfl,aa,by omega,I⟩) ((vW (ai.mono ah (oB _)) hf ay).mono (oB _) az)⟩
   all_goals
    rw [aw (λh=>by first | exact h2 h.2 | exact h1 h.1)] at J
    intro N1 ah
    refine vQ _ _ he hG N1 _ ?_
    simp only [tQ]
    intro x4 x5 x6 x7 ax c' N2 bh aa I ai _ _ N3 ay
    have bi:=I.len
    refine zAt (n:=l.length) (by omega) N3 _ λa1 c1 N4 az _ _ _ N5 cf=>?_
    refine xL _ (by omega) a1 c1 x N5 _ λN6 cg _=>?_
    rw [zLw]
    have aj:OwnL N N6 ([x4,x5,x6,x7]++ax):=ai.mono ah (by omega)
    refine Br.dec (λch=>?_) λcj=>?_
    ·rw [if_neg (by omega)] at J
     obtain ⟨g1,g2⟩:=wV (k:=k) (n:=l.length) (by omega)
     obtain ⟨j,a6⟩:∃ j:Nat,xB k l.length=(j:Int):=⟨_,g2.symm⟩
     rw [a6] at g1 J ⊢
     rw [oF] at g1 J ⊢
     generalize ak:l.getD j tm0=p at J
     have al:l[j]?=some p:=ak ▸ zY g1
     obtain ⟨a7,am⟩:=hp p (oD al)
     have ba:=am.c
     have bb:=zf au g1
     rw [ak] at bb
     refine Br.ndec (λhx=>⟨_,_,_,rfl,⟨by omega,by omega⟩,λN7 ck=>?_⟩) λhx=>?_
     ·have cm:=Tm.fv_len p
      refine uT p _ bb ba N7 _ λa8 c8 N8 cn _ _ _ N9 co=>xL _ (by omega) a8 c8 x N9 _ λbj b1 _=>?_
      rw [zLw]
      rw [mS hx]
      refine Br.dec (λac bm b2=>?_) λac=>?_
      ·rw [if_neg (by rintro (h | h);exact hx h;exact h ac)] at J
       have b3:=Tm.fv_len b
       refine uT b _ hb bg bm _ λbn bp cp b4 _ _ _ bq b5=>?_
       generalize hT:rns (Tm.sub f) k l.length b.fv x (bdN k nm ot l.length) (nm,ot,p)=T at J
       have ao:=sL (vL f) k l.length b.fv x (bdN k nm ot l.length) (nm,ot,p)
       rw [hT] at ao
       have bc:=ao.d
       refine zN3 ih he hG a6 ak a7 am x b.fv (by omega) bn bp bq hT _ ?_
       simp only [tQ]
       intro z4 z5 z6 z7 cq c9 bt b6 bv bd bw _ _
       refine zAc ih hb U (L:=l.set j T.2.2) (Lf:=(l.map λt=>t.sub f x b).set j (T.2.2.sub f x b)) (λy O=>?_) (by simpa using ab) (by simp) (λi y O=>?_) bv bd c9 N bt (by omega) (bw.mono (by omega) (oB _)) Q J
       ·rcases o6 O with O | rfl
        ·exact hp y O
        ·exact ⟨oR bc a7,ao.z am⟩
       ·rw [if_neg (λh=>by simp at h)]
        rw [<-List.map_set]
        exact zLo O
      ·rw [if_pos (.inr ac)] at J
       refine zAc ih hb U hp ab (by simp) (λi y O=>?_) aa I c' N bj (by omega) (aj.mono (oB _) (by omega)) Q J
       rw [if_neg (λh=>by simp at h)]
       by_cases Y:j=i
       ·subst Y
        have:y=p:=oS (O.symm.trans al)
        rw [o0 (by simpa using g1),this,zQf f p x b ac]
       ·rw [nA Y];exact zLo O
     ·rw [if_pos (.inl hx)] at J
      rw [mO hx]
      refine zAc ih hb U hp ab (by simp) (λi y O=>?_) aa I c' N N6 (by omega) aj Q J
      by_cases Y:j=i
      ·subst Y
       have:y=p:=oS (O.symm.trans al)
       rw [if_pos ⟨rfl,rfl⟩,o0 (by simpa using g1),this]
      ·rw [if_neg (λh=>Y (by omega)),nA Y];exact zLo O
    ·rw [if_pos (by omega)] at J
     refine zAc ih hb U hp ab (by simp) (λi y O=>?_) aa I c' N N6 (by omega) aj Q J
     rw [if_neg (λh=>by have:=h.2;omega)]
     exact zLo O
end Go.Proofs.YtfajiphkncipoaaGreatDoor
