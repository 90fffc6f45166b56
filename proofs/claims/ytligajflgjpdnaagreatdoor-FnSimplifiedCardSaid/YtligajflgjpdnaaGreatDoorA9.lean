/- Substitution: how deep, how great (no program in sight). -/
import Derived.Test.YtligajflgjpdnaaGreatDoorA5
import Derived.Test.YtligajflgjpdnaaGreatDoorKf
set_option linter.unusedVariables false
set_option linter.unusedSimpArgs false
namespace Go.Proofs.YtligajflgjpdnaaGreatDoor
open Go Go.Proofs Go.Proofs.Tryz Go.IntWalk
mutual
def Tm.V:Tm->Prop
 | .mk k _ _ _ _ _ l=>(k=1->l=[])/\Uy l
def Uy:List Tm->Prop
 | []=>True
 | t::I=>t.V/\Uy I
end
theorem uR:∀ {l:List Tm},Uy l↔∀ x∈l,x.V
 | []=>by simp[Uy]
 | t::I=>by simp only[Uy,uR (l:=I),oF,nT]
theorem wC:∀ {l:List Tm}{n:Nat},r8 l<=n↔∀ x∈l,x.dp<=n
 | [],n=>by simp[r8]
 | t::I,n=>by simp only[r8,Nat.max_le,wC (l:=I),oF,nT]
structure LeT (t' t:Tm):Prop where
 c:t'.vc<=t.vc
 d:t'.dp<=t.dp
 v:t.V->t'.V
 g:t.G->t'.G
 s:t'.sz<=t.sz
 n:t'.cnt<=t.cnt
theorem LeT.rfl {t:Tm}:LeT t t:=⟨oC _,oC _,id,id,oC _,oC _⟩
theorem LeT.trans {a b c:Tm}(h:LeT a b)(I:LeT b c):LeT a c:=⟨oL h.c I.c,oL h.d I.d,λJ=>h.v (I.v J),λJ=>h.g (I.g J),oL h.s I.s,oL h.n I.n⟩
theorem OG:∀ {l' l:List Tm},l'.length=l.length->(∀(i:Nat)(t' t:Tm),l'[i]?=some t'->l[i]?=some t->LeT t' t)->uB l'<=uB l/\r8 l'<=r8 l/\(Uy l->Uy l')/\(OW l->OW l')/\yB l'<=yB l/\zj l'<=zj l
 | [],[],_,_=>⟨oC _,oC _,id,id,oC _,oC _⟩
 | [],_::_,h,_=>by simp at h
 | _::_,[],h,_=>by simp at h
 | t'::O,t::Y,h,U=>by
   obtain⟨h1,h2,h3,h4,h5,h6⟩:=OG (l':=O) (l:=Y) (by simpa using h) λi a b ha hb=>U (i+1) a b (by simpa using ha) (by simpa using hb);have I:=U 0 t' t (by simp) (by simp)
   have:=I.c
   have:=I.d
   have:=I.s
   have:=I.n
   refine⟨by simp only[uB];omega,by simp only[r8];omega,λJ=>⟨I.v J.1,h3 J.2⟩,λJ=>⟨I.g J.1,h4 J.2⟩,by simp only[yB];omega,by simp only[zj];omega⟩
theorem pK {l:List Tm}{g:Tm->Tm}{j:Nat}{v t' t:Tm}{i:Nat}(h:((l.map g).set j v)[i]?=some t')(J:l[i]?=some t):(i=j/\t'=v)\/(i≠j/\t'=g t):=by
 rw[nW]at h;split at h
 ·rename_i I;split at h
  ·exact .inl ⟨I.symm,(oT h).symm⟩
  ·cases h
 ·rename_i I;rw[oE,J]at h;exact .inr ⟨λhc=>I hc.symm,(oT h).symm⟩
theorem Ff {k:Int}{nm ot J O:ByteArray}{n:Int}{ty re:Ty}{l l':List Tm}(U:k≠1)(h:l'.length=l.length)(Y:∀(i:Nat)(t' t:Tm),l'[i]?=some t'->l[i]?=some t->LeT t' t):LeT (.mk k J O n ty re l') (.mk k nm ot n ty re l):=by obtain⟨h1,h2,h3,h4,h5,h6⟩:=OG h Y;exact⟨by simp only[Tm.vc,if_neg U];omega,by simp only[Tm.dp];omega,λI=>⟨λhc=>absurd hc U,h3 I.2⟩,λI=>⟨I.1,I.2.1,h ▸ I.2.2.1,h4 I.2.2.2⟩,by simp only[Tm.sz];omega,by simp only[Tm.cnt];omega⟩
theorem qm {S:Tm->ByteArray->Tm->Tm}(I:∀ t x y,LeT (S t x (xk y)) t)(k:Int)(n:Nat)(fb:List ByteArray)(x old:ByteArray)(s:ByteArray × ByteArray × Tm):LeT (rn1 S k n fb x old s).2.2 s.2.2:=by
 unfold rn1;split
 ·split
  ·exact I _ _ _
  ·exact I _ _ _
 ·exact LeT.rfl
theorem ut {S:Tm->ByteArray->Tm->Tm}(I:∀ t x y,LeT (S t x (xk y)) t)(k:Int)(n:Nat)(fb:List ByteArray)(x:ByteArray):∀(l:List ByteArray)(s:ByteArray × ByteArray × Tm),LeT (rns S k n fb x l s).2.2 s.2.2
 | [],s=>LeT.rfl
 | old::l,s=>(ut I k n fb x l _).trans (qm I k n fb x old s)
theorem yJ:∀(f:Nat)(t:Tm)(x y:ByteArray),LeT (t.sub f x (xk y)) t
 | 0,t,x,y=>by simp only[Tm.sub];exact LeT.rfl
 | f + 1,.mk k nm ot n ty re l,x,y=>by
   have U:=yJ f;simp only[Tm.sub];split
   ·rename_i Y;split
    ·exact⟨by simp only[xk,Tm.vc,if_pos Y,mU];exact oC _,by simp only[xk,Tm.dp,r8];omega,λ_=>⟨λ_=>rfl,trivial⟩,λ_=>by simp[xk,Tm.G,OW,Ty.cnt,zL],by simp only[xk,Tm.sz,yB];omega,by have:=Ty.cnt_pos ty;have:=Ty.cnt_pos re;simp only[xk,Tm.cnt,zj,Ty.cnt,zL];omega⟩
    ·exact LeT.rfl
   ·rename_i Y;split
    ·refine Ff Y (by simp) λi t' t I J=>?_;rw[oE,J]at I;cases I;exact U t x y
    ·rename_i hb;obtain⟨g1,g2⟩:=yM hb;split
     ·refine Ff Y (by simp) λi t' t I J=>?_;rcases pK I J with⟨h1,O⟩ | ⟨h1,O⟩
      ·rw[h1,zH g1]at J;rw[O,<-oT J];exact LeT.rfl
      ·rw[O];exact U t x y
     ·refine Ff Y (by simp) λi t' t I J=>?_;rcases pK I J with⟨h1,O⟩ | ⟨h1,O⟩
      ·rw[h1,zH g1]at J;rw[O,<-oT J];exact(U _ x y).trans (ut U _ _ _ _ _ _)
      ·rw[O];exact U t x y
theorem P7:∀(f:Nat) (t:Tm) (x:ByteArray) (b:Tm),t.G->b.G->(t.sub f x b).G
 | 0,t,x,b,h,_=>by simp only[Tm.sub];exact h
 | f + 1,.mk k nm ot n ty re l,x,b,h,U=>by
   have I:=P7 f;obtain⟨Y,h2,h3,h4⟩:=h;have vG:∀ y,(xk y).G:=λy=>by simp[xk,Tm.G,OW,Ty.cnt,zL]
   simp only[Tm.sub];split
   ·split
    ·exact U
    ·exact⟨Y,h2,h3,h4⟩
   ·split
    ·refine⟨Y,h2,by simpa using h3,DF λy J=>?_⟩;obtain⟨z,hz,rfl⟩:=oP.1 J;exact I z x b (zh h4 hz) U
    ·rename_i aa;obtain⟨g1,g2⟩:=yM aa;have O:=zh h4 (oB (zH g1));have key:∀ v:Tm,v.G->OW ((l.map λt=>Tm.sub f t x b).set (zN k l.length).toNat v):=λv hv=>DF λy J=>by
      rcases oe J with J | rfl
      ·obtain⟨z,hz,rfl⟩:=oP.1 J;exact I z x b (zh h4 hz) U
      ·exact hv
     split
     ·exact⟨Y,h2,by simpa using h3,key _ O⟩
     ·refine⟨Y,h2,by simpa using h3,key _ (I _ x b ?_ U)⟩;have r1:∀(old:ByteArray) (s:ByteArray × ByteArray × Tm),s.2.2.G->(rn1 (Tm.sub f) k l.length b.fv x old s).2.2.G:=λold s hs=>by
       unfold rn1;split
       ·split
        ·exact I _ _ _ hs (vG _)
        ·exact I _ _ _ hs (vG _)
       ·exact hs
      have rs:∀(ns:List ByteArray) (s:ByteArray × ByteArray × Tm),s.2.2.G->(rns (Tm.sub f) k l.length b.fv x ns s).2.2.G:=by
       intro ns
       induction ns with
       | nil=>exact λs hs=>hs
       | cons o os ab=>exact λs hs=>ab _ (r1 o s hs)
      exact rs _ _ O
theorem Sp:∀(f:Nat)(t:Tm)(x:ByteArray)(b:Tm),t.V->b.V->(t.sub f x b).V
 | 0,t,x,b,h,_=>by simp only[Tm.sub];exact h
 | f + 1,.mk k nm ot n ty re l,x,b,h,Y=>by
   have ih:=Sp f;obtain⟨h1,J⟩:=h;have J:=uR.1 J;simp only[Tm.sub];split
   ·split
    ·exact Y
    ·exact⟨h1,uR.2 J⟩
   ·rename_i hk;have I:∀ l':List Tm,k=1->l'=[]:=λ_ hc=>absurd hc hk;split
    ·refine⟨I _,uR.2 λy O=>?_⟩;obtain⟨z,hz,rfl⟩:=oP.1 O;exact ih z x b (J z hz) Y
    ·rename_i aa;obtain⟨g1,g2⟩:=yM aa;have U:=J _ (oB (zH g1));have key:∀ v:Tm,v.V->Uy ((l.map λt=>Tm.sub f t x b).set (zN k l.length).toNat v):=λv hv=>uR.2 λy O=>by
      rcases oe O with O | rfl
      ·obtain⟨z,hz,rfl⟩:=oP.1 O;exact ih z x b (J z hz) Y
      ·exact hv
     split
     ·exact⟨I _,key _ U⟩
     ·exact⟨I _,key _ (ih _ x b ((ut (yJ f) _ _ _ _ _ _).v U) Y)⟩
theorem E1 {g:Tm->Tm}{m:Nat}:∀ {l:List Tm},(∀ t∈l,(g t).vc<=t.vc*m)->uB (l.map g)<=uB l*m
 | [],_=>by simp[uB]
 | t::l,h=>by have J:=E1 (l:=l) λx I=>h x (by simp[I]);have O:=h t (by simp);simp only[oh,uB,nD];omega
theorem Ge {g:Tm->Tm}{m:Nat}{v:Tm}:∀ {l:List Tm}{j:Nat},(∀ t∈l,(g t).vc<=t.vc*m)->(∀ t,l[j]?=some t->v.vc<=t.vc*m)->uB ((l.map g).set j v)<=uB l*m
 | [],_,_,_=>by simp[uB]
 | t::l,0,h,J=>by have O:=E1 (l:=l) λx I=>h x (by simp[I]);have U:=J t rfl;simp only[oh,mT,uB,nD];omega
 | t::l,j+1,h,J=>by have O:=Ge (l:=l) (j:=j) (v:=v) (λx I=>h x (by simp[I])) λx I=>J x (by simpa using I);have U:=h t (by simp);simp only[oh,ma,uB,nD];omega
theorem Uq:∀(f:Nat)(t:Tm)(x:ByteArray)(b:Tm),(t.sub f x b).vc<=t.vc*(b.vc+1)
 | 0,t,x,b=>by simp only[Tm.sub];exact mL _ (by omega)
 | f + 1,.mk k nm ot n ty re l,x,b=>by
   have O:=Uq f;simp only[Tm.sub];split
   ·rename_i I;split
    ·simp only[Tm.vc,if_pos I];omega
    ·exact mL _ (by omega)
   ·rename_i I;split
    ·simp only[Tm.vc,if_neg I];exact E1 λt _=>O t x b
    ·rename_i U;obtain⟨Y,g2⟩:=yM U;split
     ·simp only[Tm.vc,if_neg I];refine Ge (λt _=>O t x b) λt J=>?_;rw[zH Y]at J;rw[<-oT J];exact mL _ (by omega)
     ·simp only[Tm.vc,if_neg I];refine Ge (λt _=>O t x b) λt J=>?_;rw[zH Y]at J;rw[<-oT J];exact oL (O _ x b) (od _ (ut (yJ f) _ _ _ _ _ _).c)
theorem DG {k:Int}{nm ot:ByteArray}{n:Nat}{z:ByteArray}:z∈bdN k nm ot n↔(k=6/\n=1\/k=8/\n=2\/k=9/\n=1)/\z=nm\/(k=9/\n=1)/\z=ot:=by
 unfold bdN;by_cases I:k=6/\n=1
 ·rw[if_pos I];simp[I.1,I.2]
 ·rw[if_neg I];by_cases J:k=8/\n=2
  ·rw[if_pos J];simp[J.1,J.2]
  ·rw[if_neg J];by_cases O:k=9/\n=1
   ·rw[if_pos O];simp[O.1,O.2]
   ·rw[if_neg O];simp[I,J,O]
def FvS (f:Nat):Prop:=∀(t:Tm) (x:ByteArray) (b:Tm),t.dp<=f->∀ s∈(t.sub f x b).fv,(s∈t.fv/\s≠x)\/(s∈b.fv/\x∈t.fv)
theorem Rr {f:Nat} (hS:FvS f) {k:Int} {n:Nat} {fb:List ByteArray} {x old:ByteArray} {s:ByteArray × ByteArray × Tm} (hd:s.2.2.dp<=f) (hk:k=6/\n=1\/k=8/\n=2\/k=9/\n=1) (J:old=s.1\/(k=9/\n=1)/\old=s.2.1) :
  ∀ z∈(rn1 (Tm.sub f) k n fb x old s).2.2.fv,z∉bdN k (rn1 (Tm.sub f) k n fb x old s).1 (rn1 (Tm.sub f) k n fb x old s).2.1 n->z∈s.2.2.fv/\z∉bdN k s.1 s.2.1 n:=by
 intro z;unfold rn1;by_cases h1:old∈fb
 ·rw [if_pos h1];by_cases U:s.1=old
  ·rw[if_pos U];simp only;intro O I;rcases hS _ _ _ hd z O with⟨a1,a2⟩ | ⟨a1,_⟩
   ·refine⟨a1,λhc=>?_⟩;rcases DG.1 hc with⟨_,c1⟩ | ⟨Y,c1⟩
    ·exact a2 (c1.trans U)
    ·exact I (DG.2 (.inr ⟨Y,c1⟩))
   ·rw[A9,oV]at a1;exact absurd (DG.2 (.inl ⟨hk,a1⟩)) I
  ·rw[if_neg U];simp only;intro O I;rcases J with J | ⟨h9,J⟩
   ·exact absurd J.symm U
   ·rcases hS _ _ _ hd z O with⟨a1,a2⟩ | ⟨a1,_⟩
    ·refine⟨a1,λhc=>?_⟩;rcases DG.1 hc with⟨Y,c1⟩ | ⟨_,c1⟩
     ·exact I (DG.2 (.inl ⟨Y,c1⟩))
     ·exact a2 (c1.trans J.symm)
    ·rw[A9,oV]at a1;exact absurd (DG.2 (.inr ⟨h9,a1⟩)) I
 ·rw[if_neg h1];exact λO I=>⟨O,I⟩
theorem Vs {S:Tm->ByteArray->Tm->Tm}{k:Int}{n:Nat}{fb:List ByteArray}{x:ByteArray}{s:ByteArray × ByteArray × Tm}:(rn1 S k n fb x s.1 s).2.1=s.2.1:=by
 unfold rn1;split
 ·rw[if_pos rfl]
 ·rfl
theorem WE {f:Nat} (hS:FvS f) {k:Int} {n:Nat} {fb:List ByteArray} {x nm ot:ByteArray} {p:Tm} (hd:p.dp<=f) (J:k=6/\n=1\/k=8/\n=2\/k=9/\n=1) :
  ∀ z∈(rns (Tm.sub f) k n fb x (bdN k nm ot n) (nm,ot,p)).2.2.fv,z∉bdN k (rns (Tm.sub f) k n fb x (bdN k nm ot n) (nm,ot,p)).1 (rns (Tm.sub f) k n fb x (bdN k nm ot n) (nm,ot,p)).2.1 n->z∈p.fv/\z∉bdN k nm ot n:=by
 have one:=Rr hS (fb:=fb) (x:=x) (old:=nm) (s:=(nm,ot,p)) hd J (.inl rfl);by_cases I:k=9/\n=1
 ·have e:bdN k nm ot n=[nm,ot]:=by rw[I.1,I.2];rfl
  intro z;rw[e];simp only[rns];have O:(rn1 (Tm.sub f) k n fb x nm (nm,ot,p)).2.2.dp<=f:=oL (qm (yJ f) k n fb x nm (nm,ot,p)).d hd;have U:=Rr hS (fb:=fb) (x:=x) (old:=ot) (s:=rn1 (Tm.sub f) k n fb x nm (nm,ot,p)) O J (.inr ⟨I,(Vs (s:=(nm,ot,p))).symm⟩);intro Y hn;obtain⟨a1,a2⟩:=U z Y hn
  have:=one z a1 a2
  rwa[e]at this
 ·have e:bdN k nm ot n=[nm]:=by
   unfold bdN;by_cases h6:k=6/\n=1
   ·rw[if_pos h6]
   ·rw[if_neg h6,if_pos (by rcases J with h | h | h;exact absurd h h6;exact h;exact absurd h I)]
  intro z;rw[e];simp only[rns];intro Y hn
  have:=one z Y hn
  rwa[e]at this
theorem Qf {k:Int}{n:Nat}(h:¬zN k n<0):k=6/\n=1\/k=8/\n=2\/k=9/\n=1:=by
 rcases xT k n with J | ⟨J,I,h3 | h3⟩ | ⟨J,I,h3⟩
 ·omega
 ·exact .inl ⟨h3,I⟩
 ·exact .inr (.inr ⟨h3,I⟩)
 ·exact .inr (.inl ⟨h3,I⟩)
theorem HA {k:Int}(I:k≠1){nm ot:ByteArray}{n:Int}{ty re:Ty}{l:List Tm}{j:Nat}{p:Tm}{s:ByteArray}(J:l[j]?=some p)(hs:s∈fvI (zN k l.length) (bdN k nm ot l.length) j p):s∈(Tm.mk k nm ot n ty re l).fv:=
 Tm.fv_mem.2 (.inr ⟨I,j,p,J,hs⟩)
theorem vz {at_:Int}{ns:List ByteArray}{i:Nat}{x:Tm}(h:(i:Int)≠at_):fvI at_ ns i x=x.fv:=if_neg h
theorem Bv {at_:Int}{ns:List ByteArray}{i:Nat}{x:Tm}(h:(i:Int)=at_):fvI at_ ns i x=sG ns x.fv:=if_pos h
theorem Hr:∀ f,FvS f
 | 0=>λt x b hd=>absurd (Tm.dp_pos t) (by omega)
 | f + 1 => λt x b hd s=>by
   have ih:=Hr f;cases t with
   | mk k nm ot n ty re l=>
   simp only[Tm.dp]at hd;have hp:∀ y∈l,y.dp<=f:=λy I=>oL (tG I) (by omega);simp only[Tm.sub];split
   ·rename_i J;split
    ·rename_i hn;intro hs;exact .inr ⟨hs,by simp[Tm.fv,J,hn]⟩
    ·rename_i hn;intro hs;simp only[Tm.fv,if_pos J,oV]at hs ⊢;exact .inl ⟨hs,λhc=>hn (hs ▸ hc)⟩
   ·rename_i J;split
    ·rename_i hb;intro hs;rcases Tm.fv_mem.1 hs with⟨h,_⟩ | ⟨_,j,y,O,I⟩
     ·exact absurd h J
     ·rw[oW,vz (by omega)]at I;rw[oE]at O;obtain⟨z,hz,rfl⟩:=mv.1 O;have hm:=oB hz;rcases ih z x b (hp z hm) s I with⟨a1,a2⟩ | ⟨a1,a2⟩
      ·exact .inl ⟨HA J hz (by rw[vz (by omega)];exact a1),a2⟩
      ·exact .inr ⟨a1,HA J hz (by rw[vz (by omega)];exact a2)⟩
    ·rename_i hb;obtain⟨g1,g2⟩:=yM hb;have U:=zH g1;have ah:=Qf hb;have aa:∀(v:Tm) (j:Nat) (y:Tm),j≠(zN k l.length).toNat->((l.map λt=>Tm.sub f t x b).set (zN k l.length).toNat v)[j]?=some y->s∈y.fv->(s∈(Tm.mk k nm ot n ty re l).fv/\s≠x)\/(s∈b.fv/\x∈(Tm.mk k nm ot n ty re l).fv):=by
      intro v j y ak O I;rw[om (by omega),oE]at O;obtain⟨z,hz,rfl⟩:=mv.1 O;have hm:=oB hz;rcases ih z x b (hp z hm) s I with⟨a1,a2⟩ | ⟨a1,a2⟩
      ·exact .inl ⟨HA J hz (by rw[vz (by omega)];exact a1),a2⟩
      ·exact .inr ⟨a1,HA J hz (by rw[vz (by omega)];exact a2)⟩
     split
     ·rename_i hx;intro hs;rcases Tm.fv_mem.1 hs with⟨h,_⟩ | ⟨_,j,y,O,I⟩
      ·exact absurd h J
      ·rw[nU,oW]at I;by_cases Y:j=(zN k l.length).toNat
       ·subst Y;rw[oi (by simpa using g1)]at O;cases O;refine .inl ⟨HA J U I,?_⟩;rw[Bv g2,yD]at I
        rintro rfl
        rcases hx with hx | hx
        ·exact I.2 hx
        ·exact hx I.1
       ·rw[vz (by omega)]at I;exact aa _ j y Y O I
     ·rename_i hx;have ai:x∉bdN k nm ot l.length:=λh=>hx (.inl h);have ab:x∈(l.getD (zN k l.length).toNat tm0).fv:=mO.1 λh=>hx (.inr h);generalize l.getD (zN k l.length).toNat tm0=p at U ab;have ac:=hp p (oB U);have hR:=WE ih (fb:=b.fv) (x:=x) (nm:=nm) (ot:=ot) ac ah;have ae:=ut (yJ f) k l.length b.fv x (bdN k nm ot l.length) (nm,ot,p);generalize rns (Tm.sub f) k l.length b.fv x (bdN k nm ot l.length) (nm,ot,p)=T at hR ae;have aj:T.2.2.dp<=f:=oL ae.d ac;intro hs;rcases Tm.fv_mem.1 hs with⟨h,_⟩ | ⟨_,j,y,O,I⟩
      ·exact absurd h J
      ·rw[nU,oW]at I;by_cases Y:j=(zN k l.length).toNat
       ·subst Y;rw[oi (by simpa using g1)]at O;cases O;rw[Bv g2,yD]at I;rcases ih T.2.2 x b aj s I.1 with⟨a1,a2⟩ | ⟨a1,_⟩
        ·obtain⟨c1,c2⟩:=hR s a1 I.2;exact .inl ⟨HA J U (by rw[Bv g2];exact yD.2 ⟨c1,c2⟩),a2⟩
        ·exact .inr ⟨a1,HA J U (by rw[Bv g2];exact yD.2 ⟨ab,ai⟩)⟩
       ·rw[vz (by omega)]at I;exact aa _ j y Y O I
theorem QL {f:Nat}{t:Tm}{x y:ByteArray}(hd:t.dp<=f):(t.sub f x (xk y)).fv.length<=t.fv.length:=by
 by_cases I:x∈t.fv
 ·have J:=DL (Tm.fv_nodup (t.sub f x (xk y))) (m:=y::t.fv.filter λz=>decide (z≠x)) λs hs=>by
   rcases Hr f t x (xk y) hd s hs with⟨a1,a2⟩ | ⟨a1,_⟩
   ·exact nw _ (mJ.2 ⟨a1,by simp[a2]⟩)
   ·rw[A9,oV]at a1;rw[a1];exact ny
  have O:=my (p:=λz=>decide (z≠x)).2 ⟨x,I,by simp⟩;simp only[oO]at J;omega
 ·rw[Ez f t x _ I];exact oC _
theorem R9 {f:Nat}{t:Tm}{x:ByteArray}{b:Tm}(hd:t.dp<=f):(t.sub f x b).fv.length<=t.fv.length+b.fv.length:=by
 have I:=DL (Tm.fv_nodup (t.sub f x b)) (m:=t.fv++b.fv) λs hs=>by
  rcases Hr f t x b hd s hs with⟨a1,_⟩ | ⟨a1,_⟩
  ·exact oq _ a1
  ·exact nP _ a1
 simpa using I
structure LeW (t' t:Tm):Prop where
 le:LeT t' t
 w:t'.wd<=t.wd
 l:t'.fv.length<=t.fv.length
theorem LeW.rfl {t:Tm}:LeW t t:=⟨LeT.rfl,oC _,oC _⟩
theorem LeW.trans {a b c:Tm}(h:LeW a b)(I:LeW b c):LeW a c:=⟨h.le.trans I.le,oL h.w I.w,oL h.l I.l⟩
theorem Qh {m n:Nat}:∀ {l' l:List Tm},l'.length=l.length->(∀(i:Nat)(t' t:Tm),l'[i]?=some t'->l[i]?=some t->t'.wd<=t.wd+n/\t'.fv.length<=t.fv.length+m)->A5 l'<=A5 l+n/\rE l'<=rE l+l.length*m
 | [],[],_,_=>⟨by simp[A5],by simp[rE]⟩
 | [],_::_,h,_=>by simp at h
 | _::_,[],h,_=>by simp at h
 | t'::I,t::O,h,J=>by obtain⟨h1,h2⟩:=Qh (m:=m) (n:=n) (l':=I) (l:=O) (by simpa using h) λi a b U Y=>J (i+1) a b (by simpa using U) (by simpa using Y);obtain⟨h3,h4⟩:=J 0 t' t (by simp) (by simp);refine⟨by simp only[A5];omega,?_⟩;simp only[rE,oO,nD];omega
theorem WY {f:Nat}(I:∀ t x y,t.dp<=f->LeW (t.sub f x (xk y)) t)(k:Int)(n:Nat)(fb:List ByteArray)(x old:ByteArray)(s:ByteArray × ByteArray × Tm)(hd:s.2.2.dp<=f):LeW (rn1 (Tm.sub f) k n fb x old s).2.2 s.2.2:=by
 unfold rn1;split
 ·split
  ·exact I _ _ _ hd
  ·exact I _ _ _ hd
 ·exact LeW.rfl
theorem ND {f:Nat}(I:∀ t x y,t.dp<=f->LeW (t.sub f x (xk y)) t)(k:Int)(n:Nat)(fb:List ByteArray)(x:ByteArray):∀(l:List ByteArray)(s:ByteArray × ByteArray × Tm),s.2.2.dp<=f->LeW (rns (Tm.sub f) k n fb x l s).2.2 s.2.2
 | [],s,_=>LeW.rfl
 | old::l,s,hd=>by have J:=WY I k n fb x old s hd;exact(ND I k n fb x l _ (oL J.le.d hd)).trans J
theorem SA {P:Tm->Prop}{f:Nat}(I:∀ t x y,P t->P (t.sub f x (xk y)))(k:Int)(n:Nat)(fb:List ByteArray)(x:ByteArray):∀(l:List ByteArray)(s:ByteArray × ByteArray × Tm),P s.2.2->P (rns (Tm.sub f) k n fb x l s).2.2
 | [],s,h=>h
 | old::l,s,h=>by
   refine SA I k n fb x l _ ?_;unfold rn1;split
   ·split
    ·exact I _ _ _ h
    ·exact I _ _ _ h
   ·exact h
theorem Qn {P:Tm->Prop} {f:Nat} (hP:∀ t x y,P t->P (t.sub f x (xk y))) {x:ByteArray} {b:Tm} {m n:Nat} (ab:∀ t:Tm,t.dp<=f->P t->(t.sub f x b).wd<=t.wd+n/\(t.sub f x b).fv.length<=t.fv.length+m) (hv:∀ t x y,t.dp<=f->LeW (t.sub f x (xk y)) t)
  {k:Int} {nm ot:ByteArray} {n0:Int} {ty re:Ty} {l:List Tm} (hk:k≠1) (hd:∀ y∈l,y.dp<=f) (hp:∀ y∈l,P y):((Tm.mk k nm ot n0 ty re l).sub (f+1) x b).wd<=max (rE l+l.length*m) (A5 l+n):=by
 have fin:∀(ac ae:ByteArray) (l':List Tm),l'.length=l.length->(∀(i:Nat) (t' t:Tm),l'[i]?=some t'->l[i]?=some t->t'.wd<=t.wd+n/\t'.fv.length<=t.fv.length+m)->(Tm.mk k ac ae n0 ty re l').wd<=max (rE l+l.length*m) (A5 l+n):=λac ae l' Y O=>by obtain⟨a1,a2⟩:=Qh Y O;simp only[Tm.wd,if_neg hk];omega
 have at_:∀ {i:Nat} {t:Tm},l[i]?=some t->(t.sub f x b).wd<=t.wd+n/\(t.sub f x b).fv.length<=t.fv.length+m:=λh=>ab _ (hd _ (oB h)) (hp _ (oB h));simp only[Tm.sub];rw[if_neg hk];split
 ·refine fin _ _ _ (by simp) λi t' t I J=>?_;rw[oE,J]at I;cases I;exact at_ J
 ·rename_i hb;obtain⟨g1,g2⟩:=yM hb;have U:=zH g1;split
  ·refine fin _ _ _ (by simp) λi t' t I J=>?_;rcases pK I J with⟨Y,O⟩ | ⟨Y,O⟩
   ·rw[Y,U]at J;rw[O,<-oT J];exact⟨by omega,by omega⟩
   ·rw[O];exact at_ J
  ·have ah:=hd _ (oB U);have aa:=ND hv k l.length b.fv x (bdN k nm ot l.length) (nm,ot,l.getD (zN k l.length).toNat tm0) ah;refine fin _ _ _ (by simp) λi t' t I J=>?_;rcases pK I J with⟨Y,O⟩ | ⟨Y,O⟩
   ·rw[Y,U]at J;rw[O,<-oT J];obtain⟨c1,c2⟩:=ab _ (oL aa.le.d ah) (SA hP _ _ _ _ _ _ (hp _ (oB U)));have w1:(rns (Tm.sub f) k l.length b.fv x (bdN k nm ot l.length) (nm,ot,l.getD (zN k l.length).toNat tm0)).2.2.wd<=(l.getD (zN k l.length).toNat tm0).wd:=aa.w;have w2:(rns (Tm.sub f) k l.length b.fv x (bdN k nm ot l.length) (nm,ot,l.getD (zN k l.length).toNat tm0)).2.2.fv.length<=(l.getD (zN k l.length).toNat tm0).fv.length:=aa.l;exact⟨by omega,by omega⟩
   ·rw[O];exact at_ J
theorem pP:∀(f:Nat)(t:Tm)(x y:ByteArray),t.dp<=f->LeW (t.sub f x (xk y)) t
 | 0,t,x,y,h=>absurd (Tm.dp_pos t) (by omega)
 | f+1,.mk k nm ot n ty re l,x,y,h=>by
   refine⟨yJ _ _ _ _,?_,QL h⟩;simp only[Tm.dp]at h;have J:r8 l<=f:=by omega
   by_cases I:k=1
   ·simp only[Tm.sub,if_pos I];split
    ·simp[xk,Tm.wd,I]
    ·exact oC _
   ·have:=Qn (P:=λ_=>True) (λ_ _ _ _=>trivial) (m:=0) (n:=0) (λt O _=>⟨(pP f t x y O).w,(pP f t x y O).l⟩) (pP f) (nm:=nm) (ot:=ot) (n0:=n) (ty:=ty) (re:=re) I (λz U=>oL (tG U) J) λ_ _=>trivial
    simp only[Tm.wd,if_neg I];omega
mutual
def Tm.A3:Tm->Prop
 | .mk _ _ _ _ _ _ l=>l.length<=3/\LJ l
def LJ:List Tm->Prop
 | []=>True
 | t::I=>t.A3/\LJ I
end
theorem tu:∀ {l:List Tm},LJ l↔∀ x∈l,x.A3
 | []=>by simp[LJ]
 | t::I=>by simp only[LJ,tu (l:=I),oF,nT]
theorem Uu:∀(f:Nat) (t:Tm) (x:ByteArray) (b:Tm),t.A3->b.A3->(t.sub f x b).A3
 | 0,t,x,b,h,_=>by simp only[Tm.sub];exact h
 | f + 1,.mk k nm ot n ty re l,x,b,h,Y=>by
   have J:=Uu f;obtain⟨h1,I⟩:=h;have I:=tu.1 I;have vA:∀ y,(xk y).A3:=λy=>by simp[xk,Tm.A3,LJ]
   simp only[Tm.sub];split
   ·split
    ·exact Y
    ·exact⟨h1,tu.2 I⟩
   ·split
    ·refine⟨by simpa using h1,tu.2 λy O=>?_⟩;obtain⟨z,hz,rfl⟩:=oP.1 O;exact J z x b (I z hz) Y
    ·rename_i aa;obtain⟨g1,g2⟩:=yM aa;have U:=I _ (oB (zH g1));have key:∀ v:Tm,v.A3->LJ ((l.map λt=>Tm.sub f t x b).set (zN k l.length).toNat v):=λv hv=>tu.2 λy O=>by
      rcases oe O with O | rfl
      ·obtain⟨z,hz,rfl⟩:=oP.1 O;exact J z x b (I z hz) Y
      ·exact hv
     split
     ·exact⟨by simpa using h1,key _ U⟩
     ·refine⟨by simpa using h1,key _ (J _ x b ?_ Y)⟩;have r1:∀(old:ByteArray) (s:ByteArray × ByteArray × Tm),s.2.2.A3->(rn1 (Tm.sub f) k l.length b.fv x old s).2.2.A3:=λold s hs=>by
       unfold rn1;split
       ·split
        ·exact J _ _ _ hs (vA _)
        ·exact J _ _ _ hs (vA _)
       ·exact hs
      have rs:∀(ns:List ByteArray) (s:ByteArray × ByteArray × Tm),s.2.2.A3->(rns (Tm.sub f) k l.length b.fv x ns s).2.2.A3:=by
       intro ns
       induction ns with
       | nil=>exact λs hs=>hs
       | cons o os ab=>exact λs hs=>ab _ (r1 o s hs)
      exact rs _ _ U
theorem VE:∀(f:Nat)(t:Tm)(x:ByteArray)(b:Tm),t.dp<=f->t.A3->(t.sub f x b).wd<=t.wd+(3*b.fv.length+b.wd)
 | 0,t,x,b,h,_=>absurd (Tm.dp_pos t) (by omega)
 | f+1,.mk k nm ot n ty re l,x,b,h,ha=>by
   obtain⟨h1,J⟩:=ha;have J:=tu.1 J;simp only[Tm.dp]at h;have O:r8 l<=f:=by omega
   by_cases U:k=1
   ·simp only[Tm.sub,if_pos U];split
    ·omega
    ·omega
   ·have:=Qn (P:=Tm.A3) (λt x y I=>Uu f t x _ I (by simp[xk,Tm.A3,LJ])) (m:=b.fv.length) (n:=3*b.fv.length+b.wd) (λt I Y=>⟨VE f t x b I Y,R9 I⟩) (pP f) (nm:=nm) (ot:=ot) (n0:=n) (ty:=ty) (re:=re) U (λz hz=>oL (tG hz) O) J
    have h3:l.length*b.fv.length<=3*b.fv.length:=od _ h1;simp only[Tm.wd,if_neg U];omega
structure Tm.Z (t:Tm):Prop where
 g:t.G
 c:t.wd<=2199023255552
 v:t.V
theorem Tm.Z.mem {k:Int}{nm ot:ByteArray}{n:Int}{ty re:Ty}{l:List Tm}(h:(Tm.mk k nm ot n ty re l).Z):∀ y∈l,y.Z:=λy I=>by
 have hc:=h.c
 have:=pi I
 simp only[Tm.wd]at hc;split at hc
 ·rename_i J;rw[h.v.1 J]at I;simp at I
 ·exact⟨zh h.g.2.2.2 I,by omega,uR.1 h.v.2 y I⟩
theorem LeW.z {t' t:Tm}(h:LeW t' t)(I:t.Z):t'.Z:=⟨h.le.g I.g,oL h.w I.c,h.le.v I.v⟩
theorem VB (s:ByteArray):(xk s).Z:=⟨by simp[xk,Tm.G,OW,Ty.cnt,zL],by simp only[xk,Tm.wd,mU];omega,λ_=>rfl,trivial⟩
theorem LB:∀ {l:List D}{j:Nat}{x:D}{b:Nat},b∈zI (l.set j x)->b∈zI l\/b∈x.foot
 | [],j,x,b,h=>by simp[zI]at h
 | a::l,0,x,b,h=>by
   simp only[mT,zI,oK]at h ⊢;rcases h with h | h
   ·exact .inr h
   ·exact .inl (.inr h)
 | a::l,j+1,x,b,h=>by
   simp only[ma,zI,oK]at h ⊢;rcases h with h | h
   ·exact .inl (.inl h)
   ·rcases LB h with h | h
    ·exact .inl (.inr h)
    ·exact .inr h
theorem OU {N N1 N2 N3:Nat}{x:D}(I:Own N2 N3 x)(h1:N<=N2)(h2:N1<=N2)(h3:N2<=N3):∀ {l:List D}{j:Nat},OwnL N N1 l->OwnL N N3 (l.set j x)
 | [],j,h=>by simp only[List.set_nil];exact h.mono (oC _) (by omega)
 | a::l,0,h=>by
   have J:=h.nd;simp only[zI,nX]at J;simp only[mT];refine⟨?_,⟨I.fl,h.fl.2⟩,λb hb=>?_,λb hb=>?_⟩
   ·simp only[zI,nX];refine⟨I.nd,J.2.1,λu U v hv O=>?_⟩
    have:=I.lo u U
    have:=h.hi v (by simp only[zI,oK];exact .inr hv)
    omega
   ·simp only[zI,oK]at hb;rcases hb with hb | hb
    ·have:=I.lo b hb;omega
    ·exact h.lo b (by simp only[zI,oK];exact .inr hb)
   ·simp only[zI,oK]at hb;rcases hb with hb | hb
    ·exact I.hi b hb
    ·have:=h.hi b (by simp only[zI,oK];exact .inr hb);omega
 | a :: l,j+1,h=>by
   have J:=h.nd;simp only[zI,nX]at J;have hl:OwnL N N1 l:=⟨J.2.1,h.fl.2,λb hb=>h.lo b (by simp only[zI,oK];exact .inr hb),λb hb=>h.hi b (by simp only[zI,oK];exact .inr hb)⟩
   have Y:=OU I h1 h2 h3 (l:=l) (j:=j) hl;simp only[ma];refine⟨?_,⟨h.fl.1,Y.fl⟩,λb hb=>?_,λb hb=>?_⟩
   ·simp only[zI,nX];refine⟨J.1,Y.nd,λu U v hv O=>?_⟩;rcases LB hv with hv | hv
    ·exact J.2.2 u U v hv O
    ·have:=I.lo v hv
     have:=h.hi u (by simp only[zI,oK];exact .inl U)
     omega
   ·simp only[zI,oK]at hb;rcases hb with hb | hb
    ·exact h.lo b (by simp only[zI,oK];exact .inl hb)
    ·exact Y.lo b hb
   ·simp only[zI,oK]at hb;rcases hb with hb | hb
    ·have:=h.hi b (by simp only[zI,oK];exact .inl hb);omega
    ·exact Y.hi b hb
theorem qy {N N1 N2 I:Nat}{x J O U Y:D}{es:List D}{j:Nat}(h:OwnL N N1 ([J,O,U,Y]++es))(hx:Own N2 I x)(h1:N<=N2)(h2:N1<=N2)(h3:N2<=I):OwnL N I ([J,O,U,Y]++es.set j x):=
 OU hx h1 h2 h3 (l:=[J,O,U,Y]++es) (j:=j+4) h
theorem C2:∀ {u v:List D},wW (u++v)->wW u/\wW v
 | [],v,h=>⟨trivial,h⟩
 | x::u,v,h=>⟨⟨h.1,(C2 h.2).1⟩,(C2 h.2).2⟩
theorem TB {N0 N1 Y:Nat}{hd es ds:List D}{a:Option Addr}{z c:Nat}(h:OwnL N0 N1 (hd++es))(J:Fresh N0 Y a (.ag es::(hd++ds)))(hN:N1<=Y):OwnL N0 Y (hd++[.sl a z es c]):=by
 obtain⟨aa,ab⟩:=C2 h.fl;have U:=h.nd;rw[zJ,nX]at U;have e:zI (hd++[D.sl a z es c])=zI hd++(D.sl a z es c).foot:=by simp only[zJ,zI,nH]
 have hE:∀ ad,a=some ad->ad.block∉zI es:=λad h=>J.ap ad h (.ag es) (by simp);have hH:∀ ad,a=some ad->ad.block∉zI hd:=λad h hc=>by obtain⟨d,ac,hb⟩:=zQ.1 hc;exact J.ap ad h d (by simp[ac]) hb
 refine⟨?_,xL aa ⟨⟨λad h=>J.off ad h,ab⟩,trivial⟩,λb hb=>?_,λb hb=>?_⟩
 ·rw[e,nX];refine⟨U.1,NO U.2.1 hE,λx hx y hy ae=>?_⟩;subst ae;rcases tg x hy with I | ⟨ad,I,O⟩
  ·exact U.2.2 x hx x I rfl
  ·subst O;exact hH ad I hx
 ·rw[e]at hb;rcases oK.1 hb with hb | hb
  ·exact h.lo b (by rw[zJ];exact oq _ hb)
  ·rcases tg b hb with I | ⟨ad,I,O⟩
   ·exact h.lo b (by rw[zJ];exact nP _ I)
   ·subst O;exact J.lo ad I
 ·rw[e]at hb;rcases oK.1 hb with hb | hb
  ·have:=h.hi b (by rw[zJ];exact oq _ hb);omega
  ·rcases tg b hb with I | ⟨ad,I,O⟩
   ·have:=h.hi b (by rw[zJ];exact nP _ I);omega
   ·subst O;exact J.hi ad I
theorem rk {N N1 N2:Nat}{v0 v1 v2 v3:Value}{I J O U:D}{es:List D}{a:Option Addr}{c:Nat}(h:OwnL N N1 ([I,J,O,U]++es))(Y:Fresh N N2 a [.ag es,I,J,O,U])(hN:N1<=N2):Own N N2 (.ag [.lit v0,.lit v1,.lit v2,.lit v3,I,J,O,U,.sl a 9 es c]):=
 IW (xa (xa (xa (xa (TB (hd:=[I,J,O,U]) (ds:=[]) h Y hN)))))
theorem sM {α:Type}{R:α->D->Prop}:∀ {l:List α}{es:List D}{t:α}{d:D}{j:Nat},All2 R l es->R t d->All2 R (l.set j t) (es.set j d)
 | [],es,t,d,j,h,_=>by cases h;exact rfl
 | x::l,es,t,d,0,h,I=>by obtain⟨y,ys,rfl,O,J⟩:=h;exact⟨_,_,rfl,I,J⟩
 | x::l,es,t,d,j+1,h,I=>by obtain⟨y,ys,rfl,O,J⟩:=h;exact⟨_,_,rfl,O,sM J I⟩
theorem Mr {α:Type}{T l:List α}{i:Nat}{t:α}(O:T.length=l.length)(hi:i<l.length)(I:T[i]?=some t):(T.take i++l.drop i).set i t=T.take (i+1)++l.drop (i+1):=by
 have J:(T.take i).length=i:=by rw[nF];omega
 rw[lJ _ _ (by omega),J,Nat.sub_self,mf hi,mT,wj I,mD];rfl
theorem Nh {α:Type}{T l:List α}{i:Nat}{t:α}(hi:i<l.length)(I:l[i]?=some t)(J:T[i]?=some t):T.take i++l.drop i=T.take (i+1)++l.drop (i+1):=by rw[mf hi,wj J,mD];rw[oI hi]at I;rw[oT I];rfl
theorem zO {l:List Tm}{es:List D}(h:All2 Tm.Is l es){j:Nat}(I:j<l.length):(l.getD j tm0).Is (es.getD j default):=by
 have:=h.get (zH I)
 exact this
def TF (f:FuncId)(args:List PV)(t:Tm):Prop:=∀(N:Nat) (Q:QT [.ag 9]),(∀ d N',N<=N'->t.Is d->Own N N' d->Q d N')->ACalls prog f [.ag 9] args N Q
def Wh (F:FuncId)(f:Nat):Prop:=∀(e:Tm) (d:D) (x:ByteArray) (b:Tm) (I:D),e.Is d->b.Is I->e.dp<=f->e.Z->b.Z->TF F [.dg 9 d,.str x,.dg 9 I] (e.sub f x b)
theorem Px {s:ByteArray}(hs:s.size<=4611686018427387904):(xk s).Is (.ag [.j 1,.t s,.t (bytes []),.j 0,.j 0,.sl none 2 [] 0,.j 0,.sl none 2 [] 0,.sl none 9 [] 0]):=
 Tm.is_mk.2 ⟨_,_,_,_,_,_,_,rfl,⟨hs,by decide,Ty.is_mk.2 ⟨_,_,_,rfl,by simp,rfl⟩,Ty.is_mk.2 ⟨_,_,_,rfl,by simp,rfl⟩⟩,by simp,rfl⟩
theorem IP {l:List ByteArray}(h:l.length<=8796093022208):(fresh l).size<=4611686018427387904:=by
 obtain⟨k,e,_,I,_,_⟩:=rR l;rw[e]
 have:=PQ k (by omega)
 omega
theorem SW {f:Nat} (hS:Wh 92 f) {k n0:Int} {nm ot:ByteArray} {ty re:Ty} {l:List Tm} {d:D} (hd:(Tm.mk k nm ot n0 ty re l).Is d) (hG:(Tm.mk k nm ot n0 ty re l).G) {n j:Nat} (hn:l.length=n) (am:zN k n=(j:Int))
  {p:Tm} (hp:l.getD j tm0=p) (ao:p.dp<=f) (hc:p.Z) (old x:ByteArray) (fb:List ByteArray) (bv:fb.length<=2199023255552) (a:Option Addr) (c:Nat) {I:ByteArray} (Y:fresh (fb++(p.fv++([x]++bdN k nm ot n)))=I) (N:Nat)
  (Q:QT [.pk,.i,.str,.str,.i,.dc,.dc,.dc,.dc,.row 29 9]) (hQ:sF (.mk k (if nm=old then I else nm) (if nm=old then ot else I) n0 ty re (l.set j (p.sub f old (xk I)))) N Q) :
  ACalls prog 134 [.pk,.i,.str,.str,.i,.dc,.dc,.dc,.dc,.row 29 9] [.dg 9 d,.j (j:Int),.str old,.sv a 0 (zA fb) c,.str x] N Q:=by
 subst hn;obtain⟨t0,t1,r0,r1,a8,es,c8,rfl,hh,bg,aj⟩:=Tm.is_mk.1 hd;have hl:=aj.len;obtain⟨g1,_⟩:=yM (k:=k) (n:=l.length) (by omega);rw[am,oH]at g1;have ah:=zO aj g1;rw[hp]at ah;have bw:=Tm.fv_wd p;have aq:=hc.c;have bz:=qx k nm ot l.length;have ai:(fb++(p.fv++([x]++bdN k nm ot l.length))).length<=8796093022208:=by simp only[oJ,oO,oU];omega
 have aa:L6 [fb,p.fv,[x],bdN k nm ot l.length]=fb++(p.fv++([x]++bdN k nm ot l.length)):=by simp[L6]
 have O:I.size<=4611686018427387904:=Y ▸ IP ai;refine HQ N _ _ old a _ c x Q λ_ _ N1 b1=>Mp (n:=l.length) (by omega) N1 _ λa1 c1 N2 b2 _ _ _=>⟨_,_,_,rfl,⟨by omega,by omega⟩,λN3 b3=>?_⟩
 rw[oH];refine wb p _ ah aq N3 _ λc2 N4 b4 _ _=>⟨⟨rfl,rfl⟩,λa2 N5 b5 _=>⟨⟨rfl,rfl⟩,λa3 N6 b6 _=>⟨⟨rfl,rfl⟩,λa4 _ N7 b7 ak=>?_⟩⟩⟩
 have au:All2 IsW [fb,p.fv,[x],bdN k nm ot l.length] [.sl a 0 (zA fb) c,.sl a2 0 (zA p.fv) c2,.sl a3 0 [.t x] 1,.sl a1 0 (zA (bdN k nm ot l.length)) c1]:=
  ⟨_,_,rfl,⟨_,_,rfl⟩,_,_,rfl,⟨_,_,rfl⟩,_,_,rfl,⟨_,_,rfl⟩,_,_,rfl,⟨_,_,rfl⟩,rfl⟩
 refine Ns au (by simp) (by rw[aa];exact ai) a4 4 N7 _ λa5 c5 N8 b8 aw _=>⟨uC ak aw,λ_ N9 b9=>?_⟩
 rw[aa];refine Eb _ ai a5 c5 N9 _ λca bh _ ax bi=>?_;rw[Y];refine IM _ _ hd hG ax _ ?_;simp only[sF]at hQ ⊢;intro x4 x5 x6 x7 al c' cc bj J ab ay _ _;have cd:=ab.len;refine⟨_,_,_,rfl,⟨by omega,by omega⟩,λaz bm=>Ly az I _ λce bp _ _ a6 bq=>?_⟩;refine hS p _ old (xk I) _ ah (Px O) ao hc (VB _) a6 _ λdx a7 bt hx ba _ _=>⟨⟨by omega,by omega,by omega⟩,by omega,_,rfl,?_⟩
 have ac:All2 Tm.Is (l.set j (p.sub f old (xk I))) (al.set (0+j) dx):=by rw[ow];exact sM ab hx
 have ae:OwnL N a7 ([x4,x5,x6,x7]++al.set (0+j) dx):=qy (ay.mono (by omega) (oC _)) ba (by omega) (by omega) (by omega);refine Br.str (λh=>⟨⟨by simp,trivial⟩,λbc U=>?_⟩) λh=>⟨⟨by simp,trivial⟩,λbc U=>?_⟩
 ·rw[if_pos h,if_pos h]at hQ;exact hQ _ _ _ _ _ _ _ (by omega) ⟨O,J.ot,J.ty,J.re⟩ ac (ae.mono (oC _) U)
 ·rw[if_neg h,if_neg h]at hQ;exact hQ _ _ _ _ _ _ _ (by omega) ⟨J.nm,O,J.ty,J.re⟩ ac (ae.mono (oC _) U)
theorem SZ {f:Nat} (hS:Wh 92 f) {k n0:Int} {nm ot:ByteArray} {ty re:Ty} {l:List Tm} {d:D} (hd:(Tm.mk k nm ot n0 ty re l).Is d) (hc:(Tm.mk k nm ot n0 ty re l).Z) (hp:∀ y∈l,y.dp<=f)
  (x:ByteArray) {b:Tm} {O:D} (hb:b.Is O) (ah:b.Z) (ad J:Addr) (N:Nat) (Q:QT [.pk,.i,.str,.str,.i,.dc,.dc,.dc,.dc,.row 29 9])
  (hQ:sF (.mk k nm ot n0 ty re (l.map λt=>t.sub f x b)) N Q) :
  ACalls prog 51 [.pk,.i,.str,.str,.i,.dc,.dc,.dc,.dc,.row 29 9] [.dg 9 d,.fn 133 [.pd ad 0 (.t x),.pd J 9 O]] N Q:=by
 obtain⟨t0,t1,r0,r1,a,es,c,rfl,hh,U,Y⟩:=Tm.is_mk.1 hd;have hl:=Y.len;obtain⟨q1,q2,q3,_⟩:=hc.g;simp only[sF]at hQ;refine qZ N _ ad _ J _ Q λ_=>⟨_,_,_,rfl,?_⟩
 refine up Y U (λi xs=>∀(done:List D) (q N':Nat),N<=N'->All2 Tm.Is ((l.map λt=>t.sub f x b).take i) done->done.length=i->OwnL N N' done ->
  yo Q N ad (.t x) J O done.length q a es c es.length i (.ag [.j k,.t nm,.t ot,.j n0,t0,t1,r0,r1,.sl a 9 es c]) 0 (bytes []) (bytes []) 0 0 none [] 0 0 none [] 0 none [] 0 done q N') ?_ ?_ [] 0 N (oC _) rfl rfl JG
 ·intro i ai hi done q N' aj hd aa ho;refine uV ?_;rw[ou (by simp;omega)]at hd;rw[ai];refine⟨⟨rfl,rfl⟩,λa1 a6 _ N4 ak ab=>?_⟩;refine MF hh q1 q2 a1 done q N4 _ λx4 x5 x6 x7 N5 al am ac _=>⟨rfl,?_⟩
  have off:∀ y∈[x4,x5,x6,x7],Off [a1] y:=λy hy a' ao ad aq hc=>by have h1:=ab a' ao ad aq;have h2:=ac.lo _ (zQ.2 ⟨y,hy,hc⟩);omega
  refine⟨off x4 (by simp),off x5 (by simp),off x6 (by simp),off x7 (by simp),⟨rfl,rfl⟩,λN6 au=>?_⟩;exact hQ _ _ _ _ _ _ _ (by omega) am hd (Di (N1:=N4) (ac.mono (oC _) (by omega)) (ho.mono (oC _) ak) (by omega) (by omega))
 ·intro i y xs I _ aw done q N' aj hd aa ho;have a7:=I.b;have ax:=hp y I.m;have ay:=hc.mem y I.m;have ae:(l.map λt=>t.sub f x b)[i]?=some (y.sub f x b):=by rw[oE,I.g];rfl
  refine uV ?_;rw[I.lt,oH,I.w];refine⟨⟨by omega,by omega⟩,λN5 al=>pM N5 _ ad _ J O _ λ_=>⟨_,rfl,λN6 au=>hS y _ x b O I.r hb ax ay ah N6 _ λdx N7 a8 hx az _ _ N8 ba _ _=>⟨⟨rfl,rfl⟩,by unfold zC;rw[oJ];simp only[oO,oU];omega,λc3=>?_⟩⟩⟩;refine aw _ _ _ (by omega) (by rw[wj ae];exact hd.snoc hx) (by simp[aa]) ?_;exact(wo ho (wD (az.mono (by omega) (oC _))) (N1:=N') (by omega) (by omega)).mono (oC _) (by omega)
theorem H7 : ∀ f,Wh 92 f
 | 0=>λe d x b db _ _ bp=>absurd (Tm.dp_pos e) (by omega)
 | f + 1 => λe d x b db he hb bp hc ak N Q U=>by
   have ih:=H7 f;have hG:=hc.g;have bq:=ak.g;have c0:=ak.c;cases e with
   | mk k nm ot n0 ty re l=>
   have c2:=hc;simp only[Tm.dp]at bp;have hp:∀ y∈l,y.dp<=f:=λy hy=>wC.1 (mP bp) y hy;have ca:=hc.mem;obtain⟨t0,t1,r0,r1,a,es,c,rfl,hh,cc,bt⟩:=Tm.is_mk.1 he;have hl:=bt.len;have dn:=hG.2.2.1;simp only[Tm.sub]at U;refine ED N _ x db Q λ_ _=>⟨_,rfl,Br.beq (λh1=>⟨_,rfl,Br.str (λh2 N1 a7=>?_) λh2 N1 a7=>?_⟩) λh1 N1 a7=>Mp (n:=l.length) (by omega) N1 _ λa1 c1 N2 cd _ _ _=>Br.dec (λal=>?_) λce N3 am=>?_⟩
   ·rw[if_pos h1,if_pos h2]at U;refine IM b db hb bq N1 _ ?_;cases b with
    | mk k2 dr dt n2 du dv l2=>
    simp only[sF];intro x4 x5 x6 x7 ao c' N2 cd Y J aa _ _;have aq:=J.len;have dw:=bq.2.2.1;exact⟨⟨trivial,trivial⟩,⟨trivial,trivial⟩,λa2 N3 am hf N4 au=>U _ _ (by omega) (Tm.is_mk.2 ⟨_,_,_,_,_,_,_,rfl,Y,by omega,J⟩) ((rk (aa.mono a7 (oC _)) hf am).mono (oC _) au)⟩
   ·rw[if_pos h1,if_neg h2]at U;refine IM _ _ he hG N1 _ ?_;simp only[sF];intro x4 x5 x6 x7 ao c' N2 cd Y J aa _ _;have aq:=J.len;exact⟨⟨trivial,trivial⟩,⟨trivial,trivial⟩,λa2 N3 am hf N4 au=>U _ _ (by omega) (Tm.is_mk.2 ⟨_,_,_,_,_,_,_,rfl,Y,by omega,J⟩) ((rk (aa.mono a7 (oC _)) hf am).mono (oC _) au)⟩
   ·rw[if_neg h1,if_pos al]at U;refine λad _ _ bv _ _ N3 am ac=>SZ ih he c2 hp x hb ak ad bv N3 _ ?_;simp only[sF];intro x4 x5 x6 x7 ao c' N4 au Y J aa _;have aq:=J.len;simp only[oW]at aq;have off:∀ y∈[x4,x5,x6,x7],Off [some ad,some bv] y:=λy hy a' ah ab ai hc=>by have h1:=ac a' ah ab ai;have h2:=aa.lo _ (zQ.2 ⟨y,oq _ hy,hc⟩);omega
    have aw:Off [some ad,some bv] (.ag ao):=λa' ah ab ai hc=>by have h1:=ac a' ah ab ai;have h2:=aa.lo ab.block (by rw[zJ];exact nP _ (by simpa only[D.foot]using hc));omega
    refine⟨off x4 (by simp),off x5 (by simp),off x6 (by simp),off x7 (by simp),aw,λ_=>⟨⟨trivial,trivial⟩,⟨trivial,trivial⟩,λa2 N5 ax hf N6 ay=>U _ _ (by omega) (Tm.is_mk.2 ⟨_,_,_,_,_,_,_,rfl,Y,by omega,J⟩) ((rk (aa.mono (by omega) (oC _)) hf ax).mono (oC _) ay)⟩⟩
   ·rw [if_neg h1,if_neg ce]at U;refine IM _ _ he hG N3 _ ?_;simp only[sF];intro x4 x5 x6 x7 ao c' N4 au Y J aa _ _;have aq:=J.len;obtain⟨g1,g2⟩:=yM ce;have dz:=qx k nm ot l.length;obtain⟨j,cf⟩:∃ j:Nat,zN k l.length=(j:Int):=⟨_,g2.symm⟩
    rw[cf]at g1 U ⊢;rw[oH]at g1 U;generalize cg:l.getD j tm0=p at U;have bw:l[j]?=some p:=cg ▸ zH g1;have ea:=hp p (oB bw);have a8:=ca p (oB bw);have ch:=a8.c;have cj:=zO bt g1;rw[cg]at cj;generalize hg:(λt:Tm=>t.sub f x b)=g at U;have c3:∀ y∈l,(g y).G:=λy hy=>by rw[<-hg];exact P7 f y x b (zh hG.2.2.2 hy) bq
    have eb:=zM (bdN k nm ot l.length);refine⟨_,_,_,rfl,?_⟩;have fin:∀(ba bc:ByteArray) (y4 y5 y6 y7:D) (L:List Tm) (r:List D) (q N':Nat),N<=N'->L.length=l.length->Tm.Hd ba bc ty re y4 y5 y6 y7->All2 Tm.Is L r->OwnL N N' ([y4,y5,y6,y7]++r) ->
      (∀ d' N'',N<=N''->(Tm.mk k ba bc n0 ty re L).Is d'->Own N N'' d'->Q d' N'')->∀ a2 N5,N'<=N5->Fresh N N5 a2 [.ag r,y4,y5,y6,y7]->∀ N6,N5<=N6->Q (.ag [.j k,.t ba,.t bc,.j n0,y4,y5,y6,y7,.sl a2 9 r q]) N6:=
     λba bc y4 y5 y6 y7 L r q N' aj hL hH hA hO hq a2 N5 ax hf N6 ay=>by have ae:=hA.len;exact hq _ _ (by omega) (Tm.is_mk.2 ⟨_,_,_,_,_,_,_,rfl,hH,by omega,hA⟩) ((rk hO hf ax).mono (oC _) ay)
    refine up bt cc (λi xs=>∀(r:List D) (q N':Nat),N<=N'->All2 Tm.Is (((l.map g).set j p).take i++l.drop i) r->r.length=l.length->OwnL N N' ([x4,x5,x6,x7]++r) ->
     ya Q N a1 (zA (bdN k nm ot l.length)) c1 (j:Int) a es c es.length i (.ag [.j k,.t nm,.t ot,.j n0,t0,t1,r0,r1,.sl a 9 es c]) x db 0 (bytes []) (bytes []) 0 0 none [] 0 0 none [] 0 none [] 0 k nm ot n0 x4 x5 x6 x7 r.length q r q N') ?_ ?_ ao c' N4 (by omega) (by simpa using J) aq (aa.mono (by omega) (oC _))
    ·intro i al hi r q N' aj hA ae hO;rw[ou (by simp;omega),mG (by omega),nH]at hA;refine tN ?_;rw[al];refine λN5 ax=>yV _ (by omega) a1 c1 x N5 _ λN6 ay _=>?_;rw[A6];refine Br.dec (λhx=>⟨⟨rfl,rfl⟩,⟨rfl,rfl⟩,⟨rfl,rfl⟩,λa2 N7 c4 hf N8 ck=>?_⟩) λhx=>⟨_,_,_,rfl,⟨by omega,by omega⟩,λN7 c4=>?_⟩
     ·rw[if_pos (.inl hx)]at U;exact fin _ _ _ _ _ _ _ _ _ N' aj (by simp) Y hA hO U a2 N7 (by omega) hf N8 ck
     ·rw [oH];have ee:=Tm.fv_wd p;refine wb p _ cj ch N7 _ λc8 N8 ck _ _=>⟨⟨rfl,rfl⟩,λa9 _ N9 ef _=>yV _ (by omega) a9 c8 x N9 _ λeg dk _=>?_⟩
      rw[A6];refine Br.ndec (λbz=>⟨⟨rfl,rfl⟩,⟨rfl,rfl⟩,⟨rfl,rfl⟩,λa2 b1 cm hf b2 bh=>?_⟩) λbz b1 cm=>?_
      ·rw[if_pos (.inr bz)]at U;exact fin _ _ _ _ _ _ _ _ _ N' aj (by simp) Y hA hO U a2 b1 (by omega) hf b2 bh
      ·rw [if_neg (by rintro(h | h);exact hx h;exact h bz)]at U;have dl:=Tm.fv_wd b;refine wb b _ hb c0 b1 _ λbg b2 bh _ _=>?_;have ei:=zM b.fv;generalize hT:rns (Tm.sub f) k l.length b.fv x (bdN k nm ot l.length) (nm,ot,p)=T at U;refine up (xm (bdN k nm ot l.length)) (by omega) (λi xs=>∀(s:ByteArray × ByteArray × Tm) (y4 y5 y6 y7:D) (r:List D) (q N':Nat),N<=N'->Tm.Hd s.1 s.2.1 ty re y4 y5 y6 y7->All2 Tm.Is ((l.map g).set j s.2.2) r->r.length=l.length->OwnL N N' ([y4,y5,y6,y7]++r)->LeW s.2.2 p->rns (Tm.sub f) k l.length b.fv x xs s=T ->
        yc Q N (j:Int) (zA b.fv).length bg a1 (zA (bdN k nm ot l.length)) c1 ((zA (bdN k nm ot l.length)).length:Int) i x db 0 (bytes []) (bytes []) 0 0 none [] 0 0 none [] 0 none [] 0 k s.1 s.2.1 n0 y4 y5 y6 y7 r.length q (zA b.fv) bg r q N') ?_ ?_ (nm,ot,p) x4 x5 x6 x7 r q b2 (by omega) Y hA ae (hO.mono (oC _) (by omega)) LeW.rfl hT
       ·intro i al hi s y4 y5 y6 y7 r q N' aj hH hA ae hO O hs;simp only[rns]at hs;subst hs;refine t8 ?_;rw[al];refine⟨⟨by omega,by omega,by omega⟩,by omega,λb3 cn=>?_⟩;have bi:=zO hA (j:=j) (by simpa using g1);have b4:((l.map g).set j s.2.2).getD j tm0=s.2.2:=by rw[oA,oi (by simpa using g1)];rfl
        rw[b4]at bi;have co:=O.le.c;have cp:=O.le.d;rw[oH,ow];refine ih s.2.2 _ x b db bi hb (by omega) (O.z a8) ak b3 _ λdx b5 cq hx b6 _ _=>?_;have cr:All2 Tm.Is ((l.map g).set j (s.2.2.sub f x b)) (r.set j dx):=by have:=sM (j:=j) hA hx;rwa[List.set_set]at this
        have ct:OwnL N b5 ([y4,y5,y6,y7]++r.set j dx):=qy hO b6 (by omega) (by omega) (by omega);exact⟨⟨by omega,by omega,by omega⟩,by omega,⟨by simp,rfl⟩,⟨by simp,rfl⟩,⟨by simp,rfl⟩,⟨by simp,rfl⟩,⟨by simp,rfl⟩,λa2 cw bj hf b7 bm=>fin _ _ _ _ _ _ _ _ _ b5 (by omega) (by simp) hH cr ct U a2 cw bj hf b7 bm⟩
       ·intro i old xs I _ az s y4 y5 y6 y7 r q N' aj hH hA ae hO O hs;have c5:=I.b;have hr:=I.r;simp only[rns]at hs;refine t8 ?_;rw[I.lt,oH,I.w,hr];refine⟨⟨by omega,by omega⟩,old,rfl,⟨rfl,rfl⟩,λc6 _ b3 cn _=>yV _ (by omega) c6 bg old b3 _ λb5 cq _=>?_⟩;rw[A6];refine Br.dec (λho=>⟨⟨rfl,rfl⟩,⟨rfl,rfl⟩,λc7 cw bj _=>⟨⟨rfl,rfl⟩,λb8 _ b7 bm ac=>?_⟩⟩) λho=>?_
        ·have co:=O.le.c;have cp:=O.le.d;have da:(Tm.mk k s.1 s.2.1 n0 ty re ((l.map g).set j s.2.2)).Is (.ag [.j k,.t s.1,.t s.2.1,.j n0,y4,y5,y6,y7,.sl c7 9 r q]):=Tm.is_mk.2 ⟨_,_,_,_,_,_,_,rfl,hH,by omega,hA⟩;have b4:((l.map g).set j s.2.2).getD j tm0=s.2.2:=by rw[oA,oi (by simpa using g1)];rfl
         have de:(Tm.mk k s.1 s.2.1 n0 ty re ((l.map g).set j s.2.2)).G:=⟨hG.1,hG.2.1,by simpa using hG.2.2.1,DF λy hy=>by
          rcases oe hy with hy | rfl
          ·obtain⟨z,hz,rfl⟩:=oP.1 hy;exact c3 z hz
          ·exact O.le.g a8.g⟩
         refine SW ih da de (n:=l.length) (by simp) cf b4 (by omega) (O.z a8) old x b.fv (by omega) b8 bg rfl b7 _ ?_;simp only[sF];intro z4 z5 z6 z7 df c9 ej dm dh a6 b9 _;have off:∀ y∈[z4,z5,z6,z7],Off [b8] y:=λy hy a' ah ab ai hc=>by have h1:=ac a' ah ab ai;have h2:=b9.lo _ (zQ.2 ⟨y,oq _ hy,hc⟩);omega
         have aw:Off [b8] (.ag df):=λa' ah ab ai hc=>by have h1:=ac a' ah ab ai;have h2:=b9.lo ab.block (by rw[zJ];exact nP _ (by simpa only[D.foot]using hc));omega
         rw[List.set_set]at a6;have cx:=a6.len;simp only[nU,oW]at cx;refine⟨off z4 (by simp),off z5 (by simp),off z6 (by simp),off z7 (by simp),aw,λ_=>?_⟩;have e1:rn1 (Tm.sub f) k l.length b.fv x old s=(if s.1=old then fresh (b.fv++(s.2.2.fv++([x]++bdN k s.1 s.2.1 l.length)))else s.1,if s.1=old then s.2.1 else fresh (b.fv++(s.2.2.fv++([x]++bdN k s.1 s.2.1 l.length))),s.2.2.sub f old (xk (fresh (b.fv++(s.2.2.fv++([x]++bdN k s.1 s.2.1 l.length)))))):=by unfold rn1;rw[if_pos ho];split<;>rfl
         rw[e1]at hs;exact az _ _ _ _ _ _ _ _ (by omega) dh a6 cx (b9.mono (by omega) (oC _)) ((pP f _ _ _ (by omega)).trans O) hs
        ·have e1:rn1 (Tm.sub f) k l.length b.fv x old s=s:=by unfold rn1;rw[if_neg ho]
         rw[e1]at hs;exact az _ _ _ _ _ _ _ _ (by omega) hH hA ae (hO.mono (oC _) (by omega)) O hs
    ·intro i y xs I _ az r q N' aj hA ae hO;have c5:=I.b;have di:=hp y I.m;have dj:=ca y I.m;have cy:i<l.length:=(oD.1 I.g).1;refine tN ?_;rw[I.lt,oH,I.w];refine⟨⟨by omega,by omega⟩,Br.bne (λek N5 ax=>ih y _ x b db I.r hb di dj ak N5 _ λdx N6 ay hx b6 _ _=>⟨⟨by omega,by omega,by omega⟩,by omega,?_⟩) λheq=>?_⟩
     ·have hT:((l.map g).set j p)[i]?=some (y.sub f x b):=by rw[om (by omega),oE,I.g,<-hg];rfl
      rw[ow];have h2:=sM (j:=i) hA hx;rw[Mr (by simp) cy hT]at h2;have h3:=az (r.set i dx) q N6 (by omega) h2 (by simpa using ae) (qy hO b6 (by omega) (by omega) (by omega));simpa using h3
     ·have cz:i=j:=by omega
      have hyp:y=p:=by
       have:=I.g
       rw[cz,bw]at this;exact(oT this).symm
      have hT:((l.map g).set j p)[i]?=some y:=by rw[cz,hyp,oi (by simpa using g1)]
      rw[Nh cy I.g hT]at hA;exact az r q N' aj hA ae hO
theorem KP (s:ByteArray)(l:List ByteArray):decide (AR (λx=>decide (x=s)) l 0≥0)=decide (s∈l):=by
 have h:=FO s l;rw[nj,nf,nf]at h ⊢;constructor
 ·intro J;exact mO.1 λI=>by have:=h.2 I;omega
 ·intro J;exact Int.not_lt.1 λI=>h.1 I J
theorem RP {f:Nat} (hS:Wh 98 f) {k n0:Int} {nm ot:ByteArray} {ty re:Ty} {l:List Tm} {d:D} (hd:(Tm.mk k nm ot n0 ty re l).Is d) (hG:(Tm.mk k nm ot n0 ty re l).G) {j:Nat} (bh:zN k l.length=(j:Int))
  {p:Tm} (hp:l.getD j tm0=p) (cx:p.dp<=f) (hc:p.Z) (x:ByteArray) (fb:List ByteArray) (cy:fb.length<=2199023255552) (a:Option Addr) (c:Nat) (N:Nat) {T:ByteArray × ByteArray × Tm} (hT:rns (Tm.sub f) k l.length fb x (bdN k nm ot l.length) (nm,ot,p)=T)
  (Q:QT [.pk,.i,.str,.str,.i,.dc,.dc,.dc,.dc,.row 29 9]) (hQ:sF (.mk k T.1 T.2.1 n0 ty re (l.set j T.2.2)) N Q) :
  ACalls prog 143 [.pk,.i,.str,.str,.i,.dc,.dc,.dc,.dc,.row 29 9] [.dg 9 d,.j (j:Int),.str x,.sv a 0 (zA fb) c] N Q:=by
 obtain⟨t0,t1,r0,r1,a8,es,c8,rfl,hh,cf,bi⟩:=Tm.is_mk.1 hd;have hl:=bi.len;obtain⟨g1,_⟩:=yM (k:=k) (n:=l.length) (by omega);rw[bh,oH]at g1;have cz:=qx k nm ot l.length;have c0:=zM (bdN k nm ot l.length);have c2:=hG.2.2.1;refine Gp N _ _ x a _ c Q λ_ _ N1 bj=>wr _ _ hd hG N1 _ ?_;simp only[sF]at hQ ⊢;intro x4 x5 x6 x7 bm c' N2 c3 bp ai bq _ _ N3 c4;refine CM (n:=l.length) (by omega) N3 _ λa1 c1 N4 c5 _ _ _=>?_;have da:=ai.len;have al:l.set j p=l:=by
  apply nO;intro i;rw[nW];split
  ·rename_i hi;subst hi;rw[zH g1,hp]
  ·rfl
 refine up (xm (bdN k nm ot l.length)) (by omega) (λi xs=>∀(s:ByteArray × ByteArray × Tm) (y4 y5 y6 y7:D) (r:List D) (q N':Nat),N<=N'->Tm.Hd s.1 s.2.1 ty re y4 y5 y6 y7->All2 Tm.Is (l.set j s.2.2) r->OwnL N N' ([y4,y5,y6,y7]++r)->LeW s.2.2 p->rns (Tm.sub f) k l.length fb x xs s=T ->
  (i=0->s=(nm,ot,p))->(0<i->∀ o∈xs,o∈fb->s.1≠o) ->
  ye Q N j x a (zA fb) c a1 (zA (bdN k nm ot l.length)) c1 i 0 (bytes []) (bytes []) 0 0 none [] 0 0 none [] 0 none [] 0 k s.1 s.2.1 n0 y4 y5 y6 y7 r.length q r q N') ?_ ?_ (nm,ot,p) x4 x5 x6 x7 bm c' N4 (by omega) bp (by rw[al];exact ai) (bq.mono bj (by omega)) LeW.rfl hT (λ_=>rfl) (λh=>absurd h (by omega))
 ·intro i bt hi s y4 y5 y6 y7 r q N' bv hH hA hO U hs _ _;simp only[rns]at hs;subst hs;refine qK ?_;rw[bt];exact⟨⟨rfl,rfl⟩,λN5 aq=>hQ _ _ _ _ _ _ _ (by omega) hH hA (hO.mono (oC _) aq)⟩
 ·intro i old xs I au am s y4 y5 y6 y7 r q N' bv hH hA hO U hs h0 h1;have db:=I.b;have hr:=I.r;have bw:=hA.len;simp only[nU]at bw;simp only[rns]at hs;refine qK ?_;rw[I.lt,oH,I.w,hr];refine⟨⟨by omega,by omega⟩,old,rfl,λN5 aq=>yw fb (by omega) a c old N5 _ λN6 de _=>?_⟩;show Br (decide (AR (λx=>decide (x=old)) fb 0<0)) _ _;rw[FO];have hold:i=0->s.1=old:=λhi=>by
   subst hi;have h2:=I.g;rw[h0 rfl];unfold bdN at h2
   (repeat' split at h2)<;>simp at h2<;>exact h2
  have aw:0<i->old∈fb->s.1≠old:=λhi Y=>h1 hi old (by simp) Y;have aa:∀ s':ByteArray × ByteArray × Tm,rn1 (Tm.sub f) k l.length fb x old s=s'->0<i+1->∀ o∈xs,o∈fb->s'.1≠o:=λs' bz _ o Y b1=>by
   have ax:i=0:=by
    have h3:=oQ.1 Y;obtain⟨m,hm⟩:=h3;rw[<-au,nQ]at hm
    have:=(oD.1 hm).1
    omega
   have b2:=h0 ax;subst ax;have b3:o∈bdN k nm ot l.length:=by rw[<-au]at Y;exact nE Y
   have ab:=hold rfl;subst bz;unfold rn1;by_cases ac:old∈fb
   ·have b4:=yb (fb++(s.2.2.fv++([x]++bdN k s.1 s.2.1 l.length)));rw[if_pos ac,if_pos ab];intro hc;refine b4 ?_;simp only at hc;rw[hc,b2];simp[b3]
   ·rw[if_neg ac];intro hc;exact ac (by rw[<-ab,hc];exact b1)
  refine Br.dec (λY=>?_) λY=>?_
  ·have e1:rn1 (Tm.sub f) k l.length fb x old s=s:=by unfold rn1;rw[if_neg Y]
   have J:=aa s e1;rw[e1]at hs;exact am _ _ _ _ _ _ _ _ (by omega) hH hA (hO.mono (oC _) (by omega)) U hs (λh=>absurd h (by omega)) J
  ·have Y:old∈fb:=mO.1 Y;have ae:=zO hA (j:=j) (by simpa using g1);have b5:(l.set j s.2.2).getD j tm0=s.2.2:=by rw[oA,oi (by simpa using g1)];rfl
   rw[b5]at ae;have ay:=U.z hc;have df:=ay.c;have dh:=Tm.fv_wd s.2.2;have di:=GX fb s.2.2.fv;have cg:=qx k s.1 s.2.1 l.length;have ch:=zM (bdN k s.1 s.2.1 l.length);have cj:=U.le.d;refine⟨⟨rfl,rfl⟩,λa5 _ N7 dj az=>CM (n:=l.length) (by omega) N7 _ λa6 c6 N8 dk b6 _=>⟨uC az b6,λ_=>⟨⟨by omega,by omega,by omega⟩,by omega,λN9 dl=>?_⟩⟩⟩;rw[oH,ow];refine wa s.2.2 _ ae (by omega) N9 _ λa7 c7 dm ck _ _ _ b7 cm=>?_;refine rI fb s.2.2.fv (by omega) (by omega) a a7 c c7 b7 _ λc8 dn cn _ _=>?_;rw[uD,IR];have ba:(sn fb s.2.2.fv++[x]++bdN k s.1 s.2.1 l.length).length<=8796093022208:=by simp only[oJ,oO,oU];omega
   have bc:fresh (sn fb s.2.2.fv++[x]++bdN k s.1 s.2.1 l.length)=fresh (fb++(s.2.2.fv++([x]++bdN k s.1 s.2.1 l.length))):=TC λy=>by simp[Kc,or_assoc]
   refine⟨⟨rfl,rfl⟩,BL (by omega),λc9=>⟨⟨rfl,rfl⟩,by unfold zC;rw[oJ,zM,zM,oJ,oO,oU];omega,λb8=>⟨⟨rfl,rfl⟩,λb9 _ ca co _=>?_⟩⟩⟩;refine EN _ ba b9 b8 ca _ λdr cp _=>⟨⟨by omega,by omega,by omega⟩,by omega,⟨by omega,by omega⟩,old,rfl,λcc cq=>?_⟩
   have ah:=IP ba;rw[bc]at ah ⊢;have e1:rn1 (Tm.sub f) k l.length fb x old s=(if s.1=old then fresh (fb++(s.2.2.fv++([x]++bdN k s.1 s.2.1 l.length)))else s.1,if s.1=old then s.2.1 else fresh (fb++(s.2.2.fv++([x]++bdN k s.1 s.2.1 l.length))),s.2.2.sub f old (xk (fresh (fb++(s.2.2.fv++([x]++bdN k s.1 s.2.1 l.length)))))):=by unfold rn1;rw[if_pos Y];split<;>rfl
   have J:=aa _ e1;rw[e1]at hs;generalize fresh (fb++(s.2.2.fv++([x]++bdN k s.1 s.2.1 l.length)))=O at ah hs J ⊢;refine Do cc O _ λdt cr _ _ cd ct=>?_;refine hS s.2.2 _ old (xk O) _ ae (Px ah) (by omega) ay (VB _) cd _ λdx ao cw hx ce _ _=>⟨⟨by omega,by omega,by omega⟩,by omega,?_⟩
   have aj:All2 Tm.Is (l.set j (s.2.2.sub f old (xk O))) (r.set j dx):=by have:=sM (j:=j) hA hx;rwa[List.set_set]at this
   have ak:OwnL N ao ([y4,y5,y6,y7]++r.set j dx):=qy hO ce (by omega) (by omega) (by omega);have bg:(r.set j dx).length=r.length:=nU;refine Br.beq (λhi=>?_) λhi=>?_
   ·have hi:i=0:=by omega
    rw[if_pos (hold hi),if_pos (hold hi)]at hs J
    have:=am (O,s.2.1,s.2.2.sub f old (xk O)) y4 y5 y6 y7 (r.set j dx) q ao (by omega) ⟨ah,hH.ot,hH.ty,hH.re⟩ aj ak ((pP f _ _ _ (by omega)).trans U) hs (λh=>absurd h (by omega)) J
    rwa[bg]at this
   ·have hi:0<i:=by omega
    rw[if_neg (aw hi Y),if_neg (aw hi Y)]at hs J
    have:=am (s.1,O,s.2.2.sub f old (xk O)) y4 y5 y6 y7 (r.set j dx) q ao (by omega) ⟨hH.nm,ah,hH.ty,hH.re⟩ aj ak ((pP f _ _ _ (by omega)).trans U) hs (λh=>absurd h (by omega)) J
    rwa[bg]at this
theorem Bz {f:Nat} (hS:Wh 98 f) {k n0:Int} {nm ot:ByteArray} {ty re:Ty} {L Lf:List Tm} {x:ByteArray} {b:Tm} {db:D} (hb:b.Is db) (aj:b.Z) (hL:∀ y∈L,y.dp<=f/\y.Z) (ax:L.length<=1073741824) {at_:Int} {hid:Bool}
  (ak:Lf.length=L.length) (hf:∀(i:Nat) (y:Tm),L[i]?=some y->Lf[i]?=some (if hid=true/\(i:Int)=at_ then y else y.sub f x b)) {y4 y5 y6 y7:D} (hH:Tm.Hd nm ot ty re y4 y5 y6 y7) {r:List D} (hA:All2 Tm.Is L r) (q N N':Nat) (O:N<=N') (hO:OwnL N N' ([y4,y5,y6,y7]++r))
  (Q:QT [.ag 9]) (hQ:∀ d' N'',N<=N''->(Tm.mk k nm ot n0 ty re Lf).Is d'->Own N N'' d'->Q d' N'') :
  zF Q N x at_ hid 0 db 0 (bytes []) (bytes []) 0 0 none [] 0 0 none [] 0 none [] 0 k nm ot n0 y4 y5 y6 y7 r.length q r q N':=by
 have ay:=hA.len;refine up hA (by omega) (λi xs=>∀(r':List D) (q N':Nat),N<=N'->All2 Tm.Is (Lf.take i++L.drop i) r'->r'.length=r.length->OwnL N N' ([y4,y5,y6,y7]++r') ->
  zF Q N x at_ hid i db 0 (bytes []) (bytes []) 0 0 none [] 0 0 none [] 0 none [] 0 k nm ot n0 y4 y5 y6 y7 r.length q r' q N') ?_ ?_ r q N' O (by simpa using hA) rfl hO
 ·intro i al hi r' q N' O J aa U;rw[ou (by omega),mG (by omega),nH]at J;refine sR ?_;rw[al];exact⟨⟨by omega,rfl⟩,⟨by omega,rfl⟩,⟨by omega,rfl⟩,⟨by omega,rfl⟩,λa2 N5 ab hf N6 ac=>hQ _ _ (by omega) (Tm.is_mk.2 ⟨_,_,_,_,_,_,_,rfl,hH,by omega,J⟩) ((rk U hf ab).mono (oC _) ac)⟩
 ·intro i y xs I _ ae r' q N' O J aa U;have az:=I.b;obtain⟨am,ao⟩:=hL y I.m;have ah:i<L.length:=(oD.1 I.g).1;have Y:=hf i y I.g;have aq:y.Is (r'.getD i default):=by refine J.get ?_;rw[oR (by rw[nF];omega),nF,show i - min i Lf.length=0 by omega,nQ];exact I.g
  have put:(if hid=true/\(i:Int)=at_ then y else y.sub f x b)=y.sub f x b->∀ N5,N'<=N5->ACalls prog 98 [.ag 9] [.dg 9 (List.getD r' i default),.str x,.dg 9 db] N5 (λai N6=>N5<=N6->Bel N6 ai->((0:Int)<=(i:Int)/\(i:Int)<(r.length:Int)/\i<r'.length)/\i<r'.length /\
    zF Q N x at_ hid ((i+1:Nat):Int) db 0 (bytes []) (bytes []) 0 0 none [] 0 0 none [] 0 none [] 0 k nm ot n0 y4 y5 y6 y7 r.length q (List.set r' i ai) q N6):=λe N5 ab=>
   hS y _ x b db aq hb am ao aj N5 _ λdx N6 ac hx au _ _=>⟨⟨by omega,by omega,by omega⟩,by omega,by rw[e]at Y;have h2:=sM (j:=i) J hx;rw[Mr ak ah Y]at h2;exact ae (r'.set i dx) q N6 (by omega) h2 (by simpa using aa) (qy U au (by omega) (by omega) (by omega))⟩
  refine sR ?_;rw[I.lt,oH,I.w,ow];refine Br.bne (λaw=>⟨⟨by omega,by omega,by omega⟩,by omega,put (if_neg λh=>aw h.2)⟩) λheq=>?_;refine Br.not (λhh=>⟨⟨by omega,by omega,by omega⟩,by omega,put (if_neg λh=>by rw[hh]at h;exact absurd h.1 (by decide))⟩) λhh=>?_;rw[if_pos ⟨hh,heq⟩]at Y;rw[Nh ah I.g Y]at J;exact ae r' q N' O J aa U
theorem Id {g:Tm->Tm}{l:List Tm}{i:Nat}{y:Tm}(h:l[i]?=some y):(l.map g)[i]?=some (g y):=by rw[oE,h];rfl
theorem Ht:∀ f,Wh 98 f
 | 0=>λe d x b db _ _ ae=>absurd (Tm.dp_pos e) (by omega)
 | f + 1=>λe d x b db he hb ae hc U N Q J=>by
   have ih:=Ht f;have hG:=hc.g;have au:=U.g;have bi:=U.c;cases e with
   | mk k nm ot n0 ty re l=>
   simp only[Tm.dp]at ae;have hp:∀ y∈l,y.dp<=f/\y.Z:=λy O=>⟨wC.1 (mP ae) y O,hc.mem y O⟩
   obtain⟨t0,t1,r0,r1,a,es,c,rfl,hh,b3,aw⟩:=Tm.is_mk.1 he;have hl:=aw.len;have ab:=hG.2.2.1;have ca:=qx k nm ot l.length;have cc:=zM (bdN k nm ot l.length);refine ET N _ x db Q λ_ _=>⟨_,rfl,?_⟩
   have ax:¬(k=1/\nm=x)->(Tm.mk k nm ot n0 ty re l).sub (f+1) x b=if zN k l.length<0 then .mk k nm ot n0 ty re (l.map λt=>Tm.sub f t x b)
     else if x∈bdN k nm ot l.length\/x∉(l.getD (zN k l.length).toNat tm0).fv then
      .mk k nm ot n0 ty re ((l.map λt=>Tm.sub f t x b).set (zN k l.length).toNat (l.getD (zN k l.length).toNat tm0))
     else
      .mk k (rns (Tm.sub f) k l.length b.fv x (bdN k nm ot l.length) (nm,ot,l.getD (zN k l.length).toNat tm0)).1
       (rns (Tm.sub f) k l.length b.fv x (bdN k nm ot l.length) (nm,ot,l.getD (zN k l.length).toNat tm0)).2.1 n0 ty re
       ((l.map λt=>Tm.sub f t x b).set (zN k l.length).toNat (Tm.sub f (rns (Tm.sub f) k l.length b.fv x (bdN k nm ot l.length) (nm,ot,l.getD (zN k l.length).toNat tm0)).2.2 x b)):=λhn=>by
    simp only[Tm.sub];by_cases hk:k=1
    ·rw[if_pos hk,if_neg (λh=>hn ⟨hk,h⟩)];have:l=[]:=hc.v.1 hk;subst this;subst hk;rw[if_pos (by decide)];rfl
    ·rw[if_neg hk]
   refine Br.beq (λh1=>⟨_,rfl,Br.str (λh2 N1 ah=>?_) λh2=>?_⟩) λh1=>?_
   ·simp only[Tm.sub]at J;rw[if_pos h1,if_pos h2]at J;refine wr b db hb au N1 _ ?_;cases b with
    | mk k2 cd ce n2 cf cg l2=>
    simp only[sF];intro x4 x5 x6 x7 ay c' N2 bj aa I ai _ _;have bm:=I.len;have ch:=au.2.2.1;exact⟨⟨trivial,trivial⟩,⟨trivial,trivial⟩,λa2 N3 az hf N4 a6=>J _ _ (by omega) (Tm.is_mk.2 ⟨_,_,_,_,_,_,_,rfl,aa,by omega,I⟩) ((rk (ai.mono ah (oC _)) hf az).mono (oC _) a6)⟩
   all_goals
    rw[ax (λh=>by first | exact h2 h.2 | exact h1 h.1)]at J;intro N1 ah;refine wr _ _ he hG N1 _ ?_;simp only[sF];intro x4 x5 x6 x7 ay c' N2 bj aa I ai _ _ N3 az;have bm:=I.len;refine CM (n:=l.length) (by omega) N3 _ λa1 c1 N4 a6 _ _ _ N5 cj=>?_;refine yw _ (by omega) a1 c1 x N5 _ λN6 ck _=>?_;rw[KP];have aj:OwnL N N6 ([x4,x5,x6,x7]++ay):=ai.mono ah (by omega);refine Br.dec (λcm=>?_) λcn=>?_
    ·rw [if_neg (by omega)]at J;obtain⟨g1,g2⟩:=yM (k:=k) (n:=l.length) (by omega);obtain⟨j,a7⟩:∃ j:Nat,zN k l.length=(j:Int):=⟨_,g2.symm⟩
     rw[a7]at g1 J ⊢;rw[oH]at g1 J ⊢;generalize ak:l.getD j tm0=p at J;have al:l[j]?=some p:=ak ▸ zH g1;obtain⟨am,ao⟩:=hp p (oB al);have ba:=ao.c;have bc:=zO aw g1;rw[ak]at bc;refine Br.ndec (λhx=>⟨_,_,_,rfl,⟨by omega,by omega⟩,λN7 co=>?_⟩) λhx=>?_
     ·have cp:=Tm.fv_wd p;refine wa p _ bc ba N7 _ λa8 c8 N8 cq _ _ _ N9 cr=>yw _ (by omega) a8 c8 x N9 _ λbp b4 _=>?_;rw[KP];rw[mK hx];refine Br.dec (λac bq b5=>?_) λac=>?_
      ·rw[if_neg (by rintro(h | h);exact hx h;exact h ac)]at J;have b6:=Tm.fv_wd b;refine wa b _ hb bi bq _ λbt bv ct b7 _ _ _ bw b8=>?_;generalize hT:rns (Tm.sub f) k l.length b.fv x (bdN k nm ot l.length) (nm,ot,p)=T at J;have aq:=ND (pP f) k l.length b.fv x (bdN k nm ot l.length) (nm,ot,p) am;rw[hT]at aq;have bg:=aq.le.d;refine RP ih he hG a7 ak am ao x b.fv (by omega) bt bv bw hT _ ?_;simp only[sF];intro z4 z5 z6 z7 cw c9 bz b9 b1 bh b2 _ _;refine Bz ih hb U (L:=l.set j T.2.2) (Lf:=(l.map λt=>t.sub f x b).set j (T.2.2.sub f x b)) (λy O=>?_) (by simpa using ab) (by simp) (λi y O=>?_) b1 bh c9 N bz (by omega) (b2.mono (by omega) (oC _)) Q J
       ·rcases oe O with O | rfl
        ·exact hp y O
        ·exact⟨oL bg am,aq.z ao⟩
       ·rw[if_neg (λh=>by simp at h)];rw[<-List.map_set];exact Id O
      ·rw[if_pos (.inr ac)]at J;refine Bz ih hb U hp ab (by simp) (λi y O=>?_) aa I c' N bp (by omega) (aj.mono (oC _) (by omega)) Q J;rw[if_neg (λh=>by simp at h)];by_cases Y:j=i
       ·subst Y;have:y=p:=oT (O.symm.trans al);rw[oi (by simpa using g1),this,Ez f p x b ac]
       ·rw[om Y];exact Id O
     ·rw[if_pos (.inl hx)]at J;rw[mI hx];refine Bz ih hb U hp ab (by simp) (λi y O=>?_) aa I c' N N6 (by omega) aj Q J;by_cases Y:j=i
      ·subst Y;have:y=p:=oT (O.symm.trans al);rw[if_pos ⟨rfl,rfl⟩,oi (by simpa using g1),this]
      ·rw[if_neg (λh=>Y (by omega)),om Y];exact Id O
    ·rw[if_pos (by omega)]at J;refine Bz ih hb U hp ab (by simp) (λi y O=>?_) aa I c' N N6 (by omega) aj Q J;rw[if_neg (λh=>by have:=h.2;omega)];exact Id O
def red (n:Int):Int:=n % 10007
def bI (b:Bool):Int:=if b then 1 else 0
def zE (s:ByteArray)(a b:Int):Int × Bool:=
 if inB a 0 10006=true then(if inB b 0 10006=true then
  (if s=bytes [43]then(red (a+b),true)else if s=bytes [45]then(red (a - b),true)else if s=bytes [42]then(red (a*b),true)
  else if s=bytes [61]then(bI (a==b),true)else if s=bytes [60]then(bI (decide (a<b)),true)
  else if s=bytes [38]then(bI (a==1&&b==1),true)else if s=bytes [124]then(bI (a==1||b==1),true)
  else if s=bytes [33]then(bI (a==0),true)else(0,false))else(0,false))else(0,false)
theorem E6 (b:Bool):0<=bI b/\bI b<=1:=by cases b<;>decide
theorem Rb (n:Int):0<=red n/\red n<=10006:=by unfold red;omega
theorem C3 (s:ByteArray)(a b:Int):0<=(zE s a b).1/\(zE s a b).1<=10006:=by
 have I:=Rb (a+b);have J:=Rb (a - b);have O:=Rb (a*b);have U:=E6 (a==b);have Y:=E6 (decide (a<b));have h6:=E6 (a==1&&b==1);have h7:=E6 (a==1||b==1);have h8:=E6 (a==0);unfold zE
 (repeat' split)<;>constructor<;>first | omega | (simp only;omega)
theorem qc {s:ByteArray}(I:¬s=bytes [43])(J:¬s=bytes [45])(O:¬s=bytes [42])(a b:Int):0<=(zE s a b).1/\(zE s a b).1<=1:=by
 have U:=E6 (a==b);have Y:=E6 (decide (a<b));have h6:=E6 (a==1&&b==1);have h7:=E6 (a==1||b==1);have h8:=E6 (a==0);unfold zE;rw[if_neg I,if_neg J,if_neg O]
 (repeat' split)<;>constructor<;>first | omega | (simp only;omega)
def Co (k n:Int):Tm:=.mk k (bytes []) (bytes []) n (.mk 0 []) (.mk 0 []) []
def Tm.kd:Tm->Int | .mk k _ _ _ _ _ _=>k
def Tm.no:Tm->Int | .mk _ _ _ n _ _ _=>n
def Tm.nm:Tm->ByteArray | .mk _ nm _ _ _ _ _=>nm
def Tm.ot:Tm->ByteArray | .mk _ _ ot _ _ _ _=>ot
def Tm.pt:Tm->Nat->Tm | .mk _ _ _ _ _ _ l,i=>l.getD i tm0
def Tm.wth:Tm->Nat->Tm->Tm | .mk k nm ot n ty re l,i,x=>.mk k nm ot n ty re (l.set i x)
mutual
def Tm.made:Tm->Int->Bool
 | .mk k _ _ _ _ _ l,n=>!(k==11&&n==1)&&vh l (zf k n)
def vh:List Tm->Int->Bool
 | [],_=>true
 | t::I,n=>t.made n&&vh I n
end
def HX (k:Int):Bool:=k==2||(k==3||(k==6||k==9))
def Tm.res (t:Tm):Bool:=HX t.kd||(t.kd==10&&(t.lev 0&&(t.pt 0).made 1))
def xM (s:ByteArray):Bool:=decide (s=bytes [38])||(decide (s=bytes [124])||decide (s=bytes [33]))
def DE (s:ByteArray):Bool:=decide (s=bytes [43])||(decide (s=bytes [45])||decide (s=bytes [42]))
def zR (nm:ByteArray):Int:=if xM nm then 3 else 2
def w7 (nm:ByteArray):Int:=if DE nm then 2 else 3
def Tm.opr (e:Tm)(l:List Tm):Tm × Int:=
 if l.all (λx=>x.kd==zR e.nm)then
  (Co (w7 e.nm) (zE e.nm (l.getD 0 tm0).no (l.getD 1 tm0).no).1,1)
 else(e,0)
def Tm.sb (e:Tm)(x:ByteArray)(b:Tm):Tm:=e.sub e.dp x b
def Tm.apl:Tm->Tm × Int
 | .mk k nm ot n ty re l=>
   if k=4 then(Tm.mk k nm ot n ty re l).opr l
   else if k=5 then(if(l.getD 0 tm0).kd=3 then(l.getD (2 - (l.getD 0 tm0).no).toNat tm0,2)else(.mk k nm ot n ty re l,0))
   else if k=7 then
    (if(l.getD 0 tm0).kd=6 then(((l.getD 0 tm0).pt 0).sb (l.getD 0 tm0).nm (l.getD 1 tm0),3)
    else if(l.getD 0 tm0).kd=9 then((((l.getD 0 tm0).pt 0).sb (l.getD 0 tm0).nm (l.getD 0 tm0)).sb (l.getD 0 tm0).ot (l.getD 1 tm0),4)
    else(.mk k nm ot n ty re l,0))
   else if k=8 then((l.getD 1 tm0).sb nm (l.getD 0 tm0),5)
   else if k=12 then(if(l.getD 0 tm0).kd=10 then((l.getD 0 tm0).pt 0,7)else(.mk k nm ot n ty re l,0))
   else if k=13 then(if(l.getD 0 tm0).kd=2\/(l.getD 0 tm0).kd=3 then(Tm.nod 10 [l.getD 0 tm0],8)else(.mk k nm ot n ty re l,0))
   else(.mk k nm ot n ty re l,0)
def vn (k:Int)(n:Nat):Nat:=if k=4\/k=7 then n else if k=5\/k=8\/k=12\/k=13 then 1 else 0
def goS (S:Tm->Tm × Int)(e:Tm):List Tm->Nat->Option (Tm × Int)
 | [],_=>none
 | x::xs,i=>if x.res then goS S e xs (i+1)else some (e.wth i (S x).1,(S x).2)
def Wm (S:Tm->Tm × Int)(e:Tm):Tm × Int × Bool:=
 if(e.pt 0).res then(if(e.pt 0).kd=10 then((e.pt 0).pt 0,6,true)else(e,0,true))else(e.wth 0 (S (e.pt 0)).1,(S (e.pt 0)).2,true)
mutual
def Tm.cod (S:Tm->Tm × Int):Tm->Int->Tm × Int × Bool
 | .mk k nm ot n ty re l,m=>if k=11/\m=1 then Wm S (.mk k nm ot n ty re l)else
   match yQ S l (zf k m)with
   | none=>(.mk k nm ot n ty re l,0,false)
   | some (l',r)=>(.mk k nm ot n ty re l',r,true)
def yQ (S:Tm->Tm × Int):List Tm->Int->Option (List Tm × Int)
 | [],_=>none
 | t::I,m=>if(t.cod S m).2.2 then some ((t.cod S m).1::I,(t.cod S m).2.1)else
   match yQ S I m with
   | none=>none
   | some (l',r)=>some (t::l',r)
end
def Tm.stp:Nat->Tm->Tm × Int
 | 0,e=>(e,0)
 | f+1,e=>if e.res then(e,0)else if e.kd=10 then(e.wth 0 ((e.pt 0).cod (Tm.stp f) 1).1,((e.pt 0).cod (Tm.stp f) 1).2.1)
   else match e with
    | .mk k nm ot n ty re l=>match goS (Tm.stp f) (.mk k nm ot n ty re l) (l.take (vn k l.length)) 0 with
      | some r=>r
      | none=>(Tm.mk k nm ot n ty re l).apl
theorem OR (e:Tm)(i:Nat):e.wth i (e.pt i)=e:=by
 cases e with
 | mk k nm ot n ty re l=>
 simp only[Tm.wth,Tm.pt];congr 1;apply nO;intro j;rw[nW];split
 ·rename_i h;subst h;split
  ·rename_i h;rw[zH h]
  ·rename_i h;rw[oS (by omega)]
 ·rfl
def NoR (S:Tm->Tm × Int):Prop:=∀ x,(S x).2=0->(S x).1=x
theorem XL {S:Tm->Tm × Int}(hS:NoR S):∀(t:Tm)(m:Int),(t.cod S m).2.1=0->(t.cod S m).1=t:=by
 refine Tm.ind λk nm ot n ty re l ih m h=>?_;simp only[Tm.cod]at h ⊢;by_cases U:k=11/\m=1
 ·rw[if_pos U]at h ⊢;unfold Wm at h ⊢;split
  ·rename_i I;rw[if_pos I]at h;split
   ·rename_i J;rw[if_pos J]at h;exact absurd (show(6:Int)=0 from h) (by decide)
   ·rfl
  ·rename_i I;rw[if_neg I]at h;simp only at h ⊢;rw[hS _ h,OR]
 ·rw [if_neg U]at h ⊢;have key:∀ xs:List Tm,(∀ x∈xs,x∈l)->∀ l' r,yQ S xs (zf k m)=some (l',r)->r=0->l'=xs:=by
   intro xs
   induction xs with
   | nil=>intro _ l' r h;simp[yQ]at h
   | cons x xs O=>
     intro Y l' r h hr;simp only[yQ]at h;split at h
     ·cases h;rw[ih x (Y x (by simp)) _ hr]
     ·split at h
      ·cases h
      ·rename_i l2 r2 J;cases h;rw[O (λy hy=>Y y (by simp[hy])) _ _ J hr]
  cases hc:yQ S l (zf k m)with
  | none=>rfl
  | some p=>obtain⟨l',r⟩:=p;rw[hc]at h;simp only at h ⊢;rw[key l (λx hx=>hx) l' r hc h]
theorem Ua {S:Tm->Tm × Int}(J:NoR S){e:Tm}:∀ {l:List Tm}{i:Nat}{r:Tm × Int},goS S e l i=some r->(∀ j x,l[j]?=some x->e.pt (i+j)=x)->r.2=0->r.1=e
 | [],_,_,h,_,_=>by simp[goS]at h
 | x::l,i,r,h,O,I=>by
   simp only[goS]at h;split at h
   ·exact Ua J h (λj y U=>by rw[show i+1+j=i+(j+1) by omega];exact O (j+1) y (by simpa using U)) I
   ·cases h;simp only at I ⊢;rw[J x I]
    have:=O 0 x rfl
    rw[mV]at this;rw[<-this,OR]
theorem W9 {c:Prop} [Decidable c]{x y:Tm × Int}{e:Tm}(I:x.2=0->x.1=e)(J:y.2=0->y.1=e)(h:(if c then x else y).2=0):(if c then x else y).1=e:=by
 by_cases hc:c
 ·rw[if_pos hc]at h ⊢;exact I h
 ·rw[if_neg hc]at h ⊢;exact J h
theorem Yz {t e:Tm}{r:Int}(I:r≠0)(h:((t,r):Tm × Int).2=0):((t,r):Tm × Int).1=e:=absurd h I
theorem Xm (e:Tm)(h:e.apl.2=0):e.apl.1=e:=by
 cases e with
 | mk k nm ot n ty re l=>
 revert h;simp only[Tm.apl,Tm.opr]
 repeat' first | exact λh=>Yz (by decide) h | exact λ_=>rfl | refine W9 ?_ ?_
theorem U1:∀ f,NoR (Tm.stp f)
 | 0,e,_=>rfl
 | f + 1,.mk k nm ot n ty re l,h=>by
   have O:=U1 f;simp only[Tm.stp]at h ⊢;split
   ·rfl
   ·rename_i Y;rw[if_neg Y]at h;by_cases U:(Tm.mk k nm ot n ty re l).kd=10
    ·rw[if_pos U]at h ⊢;simp only at h ⊢;rw[XL O _ _ h,OR]
    ·rw[if_neg U]at h ⊢;cases J:goS (Tm.stp f) (Tm.mk k nm ot n ty re l) (l.take (vn k l.length)) 0 with
     | none=>rw[J]at h;exact Xm _ h
     | some r=>
       rw[J]at h;refine Ua O J (λj x I=>?_) h;rw[ow];rw[oc]at I;split at I
       ·simp only[Tm.pt];rw[oA,I];rfl
       ·cases I
def Tm.step (e:Tm):Tm × Int:=if BF e 0 then(if(e.stp e.dp).2=0 then(e,0)else e.stp e.dp)else(e,0)
theorem UW {a b:Int}(I:0<=a/\a<=10006)(J:0<=b/\b<=10006):0<=a*b/\a*b<=100120036:=by refine⟨Int.mul_nonneg I.1 J.1,?_⟩;have O:a*b<=10006*b:=Int.mul_le_mul_of_nonneg_right I.2 J.1;omega
theorem Ob (n:Int):(if Int.tmod n 10007<0 then Int.tmod n 10007+10007 else Int.tmod n 10007)=red n:=by
 unfold red;by_cases h:0<=n
 ·rw[nu h,if_neg (by omega)]
 ·obtain⟨m,rfl⟩:∃ m,n = -m:=⟨-n,by omega⟩
  rw[Int.neg_tmod,nu (by omega)];split<;>omega
theorem Ug (n:Int) : -10007<Int.tmod n 10007/\Int.tmod n 10007<10007:=by
 by_cases h:0<=n
 ·rw[nu h];omega
 ·obtain⟨m,rfl⟩:∃ m,n = -m:=⟨-n,by omega⟩
  rw[Int.neg_tmod,nu (by omega)];omega
theorem Jt (n:Int):Dx 148 [.j n] (red n):=λN Q U=>by
 have Y:=Ug n;have I:=Ob n;refine JQ N n Q ⟨by omega,Br.dec (λh N1 J=>?_) λh N2 O=>?_⟩
 ·rw[i64_in _ (by omega)];rw[if_pos h]at I;exact Qi (U _ J) I.symm
 ·rw[if_neg h]at I;exact Qi (U _ O) I.symm
theorem JE (n:Int):Dx 164 [.j n] (red n):=λN Q J=>by have U:=Ug n;have O:=Ob n;refine JL N n Q ⟨by omega,by omega,λN1 I=>?_⟩;rw[i64_in _ (by omega)];refine Qi (J _ I) ?_;rw[<-O];generalize Int.tmod n 10007=m at *;rw[nu (by omega)];split<;>omega
def Xu (f:FuncId)(args:List PV)(r:Int × Bool):Prop:=∀(N:Nat) (Q:QT [.i,.bool]),(∀ N',N<=N'->Q r.1 r.2 N')->ACalls prog f [.i,.bool] args N Q
theorem Qp {Q:QT [.i,.bool]}{a b:Int × Bool}{N:Nat}(h:Q a.1 a.2 N)(e:a=b):Q b.1 b.2 N:=e ▸ h
theorem UN (b:Bool):Dx 149 [.bool b] (bI b):=λN Q J=>Lx N b Q (Br.of (λh N1 I=>Qi (J _ I) (by rw[h];rfl)) λh N1 I=>Qi (J _ I) (by rw[h];rfl))
theorem VA (b:Bool):Dx 57 [.bool b] (bI b):=λN Q J=>Pg N b Q (Br.of (λh N1 I=>Qi (J _ I) (by rw[h];rfl)) λh N1 I=>Qi (J _ I) (by rw[h];rfl))
theorem HW (s:ByteArray)(a b:Int):Xu 111 [.str s,.j a,.j b] (zE s a b):=λN Q O=>by
 refine Gy N s a b Q λN1 ac=>yx _ _ _ N1 _ λN2 ae _=>?_;by_cases I:inB a 0 10006=true
 rotate_left
 ·have I:inB a 0 10006=false:=by simpa using I
  rw[I];simp only[Bool.not_false,KC];have e:zE s a b=(0,false):=by unfold zE;rw[if_neg (by rw[I];decide)]
  exact λU Y=>Qp (b:=(0,false)) (O U (by omega)) e
 rw[I];simp only[lM,Eo];intro N4 ah;refine yx _ _ _ N4 _ λN5 ai _=>?_;by_cases J:inB b 0 10006=true
 rotate_left
 ·have J:inB b 0 10006=false:=by simpa using J
  rw[J];simp only[Bool.not_false,KC];have e:zE s a b=(0,false):=by unfold zE;rw[if_pos I,if_neg (by rw[J];decide)]
  exact λU Y=>Qp (b:=(0,false)) (O U (by omega)) e
 rw[J];simp only[lM,Eo];have aa:=zw.1 I;have ab:=zw.1 J;have hm:=UW aa ab;rw[i64_in (a+b) (by omega),i64_in (a - b) (by omega),i64_in (a*b) (by omega)];have fin:∀(x:Int) (y:Bool) (N':Nat),N<=N'->zE s a b=(x,y)->Q x y N':=λx y N' h e=>Qp (b:=(x,y)) (O N' h) e;unfold zE at fin;rw[if_pos I,if_pos J]at fin;clear O
 repeat' first|with_reducible intro _|simp only[Y1,Y2,Y3,Y4]|with_reducible refine X ?_ ?_|refine⟨_,_,_,rfl,?_⟩|refine⟨_,rfl,?_⟩|refine X0 ?_|refine(Jt _) _ _ ?_|refine(UN _) _ _ ?_|fail
 all_goals
  refine fin _ _ _ (by omega) ?_
  (repeat' split)<;>first | rfl | contradiction | (simp_all;done) | (congr 1;rw[show(a==1)=false by simpa using ‹¬a=1›];rfl)
theorem G5 (s:ByteArray)(a b:Int):Xu 156 [.str s,.j a,.j b] (zE s a b):=λN Q O=>by
 refine Gw N s a b Q λN1 ac=>ti _ N1 _ λN2 ae _=>?_;by_cases I:inB a 0 10006=true
 rotate_left
 ·have I:inB a 0 10006=false:=by simpa using I
  rw[I];simp only[Bool.not_false,KC];have e:zE s a b=(0,false):=by unfold zE;rw[if_neg (by rw[I];decide)]
  exact λU Y=>Qp (b:=(0,false)) (O U (by omega)) e
 rw[I];simp only[lM,Eo];intro N4 ah;refine ti _ N4 _ λN5 ai _=>?_;by_cases J:inB b 0 10006=true
 rotate_left
 ·have J:inB b 0 10006=false:=by simpa using J
  rw[J];simp only[Bool.not_false,KC];have e:zE s a b=(0,false):=by unfold zE;rw[if_pos I,if_neg (by rw[J];decide)]
  exact λU Y=>Qp (b:=(0,false)) (O U (by omega)) e
 rw[J];simp only[lM,Eo];have aa:=zw.1 I;have ab:=zw.1 J;have hm:=UW aa ab;rw[i64_in (a+b) (by omega),i64_in (a - b) (by omega),i64_in (a*b) (by omega)];have fin:∀(x:Int) (y:Bool) (N':Nat),N<=N'->zE s a b=(x,y)->Q x y N':=λx y N' h e=>Qp (b:=(x,y)) (O N' h) e;unfold zE at fin;rw[if_pos I,if_pos J]at fin;clear O
 repeat' first|with_reducible intro _|simp only[Y1,Y2,Y3,Y4]|with_reducible refine X ?_ ?_|refine⟨_,_,_,rfl,?_⟩|refine⟨_,rfl,?_⟩|refine X0 ?_|refine(JE _) _ _ ?_|refine(VA _) _ _ ?_|fail
 all_goals
  refine fin _ _ _ (by omega) ?_
  (repeat' split)<;>first | rfl | contradiction | (simp_all;done) | (congr 1;rw[show(a==1)=false by simpa using ‹¬a=1›];rfl)
structure Tm.F (e:Tm) (f:Nat):Prop where
 ok:e.ok=true
 d:e.dp<=f
 g:e.G
 b:e.dp<=1073741824
 w:e.wd<=137438953472
theorem Tm.F.up {e:Tm}{f g:Nat}(h:e.F f)(I:f<=g):e.F g:=⟨h.ok,oL h.d I,h.g,h.b,h.w⟩
theorem xq {k:Int} {nm ot:ByteArray} {n:Int} {ty re:Ty} {l:List Tm} (h:(Tm.mk k nm ot n ty re l).ok=true) :
  ((k=6\/k=9\/k=10\/k=11\/k=12\/k=13)->l.length=1)/\((k=7\/k=8)->l.length=2)/\(k=5->l.length=3)/\((k=1\/k=2\/k=3)->l.length=0)/\(k=4->(l.length:Int)=rU nm):=by
 simp only[Tm.ok,oG,nM]at h;obtain⟨_,_,h⟩:=h;unfold Cw at h;refine⟨?_,?_,?_,?_,?_⟩
 ·rintro(rfl | rfl | rfl | rfl | rfl | rfl)<;>(simp at h;omega)
 ·rintro(rfl | rfl)<;>(simp at h;omega)
 ·rintro rfl;simp at h;omega
 ·rintro(rfl | rfl | rfl)<;>simpa using h
 ·rintro rfl;simpa using h
theorem Tm.F.mem {k:Int}{nm ot:ByteArray}{n:Int}{ty re:Ty}{l:List Tm}{f:Nat}(h:(Tm.mk k nm ot n ty re l).F (f+1)):∀ y∈l,y.F f:=λy I=>by
 have J:=h.ok;have O:=h.d;have Y:=h.b;have U:=h.w;have h7:=(xq h.ok).2.2.2.1;simp only[Tm.ok,oG]at J;simp only[Tm.dp]at O Y;have h4:=tG I;have h5:∀ {l:List Tm},qv l=true->∀ x∈l,x.ok=true:=λ{l}=>by
  induction l with
  | nil=>intro _ x hx;simp at hx
  | cons t ts ih=>
    intro h x hx;simp only[qv,oG]at h;rcases oF.1 hx with rfl | hx
    ·exact h.1
    ·exact ih h.2 x hx
 refine⟨h5 J.1 y I,wC.1 (mP O) y I,zh h.g.2.2.2 I,by omega,?_⟩;have h8:=pi I;simp only[Tm.wd]at U;split at U
 ·rename_i hk;rw[oM (h7 (.inl hk))]at I;simp at I
 ·omega
theorem Wp:∀ t:Tm,t.ok=true->t.V:=by
 refine Tm.ind λk nm ot n ty re l I h=>?_;refine⟨λJ=>oM ((xq h).2.2.2.1 (.inl J)),uR.2 λx hx=>I x hx ?_⟩;simp only[Tm.ok,oG]at h;have O:∀ {l:List Tm},qv l=true->∀ x∈l,x.ok=true:=λ{l}=>by
  induction l with
  | nil=>intro _ x hx;simp at hx
  | cons t U I=>
    intro h x hx;simp only[qv,oG]at h;rcases oF.1 hx with rfl | hx
    ·exact h.1
    ·exact I h.2 x hx
 exact O h.1 x hx
theorem ZL:∀ t:Tm,t.ok=true->t.A3:=by refine Tm.ind λk nm ot n ty re l J h=>?_;have nd:=v8 h;have O:=nd.ar;have U:=sw k nm;exact⟨by omega,tu.2 λx I=>J x I (nd.sub x I)⟩
theorem Tm.F.of {e:Tm}{f:Nat}(I:e.ok=true)(J:e.dp<=f)(O:e.cnt<=4000000):e.F f:=⟨I,J,Tm.G_cnt e (by omega),by have:=e.dp_cnt;omega,by have:=Tm.vc_cnt e;have:=e.wd_vc;omega⟩
theorem Tm.F.z {e:Tm}{f:Nat}(h:e.F f):e.Z:=⟨h.g,by have:=h.w;omega,Wp _ h.ok⟩
theorem zB {l:List Tm}{i:Nat}(h:i<l.length):l.getD i tm0∈l:=oB (zH h)
theorem BA {e:Tm}(I:e.ok=true)(J:e.kd=3):e.no=0\/e.no=1:=by
 cases e with
 | mk k nm ot n ty re l=>
 simp only[Tm.kd]at J;subst J;simp only[Tm.ok,oG]at I;have O:=I.2.1;simp only[zK,oG,inB]at O;simp at O;simp only[Tm.no];omega
def RD (f:FuncId)(args:List PV)(r:Tm × Int):Prop:=∀(N:Nat) (Q:QT [.ag 9,.i]),(∀ d N',N<=N'->r.1.Is d->Q d r.2 N')->ACalls prog f [.ag 9,.i] args N Q
def Xa (f:FuncId)(args:List PV)(r:Tm × Int × Bool):Prop:=∀(N:Nat) (Q:QT [.ag 9,.i,.bool]),(∀ d N',N<=N'->r.1.Is d->Q d r.2.1 r.2.2 N')->ACalls prog f [.ag 9,.i,.bool] args N Q
def XQ (F:FuncId):Prop:=∀(t:Tm) (d:D),t.Is d->t.G->∀(N:Nat) (Q:QT [.pk,.i,.str,.str,.i,.dc,.dc,.dc,.dc,.row 29 9]),sF t N Q->ACalls prog F [.pk,.i,.str,.str,.i,.dc,.dc,.dc,.dc,.row 29 9] [.dg 9 d] N Q
theorem qn {F:FuncId} (hF:XQ F) {t:Tm} {d:D} (h:t.Is d) (hG:t.G) {N0 N:Nat} (h0:N0<=N) (Q':D->Nat->Prop) (hq:∀ d' N',N<=N'->t.Is d'->Own N0 N' d'->Q' d' N') :
  ACalls prog F [.pk,.i,.str,.str,.i,.dc,.dc,.dc,.dc,.row 29 9] [.dg 9 d] N (λn s aa ab x J O U es c N2=>N<=N2->Bel N2 (D.ag es)->(es.length=es.length/\c=c)/\(es.length=es.length/\c=c)/\∀ a Y,N2<=Y->Fresh N0 Y a [D.ag es,x,J,O,U]->∀ N4,Y<=N4 ->
   Q' (D.ag [D.j n,D.t s,D.t aa,D.j ab,x,J,O,U,D.sl a 9 es c]) N4):=by
 refine hF t d h hG N _ ?_;cases t with
 | mk k2 aj ak n2 al am l2=>
 simp only[sF];intro x4 x5 x6 x7 ao c' N2 aq ac I ae _ _;have au:=I.len;have aw:=hG.2.2.1;exact⟨⟨trivial,trivial⟩,⟨trivial,trivial⟩,λa2 Y ah hf N4 ai=>hq _ _ (by omega) (Tm.is_mk.2 ⟨_,_,_,_,_,_,_,rfl,ac,by omega,I⟩) ((rk (ae.mono h0 (oC _)) hf ah).mono (oC _) ai)⟩
theorem Yu {F:FuncId} (hF:XQ F) {t y:Tm} {d dy:D} (h:t.Is d) (hG:t.G) (hy:y.Is dy) {i:Nat} (hi:i<t.as.length) {N0 N:Nat} (Q':D->Nat->Prop) (hq:∀ d' N',N<=N'->(t.wth i y).Is d'->Q' d' N') :
  ACalls prog F [.pk,.i,.str,.str,.i,.dc,.dc,.dc,.dc,.row 29 9] [.dg 9 d] N (λn s aa ab x J O U es c N2=>N<=N2->Bel N2 (D.ag es)->(0<=(i:Int)/\(i:Int)<(es.length:Int)/\(0+(i:Int).toNat:Nat)<es.length)/\(0+(i:Int).toNat:Nat)<es.length /\
   (es.length=(List.set es (0+(i:Int).toNat:Nat) dy).length/\c=c)/\(es.length=(List.set es (0+(i:Int).toNat:Nat) dy).length/\c=c)/\(es.length=(List.set es (0+(i:Int).toNat:Nat) dy).length/\c=c)/\(es.length=(List.set es (0+(i:Int).toNat:Nat) dy).length/\c=c)/\(es.length=(List.set es (0+(i:Int).toNat:Nat) dy).length/\c=c) /\
   ∀ a N3,N2<=N3->Fresh N0 N3 a [D.ag (List.set es (0+(i:Int).toNat:Nat) dy),x,J,O,U]->∀ N4,N3<=N4 ->
   Q' (D.ag [D.j n,D.t s,D.t aa,D.j ab,x,J,O,U,D.sl a 9 (List.set es (0+(i:Int).toNat:Nat) dy) c]) N4):=by
 refine hF t d h hG N _ ?_;cases t with
 | mk k2 ae ah n2 ai aj l2=>
 simp only[sF];simp only[Tm.as]at hi;intro x4 x5 x6 x7 Y c' N2 ak ac I al _ _;have am:=I.len;have ao:=hG.2.2.1;rw[oH,ow];have hs:(List.set Y i dy).length=Y.length:=nU;exact⟨⟨by omega,by omega,by omega⟩,by omega,⟨hs.symm,trivial⟩,⟨hs.symm,trivial⟩,⟨hs.symm,trivial⟩,⟨hs.symm,trivial⟩,⟨hs.symm,trivial⟩,λa2 N3 aq hf N4 au=>hq _ _ (by omega) (Tm.is_mk.2 ⟨_,_,_,_,_,_,_,rfl,ac,by omega,sM I hy⟩)⟩
theorem Jb {k n:Int}:(Co k n).Is (.ag [.j k,.t (bytes []),.t (bytes []),.j n,.j 0,.sl none 2 [] 0,.j 0,.sl none 2 [] 0,.sl none 9 [] 0]):=
 Tm.is_mk.2 ⟨_,_,_,_,_,_,_,rfl,⟨by decide,by decide,Ty.is_mk.2 ⟨_,_,_,rfl,by simp,rfl⟩,Ty.is_mk.2 ⟨_,_,_,rfl,by simp,rfl⟩⟩,by simp,rfl⟩
theorem Kq {k n m:Int}{c1 I J O U Y c8:D}(h : -1152921504606846976<=m/\m<=1152921504606846976):Dx 104 [.dg 9 (.ag [.j k,c1,I,.j n,J,O,U,Y,c8]),.j m] (zf k m):=λN Q hQ=>by
 refine BX N _ m Q λ_=>?_;rw[i64_in (m+1) (by omega),i64_in (m - 1) (by omega)]
 repeat' first|with_reducible intro _|simp only[Y1,Y2,Y3,Y4]|with_reducible refine X ?_ ?_|refine⟨_,_,_,rfl,?_⟩|refine⟨_,rfl,?_⟩|refine X0 ?_|fail
 all_goals(refine Qi (hQ _ (by omega)) ?_;simp[zf, *])
def LvIn (m:Int)(d:Nat):Prop := -1152921504606846976<=m - (d:Int)/\m+(d:Int)<=1152921504606846976
theorem LvIn.next {k m:Int}{d d':Nat}(h:LvIn m d)(hd:d'+1<=d):LvIn (zf k m) d':=by
 unfold LvIn zf at *;split
 ·omega
 ·split<;>omega
theorem LvIn.b {m:Int}{d:Nat}(h:LvIn m d) : -1152921504606846976<=m/\m<=1152921504606846976:=by unfold LvIn at h;omega
theorem dp_mem {k:Int}{nm ot:ByteArray}{n:Int}{ty re:Ty}{l:List Tm}{y:Tm}(h:y∈l):y.dp+1<=(Tm.mk k nm ot n ty re l).dp:=by
 have:=wC.1 (oC (r8 l)) y h
 simp only[Tm.dp];omega
theorem KD:∀(t:Tm)(d:D),t.Is d->∀ m:Int,LvIn m t.dp->ws 62 [.dg 9 d,.j m] (t.made m):=by
 refine Tm.ind λk nm ot n ty re l ih d hd m hm N Q hQ=>?_;obtain⟨t0,t1,r0,r1,a,es,c,rfl,hh,O,U⟩:=Tm.is_mk.1 hd;have hl:=U.len;have key:∀(N':Nat),N<=N'->(∀ N'',N'<=N''->Q (vh l (zf k m)) N'')->xF Q N m 0 (.ag [.j k,.t nm,.t ot,.j n,t0,t1,r0,r1,.sl a 9 es c]) N':=by
  refine up U O (λi xs=>∀(N':Nat),N<=N'->(∀ N'',N'<=N''->Q (vh xs (zf k m)) N'')->xF Q N m i (.ag [.j k,.t nm,.t ot,.j n,t0,t1,r0,r1,.sl a 9 es c]) N') ?_ ?_
  ·intro i aa _ N' ab J;refine qe ?_
   repeat' first|with_reducible intro _|simp only[aa,Y1,Y2,Y3,Y4]|with_reducible refine X ?_ ?_|refine⟨_,_,_,rfl,?_⟩|refine⟨_,rfl,?_⟩|refine X0 ?_|fail
   exact Qb (J _ (by omega)) (by simp[vh])
  ·intro i x xs I _ ac N' ab J;have ah:=I.b;refine qe ?_
   repeat' first|with_reducible intro _|simp only[I.lt,I.w,oH,Y1,Y2,Y3,Y4]|with_reducible refine X ?_ ?_|refine⟨_,_,_,rfl,?_⟩|refine⟨_,rfl,?_⟩|refine X0 ?_|refine(Kq hm.b) _ _ ?_|refine(ih x I.m _ I.r _ (hm.next (dp_mem I.m))) _ _ ?_|fail
   ·refine Qb (J _ (by omega)) ?_;simp[vh, *]
   ·exact ac _ (by omega) λN'' h=>Qb (J N'' (by omega)) (by simp[vh, *])
 refine I7 N _ m Q λ_=>⟨_,rfl,Br.beq (λY=>Br.beq (λh2 N1 ae=>?_) λh2=>?_) λY=>?_⟩
 ·exact Qb (hQ _ ae) (by simp[Tm.made,Y,h2])
 ·exact key N (oC _) λN'' h=>Qb (hQ _ h) (by simp[Tm.made,Y,h2])
 ·exact key N (oC _) λN'' h=>Qb (hQ _ h) (by simp[Tm.made,Y])
theorem zo {e:Tm}{d:D}(he:e.Is d)(Y:e.ok=true)(ac:e.dp<=1073741824):ws 35 [.dg 9 d] e.res:=λN Q J=>by
 cases e with
 | mk k nm ot n0 ty re l=>
 obtain⟨t0,t1,r0,r1,a,es,c,rfl,hh,ab,U⟩:=Tm.is_mk.1 he;have hl:=U.len;refine qH N _ Q λ_=>⟨_,rfl,?_⟩
 refine Br.beq (λh2 N1 I=>Qb (J _ I) (by simp[Tm.res,HX,Tm.kd,h2])) λh2=>?_;refine Br.beq (λh3 N1 I=>Qb (J _ I) (by simp[Tm.res,HX,Tm.kd,h3])) λh3=>?_;refine Br.beq (λh6 N1 I=>Qb (J _ I) (by simp[Tm.res,HX,Tm.kd,h6])) λh6=>?_;refine Br.beq (λh9 N1 I=>Qb (J _ I) (by simp[Tm.res,HX,Tm.kd,h9])) λh9=>?_;refine Br.beq (λO N1 I=>?_) λO N1 I=>Qb (J _ I) (by simp[Tm.res,HX,Tm.kd,h2,h3,h6,h9,O]);subst O;have ae:=(xq Y).1 (by omega);have hm:=zB (l:=l) (i:=0) (by omega);have ah:=dp_mem (k:=10) (nm:=nm) (ot:=ot) (n:=n0) (ty:=ty) (re:=re) hm;refine FY _ _ he 0 N1 _ λN2 ai _=>Br.of (λhv=>⟨_,_,_,rfl,⟨by omega,by omega⟩,λN3 aa=>?_⟩) λhv N3 aa=>Qb (J _ (by omega)) (by simp[Tm.res,HX,Tm.kd,hv]);refine KD _ _ (zO U (j:=0) (by omega)) 1 (by unfold LvIn;omega) N3 _ λN4 aj _ N5 ak=>Qb (J _ (by omega)) ?_;simp[Tm.res,HX,Tm.kd,hv,Tm.pt]
theorem sJ {S:Tm->Tm × Int}{e:Tm}:∀ {l:List Tm}{i:Nat}{r:Tm × Int},goS S e l i=some r->∃ j x,l[j]?=some x/\x.res=false/\r=(e.wth (i+j) (S x).1,(S x).2)
 | [],_,_,h=>by simp[goS]at h
 | x::l,i,r,h=>by
   simp only[goS]at h;split at h
   ·obtain⟨j,y,I,J,O⟩:=sJ h;exact⟨j+1,y,by simpa using I,J,by rw[O,show i+1+j=i+(j+1) by omega]⟩
   ·rename_i U;exact⟨0,x,rfl,by simpa using U,(oT h).symm⟩
theorem Eh {S:Tm->Tm × Int}{e:Tm}:∀ {l:List Tm}{i:Nat},goS S e l i=none↔∀ x∈l,x.res=true
 | [],_=>by simp[goS]
 | x::l,i=>by
   simp only[goS,oF,nT];split
   ·rename_i I;rw[Eh (l:=l)];simp[I]
   ·rename_i I;simp[I]
theorem ZK:tm0.G:=by simp[tm0,Tm.G,OW,Ty.cnt,zL]
theorem Wt {e:Tm}{i:Nat}(h:e.G):(e.pt i).G:=by
 cases e with
 | mk k nm ot n ty re l=>
 simp only[Tm.pt];by_cases hi:i<l.length
 ·exact zh h.2.2.2 (zB hi)
 ·rw[oA,oS (by omega)];exact ZK
theorem We {e x:Tm}{i:Nat}(h:e.G)(J:x.G):(e.wth i x).G:=by
 cases e with
 | mk k nm ot n ty re l=>
 refine⟨h.1,h.2.1,by simpa using h.2.2.1,DF λy I=>?_⟩;rcases oe I with I | rfl
 ·exact zh h.2.2.2 I
 ·exact J
theorem Yw {e:Tm}(h:e.G):e.apl.1.G:=by
 cases e with
 | mk k nm ot n ty re l=>
 have g:∀ i,(l.getD i tm0).G:=λi=>Wt (e:=.mk k nm ot n ty re l) h;have I:∀ i j,((l.getD i tm0).pt j).G:=λi j=>Wt (g i);simp only[Tm.apl,Tm.opr];have s:∀(t b:Tm) (x:ByteArray),t.G->b.G->(t.sb x b).G:=λt b x J O=>P7 _ t x b J O;have U:∀ k n,(Co k n).G:=λk n=>by simp[Co,Tm.G,OW,Ty.cnt,zL]
 have nn:∀ x:Tm,x.G->(Tm.nod 10 [x]).G:=λx Y=>by simpa [Tm.nod,Tm.G,OW,Ty.cnt,zL]using Y
 (repeat' split)<;>first | exact h | exact g _ | exact I _ _ | exact s _ _ _ (I _ _) (g _) | exact s _ _ _ (s _ _ _ (I _ _) (g _)) (g _) | exact s _ _ _ (g _) (g _) | exact U _ _ | exact nn _ (g _)
theorem Yg {S:Tm->Tm × Int}(hS:∀ x:Tm,x.G->(S x).1.G):∀(t:Tm)(m:Int),t.G->(t.cod S m).1.G:=by
 refine Tm.ind λk nm ot n ty re l ih m h=>?_;simp only[Tm.cod];split
 ·unfold Wm;split
  ·split
   ·exact Wt (Wt h)
   ·exact h
  ·exact We h (hS _ (Wt h))
 ·have key:∀(xs:List Tm),(∀ x∈xs,x∈l)->∀ l' r,yQ S xs (zf k m)=some (l',r)->l'.length=xs.length/\∀ x∈l',x.G:=by
   intro xs
   induction xs with
   | nil=>intro _ l' r h;simp[yQ]at h
   | cons x xs O=>
     intro U l' r I;have J:=U x (by simp);simp only[yQ]at I;split at I
     ·cases I;refine⟨by simp,λy hy=>?_⟩;rcases oF.1 hy with rfl | hy
      ·exact ih x J _ (zh h.2.2.2 J)
      ·exact zh h.2.2.2 (U y (by simp[hy]))
     ·split at I
      ·cases I
      ·rename_i l2 r2 h3;cases I;obtain⟨Y,b2⟩:=O (λy hy=>U y (by simp[hy])) _ _ h3;refine⟨by simp[Y],λy hy=>?_⟩;rcases oF.1 hy with rfl | hy
       ·exact zh h.2.2.2 J
       ·exact b2 y hy
  cases hc:yQ S l (zf k m)with
  | none=>exact h
  | some p=>obtain⟨l',r⟩:=p;obtain⟨Y,b2⟩:=key l (λx J=>J) l' r hc;exact⟨h.1,h.2.1,by rw[Y];exact h.2.2.1,DF b2⟩
theorem W6:∀(f:Nat)(e:Tm),e.G->(e.stp f).1.G
 | 0,e,h=>h
 | f + 1,.mk k nm ot n ty re l,h=>by
   have I:=W6 f;simp only[Tm.stp];split
   ·exact h
   ·by_cases J:(Tm.mk k nm ot n ty re l).kd=10
    ·rw[if_pos J];exact We h (Yg I _ 1 (Wt h))
    ·rw[if_neg J];cases O:goS (Tm.stp f) (Tm.mk k nm ot n ty re l) (l.take (vn k l.length)) 0 with
     | none=>exact Yw h
     | some r=>obtain⟨j,x,U,Y,rfl⟩:=sJ O;exact We h (I x (zh h.2.2.2 (List.take_subset _ _ (oB U))))
def Ws (F:FuncId)(f:Nat):Prop:=∀(e:Tm) (d:D),e.Is d->e.F f->RD F [.dg 9 d] (e.stp f)
theorem Tm.F.dp {e:Tm}{f:Nat}(h:e.F f):e.dp<=1073741824:=h.b
theorem Xy {k:Int}{nm ot:ByteArray}{n:Int}{ty re:Ty}{l:List Tm}{i:Nat}:(Tm.mk k nm ot n ty re l).pt i=l.getD i tm0:=rfl
theorem Bq {t y:Tm} {d dy:D} (h:t.Is d) (I:t.G) (J:y.Is dy) {i:Nat} (hi:i<t.as.length) (N:Nat) (Q:QT [.ag 9]) (O:∀ d' N',N<=N'->(t.wth i y).Is d'->Q d' N') :
  ACalls prog 66 [.ag 9] [.dg 9 d,.j (i:Int),.dg 9 dy] N Q:=
 HG N _ _ _ Q λ_ _ N1 U=>Yu wr h I J hi (λd N=>Q d N) λd' N' h1 Y=>O _ _ (by omega) Y
theorem Iq {f:Nat} (hS:Ws 36 f) {k n0:Int} {nm ot:ByteArray} {ty re:Ty} {l:List Tm} {d:D} (h:(Tm.mk k nm ot n0 ty re l).Is d) (O:(Tm.mk k nm ot n0 ty re l).F (f+1)) {i:Nat} (hi:i<l.length) :
  RD 110 [.dg 9 d,.j (i:Int)] ((Tm.mk k nm ot n0 ty re l).wth i (Tm.stp f (l.getD i tm0)).1,(Tm.stp f (l.getD i tm0)).2):=λN Q U=>by
 obtain⟨t0,t1,r0,r1,a,es,c,rfl,hh,Y,I⟩:=Tm.is_mk.1 h;have hl:=I.len;refine Dz N _ _ Q λ_=>⟨_,_,_,rfl,⟨by omega,by omega⟩,λN1 aa=>?_⟩
 rw[oH];refine hS _ _ (zO I hi) (O.mem _ (zB hi)) N1 _ λdx N2 ab hx _ _=>Br.beq (λh0 N3 ac=>?_) λh0 N4 ae=>?_
 ·refine U _ _ (by omega) ?_;have e1:=U1 f _ h0;simp only;rw[e1,<-Xy (k:=k) (nm:=nm) (ot:=ot) (n:=n0) (ty:=ty) (re:=re),OR];exact h
 ·exact Bq h O.z.g hx hi N4 _ λd' N5 ah J _ _ N6 ai=>U _ _ (by omega) J
theorem R6 {f:Nat}(hS:Ws 36 f):∀(t:Tm)(d:D),t.Is d->t.F (f+1)->∀ m:Int,LvIn m t.dp->Xa 65 [.dg 9 d,.j m] (t.cod (Tm.stp f) m):=by
 refine Tm.ind λk nm ot n0 ty re l ih d hd hF m hm N Q J=>?_;have Y:=hd;obtain⟨t0,t1,r0,r1,a,es,c,rfl,hh,aj,ab⟩:=Tm.is_mk.1 hd;have hl:=ab.len;have loop:¬(k=11/\m=1)->yX Q N m 0 (.ag [.j k,.t nm,.t ot,.j n0,t0,t1,r0,r1,.sl a 9 es c]) 0 (bytes []) (bytes []) 0 0 none [] 0 0 none [] 0 none [] 0 N:=λao=>by
  simp only[Tm.cod]at J;rw[if_neg ao]at J;refine up ab aj (λi xs=>∀ N',N<=N'->(match yQ (Tm.stp f) xs (zf k m)with | none=>yQ (Tm.stp f) l (zf k m)=none | some (l',r)=>yQ (Tm.stp f) l (zf k m)=some (l.take i++l',r)) ->
   yX Q N m i (.ag [.j k,.t nm,.t ot,.j n0,t0,t1,r0,r1,.sl a 9 es c]) 0 (bytes []) (bytes []) 0 0 none [] 0 0 none [] 0 none [] 0 N') ?_ ?_ N (oC _) ?_
  ·intro i aq hi N' au O;simp only[yQ]at O;rw[O]at J;refine rL ⟨_,_,_,rfl,?_⟩;rw[aq];exact λN2 ak=>J _ _ (by omega) Y
  ·intro i x xs I aw ax N' au O;have hb:=I.b;have al:i<l.length:=(oD.1 I.g).1;refine rL ⟨_,_,_,rfl,?_⟩;rw[I.lt,oH,I.w];refine⟨_,_,_,rfl,⟨by omega,by omega⟩,λN1 ay=>Kq hm.b N1 _ λN2 ak _ N3 az=>?_⟩;refine ih x I.m _ I.r ((hF.mem x I.m).up (by omega)) _ (hm.next (dp_mem I.m)) N3 _ λdx N4 a6 hx _ _=>Br.of (λhv N5 a7=>?_) λhv=>?_
   ·simp only[yQ]at O;rw[if_pos hv]at O;simp only at O;rw[O]at J;refine Bq Y hF.z.g hx al N5 _ λd' N6 a8 ac _ _ N7 ba=>J _ _ (by omega) ?_;have:l.take i++(x.cod (Tm.stp f) (zf k m)).1::xs=l.set i (x.cod (Tm.stp f) (zf k m)).1:=by rw[List.set_eq_take_append_cons_drop,if_pos al,aw]
    simp only;rw[this];exact ac
   ·refine ax _ (by omega) ?_;simp only[yQ]at O;rw[if_neg (by rw[hv];decide)]at O;cases hc:yQ (Tm.stp f) xs (zf k m)with
    | none=>rw[hc]at O;exact O
    | some p=>obtain⟨l',r⟩:=p;rw[hc]at O;simp only at O ⊢;rw[O,wj I.g,mD];rfl
  ·cases hc:yQ (Tm.stp f) l (zf k m)with
   | none=>rfl
   | some p=>obtain⟨l',r⟩:=p;simp
 refine Gx N _ m Q λ_=>⟨_,rfl,Br.beq (λh1=>Br.beq (λh2=>?_) λh2=>loop λh=>h2 h.2) λh1=>loop λh=>h1 h.1⟩
 have bi:=(xq hF.ok).1 (by omega);have ae:0<l.length:=by omega
 have am:=zB ae;have U:=hF.mem _ am;have ah:=zO ab ae;simp only[Tm.cod]at J;rw[if_pos ⟨h1,h2⟩]at J;unfold Wm at J;rw[Xy]at J;refine⟨_,_,_,rfl,⟨by omega,by omega⟩,λN1 ay=>zo ah U.ok U.dp N1 _ λN2 ak _=>Br.not (λhr N3 az=>?_) λhr=>?_⟩
 ·rw[if_neg (by rw[hr];decide)]at J;exact Iq hS Y hF ae N3 _ λdx N4 a6 hx _ _ N5 a7=>J _ _ (by omega) hx
 ·rw[if_pos hr]at J;generalize l.getD 0 tm0=p at ah U hr J am;cases p with
  | mk pk pn po pm pt pr pl=>
  obtain⟨u0,u1,v0,v1,a2,bj,c2,heq,bm,bc,aa⟩:=Tm.is_mk.1 ah;have bp:=aa.len;rw[heq];refine⟨_,rfl,Br.beq (λai=>?_) λai bq bh=>?_⟩
  ·rw[if_pos (by exact ai)]at J;have bt:=(xq U.ok).1 (by omega);have bg:=zB (l:=pl) (i:=0) (by omega);refine⟨_,_,_,rfl,⟨by omega,by omega⟩,λN6 a8=>?_⟩;refine qn wr (zO aa (j:=0) (by omega)) (zh U.z.g.2.2.2 bg) (N0:=N) (by omega) (λd N=>Q d 6 true N) λd' N7 ba ac _=>J _ _ (by omega) ac
  ·rw[if_neg (by exact ai)]at J;exact J _ _ (by omega) Y
def G3 (l:List Tm)(i:Nat):List D:=[.j (if 0<i then(l.getD 0 tm0).no else 0),.j (if 1<i then(l.getD 1 tm0).no else 0)]
theorem Nw {l:List Tm}{i:Nat}(hi:i<2):(G3 l i).set i (.j ((l.getD i tm0).no))=G3 l (i+1):=by
 match i,hi with
 | 0,_=>rfl
 | 1,_=>rfl
theorem CY {l:List Tm}{i:Nat}(h:l.length<=i):l.getD i tm0=tm0:=by rw[oA,oS h];rfl
theorem NW {l:List Tm}(h:l.length<=2):G3 l l.length=[.j ((l.getD 0 tm0).no),.j ((l.getD 1 tm0).no)]:=by
 unfold G3;by_cases I:0<l.length
 ·by_cases J:1<l.length
  ·rw[if_pos I,if_pos J]
  ·rw[if_pos I,if_neg J,CY (i:=1) (by omega)];rfl
 ·rw[if_neg I,if_neg (by omega),CY (i:=0) (by omega),CY (i:=1) (by omega)];rfl
theorem KF (s:ByteArray):rU s<=2:=by unfold rU;(repeat' split)<;>decide
theorem Tu (n:Int)(N:Nat)(Q:QT [.ag 9])(J:∀ d N',N<=N'->(Co 2 n).Is d->Q d N'):ACalls prog 112 [.ag 9] [.j n] N Q:=Dh N n Q λN1 I=>J _ _ I Jb
theorem Qe (n:Int)(N:Nat)(Q:QT [.ag 9])(J:∀ d N',N<=N'->(Co 3 n).Is d->Q d N'):ACalls prog 113 [.ag 9] [.j n] N Q:=Cn N n Q λN1 I=>J _ _ I Jb
theorem Ir {S:Tm->Tm × Int}{e:Tm}{i:Nat}{x:Tm}{xs:List Tm}(h:x.res=true):goS S e (x::xs) i=goS S e xs (i+1):=by simp[goS,h]
theorem VO {n0:Int}{nm ot:ByteArray}{ty re:Ty}{l:List Tm}(h:∀ x∈l,x.kd=zR nm):(Tm.mk 4 nm ot n0 ty re l).opr l=(Co (w7 nm) (zE nm (l.getD 0 tm0).no (l.getD 1 tm0).no).1,1):=by unfold Tm.opr;rw[if_pos (oY.2 λx I=>by rw[h x I];exact beq_self_eq_true _)];rfl
theorem Vj {n0:Int}{nm ot:ByteArray}{ty re:Ty}{l:List Tm}{x:Tm}(I:x∈l)(h:x.kd≠zR nm):(Tm.mk 4 nm ot n0 ty re l).opr l=(Tm.mk 4 nm ot n0 ty re l,0):=by unfold Tm.opr;rw[if_neg λhc=>h (by have:=oY.1 hc _ I;simpa [Tm.nm]using this)]
theorem Km {n0:Int} {nm ot:ByteArray} {ty re:Ty} {l:List Tm} {t0 t1 r0 r1:D} {a:Option Addr} {es:List D} {c:Nat} (ae:(Tm.mk 4 nm ot n0 ty re l).Is (.ag [.j 4,.t nm,.t ot,.j n0,t0,t1,r0,r1,.sl a 9 es c])) (ab:All2 Tm.Is l es) (ac:es.length<=4611686018427387904) (ah:l.length<=2) {N:Nat} {Q:QT [.ag 9,.i]} (U:∀ d N',N<=N'->((Tm.mk 4 nm ot n0 ty re l).opr l).1.Is d->Q d ((Tm.mk 4 nm ot n0 ty re l).opr l).2 N') (N':Nat) (O:N<=N') :
  xD Q N (zR nm) 2 2 0 (.ag [.j 4,.t nm,.t ot,.j n0,t0,t1,r0,r1,.sl a 9 es c]) 0 (bytes []) (bytes []) 0 0 none [] 0 0 none [] 0 none [] 0 [.j 0,.j 0] 2 N':=by
 have hl:=ab.len;refine up ab ac (λi xs=>∀ N',N<=N'->(∀ j x,j<i->l[j]?=some x->x.kd=zR nm)->xD Q N (zR nm) 2 2 i (.ag [.j 4,.t nm,.t ot,.j n0,t0,t1,r0,r1,.sl a 9 es c]) 0 (bytes []) (bytes []) 0 0 none [] 0 0 none [] 0 none [] 0 (G3 l i) 2 N') ?_ ?_ N' O (λj x h=>absurd h (by omega))
 ·intro i ai hi N' O hk;rw[VO λx Y=>by obtain⟨j,hj⟩:=oQ.1 Y;exact hk j x (by have:=(oD.1 hj).1;omega) hj]at U;refine pI ⟨_,_,_,rfl,?_⟩;rw[ai];have aj:i=l.length:=by omega
  rw[aj,NW ah];refine⟨_,rfl,⟨⟨by omega,by omega,by simp⟩,by simp,_,rfl,⟨by omega,by omega,by simp⟩,by simp,_,rfl,λN2 az=>HW _ _ _ N2 _ λN3 a6 _=>⟨_,rfl,?_⟩⟩⟩;have J:DE nm=true->∀ N4,N3<=N4->ACalls prog 112 [.ag 9] [.j (zE nm (l.getD 0 tm0).no (l.getD 1 tm0).no).1] N4 (λx N5=>N4<=N5->Bel N5 x->∀ N6,N5<=N6->Q x 1 N6):=λho N4 ak=>by rw[show w7 nm=2 by unfold w7;rw[if_pos ho]]at U;exact Tu _ N4 _ λx N5 al Y _ _ N6 am=>U _ _ (by omega) Y
  refine Br.str (λe1=>J (by simp[DE,e1])) λe1=>⟨_,rfl,Br.str (λe2=>J (by simp[DE,e2])) λe2=>⟨_,rfl,Br.str (λe3=>J (by simp[DE,e3])) λe3 N4 ak=>?_⟩⟩
  rw[show w7 nm=3 by unfold w7;rw[if_neg (by simp[DE,e1,e2,e3])]]at U;exact Qe _ N4 _ λx N5 al Y _ _ N6 am=>U _ _ (by omega) Y
 ·intro i x xs I a7 ao N' O hk;have hb:=I.b;have Y:=I.r;refine pI ⟨_,_,_,rfl,?_⟩;rw[I.lt,oH,I.w];have aq:l.getD i tm0=x:=by rw[oA,I.g];rfl
  cases x with
  | mk pk pn po pm pt pr pl=>
  obtain⟨u0,u1,v0,v1,a2,a8,c2,heq,ba,au,ay⟩:=Tm.is_mk.1 Y;refine⟨_,_,_,rfl,⟨by omega,by omega⟩,pk,by rw[heq];rfl,Br.bne (λaw N1 bc=>?_) λhe=>⟨_,_,_,rfl,⟨by omega,by omega⟩,pm,by rw[heq];rfl,⟨by omega,by omega,by simp only[G3,oO,oU];omega⟩,by simp only[G3,oO,oU];omega,?_⟩⟩
  ·rw[Vj I.m aw]at U;exact U _ _ (by omega) ae
  ·rw[ow];have aa:=Nw (l:=l) (i:=i) (by omega);rw[aq]at aa;simp only[Tm.no]at aa;rw[aa];refine ao _ O λj y hj hy=>?_;by_cases ax:j<i
   ·exact hk j y ax hy
   ·have:j=i:=by omega
    subst this;rw[I.g]at hy;rw[<-oT hy];exact he
theorem Vo {f:Nat} (hS:Ws 36 f) {n0:Int} {nm ot:ByteArray} {ty re:Ty} {l:List Tm} {d:D} (hd:(Tm.mk 4 nm ot n0 ty re l).Is d) (hF:(Tm.mk 4 nm ot n0 ty re l).F (f+1)) {r:Tm × Int} (hr:(match goS (Tm.stp f) (Tm.mk 4 nm ot n0 ty re l) l 0 with | some r=>r | none=>(Tm.mk 4 nm ot n0 ty re l).opr l)=r) :
  RD 63 [.dg 9 d] r:=λN Q hQ=>by
 have aa:=hd;obtain⟨t0,t1,r0,r1,a,es,c,rfl,hh,U,Y⟩:=Tm.is_mk.1 hd;have hl:=Y.len;have ae:l.length<=2:=by have h1:=(xq hF.ok).2.2.2.2 rfl;have h2:=KF nm;omega
 have J:(∀ x∈l,x.res=true)->∀ N',N<=N'->xD Q N (zR nm) 2 2 0 (.ag [.j 4,.t nm,.t ot,.j n0,t0,t1,r0,r1,.sl a 9 es c]) 0 (bytes []) (bytes []) 0 0 none [] 0 0 none [] 0 none [] 0 [.j 0,.j 0] 2 N':=λab N' O=>by
  have hg:goS (Tm.stp f) (Tm.mk 4 nm ot n0 ty re l) l 0=none:=by
   have:∀(xs:List Tm) (i:Nat),(∀ x∈xs,x.res=true)->goS (Tm.stp f) (Tm.mk 4 nm ot n0 ty re l) xs i=none:=by
    intro xs
    induction xs with
    | nil=>intro i _;rfl
    | cons x xs ih=>intro i h;rw[Ir (h x (by simp))];exact ih _ λy hy=>h y (by simp[hy])
   exact this l 0 ab
  rw[hg]at hr;simp only at hr;subst hr;exact Km aa Y U ae hQ N' O
 have first:zi Q N (zR nm) 2 2 0 (.ag [.j 4,.t nm,.t ot,.j n0,t0,t1,r0,r1,.sl a 9 es c]) 0 (bytes []) (bytes []) 0 0 none [] 0 0 none [] 0 none [] 0 [.j 0,.j 0] 2 N:=by
  refine up Y U (λi xs=>∀ N',N<=N'->(∀ j x,j<i->l[j]?=some x->x.res=true)->(match goS (Tm.stp f) (Tm.mk 4 nm ot n0 ty re l) xs i with | some r=>r | none=>(Tm.mk 4 nm ot n0 ty re l).opr l)=r->zi Q N (zR nm) 2 2 i (.ag [.j 4,.t nm,.t ot,.j n0,t0,t1,r0,r1,.sl a 9 es c]) 0 (bytes []) (bytes []) 0 0 none [] 0 0 none [] 0 none [] 0 [.j 0,.j 0] 2 N') ?_ ?_ N (oC _) (λj x h=>absurd h (by omega)) hr
  ·intro i ah hi N' O hk _;refine uJ ⟨_,_,_,rfl,?_⟩;rw[ah];refine J (λx hx=>?_) N' O;obtain⟨j,hj⟩:=oQ.1 hx;exact hk j x (by have:=(oD.1 hj).1;omega) hj
  ·intro i x xs I al ai N' O hk he;have hb:=I.b;have aj:i<l.length:=(oD.1 I.g).1;obtain rfl:l.getD i tm0=x:=by rw[oA,I.g];rfl
   have ac:=hF.mem _ I.m;refine uJ ⟨_,_,_,rfl,?_⟩;rw[I.lt,oH,I.w];refine⟨_,_,_,rfl,⟨by omega,by omega⟩,λN1 am=>zo I.r ac.ok ac.dp N1 _ λN2 ao _=>Br.not (λhv N3 aq=>?_) λhv=>?_⟩
   ·simp only[goS]at he;rw[if_neg (by rw[hv];decide)]at he;simp only at he;subst he;exact Iq hS aa hF aj N3 _ λdx N4 au hx _ _ N5 aw=>hQ _ _ (by omega) hx
   ·rw[Ir hv]at he;refine ai _ (by omega) (λj y hj hy=>?_) he;by_cases ak:j<i
    ·exact hk j y ak hy
    ·have:j=i:=by omega
     subst this;rw[I.g]at hy;rw[<-oT hy];exact hv
 refine Dj N _ Q λ_=>⟨_,rfl,Br.str (λe1=>?_) λe1=>⟨_,rfl,Br.str (λe2=>?_) λe2=>⟨_,rfl,Br.str (λe3=>?_) λe3=>?_⟩⟩⟩
 ·have:zR nm=3:=by simp[zR,xM,e1]
  rw[this]at first;exact first
 ·have:zR nm=3:=by simp[zR,xM,e2]
  rw[this]at first;exact first
 ·have:zR nm=3:=by simp[zR,xM,e3]
  rw[this]at first;exact first
 ·have:zR nm=2:=by simp[zR,xM,e1,e2,e3]
  rw[this]at first;exact first
end Go.Proofs.YtligajflgjpdnaaGreatDoor
