/- Substitution: how deep, how great (no program in sight). -/
import Derived.Test.YtfajiphkncipoaaGreatDoorA7
import Derived.Test.YtfajiphkncipoaaGreatDoorA8
import Derived.Test.YtfajiphkncipoaaGreatDoorKf
set_option linter.unusedVariables false
set_option linter.unusedSimpArgs false
namespace Go.Proofs.YtfajiphkncipoaaGreatDoor
open Go Go.Proofs Go.Proofs.Tryz Go.IntWalk
mutual
/-- variables have no parts -/
def Tm.V:Tm->Prop
 | .mk k _ _ _ _ _ l=>(k=1->l=[])/\zQ1 l
def zQ1:List Tm->Prop
 | []=>True
 | t::I=>t.V/\zQ1 I
end
theorem sX:∀ {l:List Tm},zQ1 l↔∀ x∈l,x.V
 | []=>by simp [zQ1]
 | t::I=>by simp only [zQ1,sX (l:=I),oF,nk]
theorem ww:∀ {l:List Tm} {n:Nat},wT l<=n↔∀ x∈l,x.dp<=n
 | [],n=>by simp [wT]
 | t::I,n=>by simp only [wT,Nat.max_le,ww (l:=I),oF,nk]
/-- no greater, no deeper -/
structure LeT (t' t:Tm):Prop where
 c:t'.vc<=t.vc
 d:t'.dp<=t.dp
 v:t.V->t'.V
 g:t.G->t'.G
 s:t'.sz<=t.sz
 n:t'.cnt<=t.cnt
theorem LeT.rfl {t:Tm}:LeT t t:=⟨oD _,oD _,id,id,oD _,oD _⟩
theorem LeT.trans {a b c:Tm} (h:LeT a b) (I:LeT b c):LeT a c:=⟨oO h.c I.c,oO h.d I.d,λJ=>h.v (I.v J),λJ=>h.g (I.g J),oO h.s I.s,oO h.n I.n⟩
theorem zLe:∀ {l' l:List Tm},l'.length=l.length->(∀ (i:Nat) (t' t:Tm),l'[i]?=some t'->l[i]?=some t->LeT t' t)->zAv l'<=zAv l/\wT l'<=wT l/\(zQ1 l->zQ1 l')/\(zLu l->zLu l')/\ri l'<=ri l/\zh l'<=zh l
 | [],[],_,_=>⟨oD _,oD _,id,id,oD _,oD _⟩
 | [],_::_,h,_=>by simp at h
 | _::_,[],h,_=>by simp at h
 | t'::O,t::Y,h,U=>by
   obtain ⟨h1,h2,h3,h4,h5,h6⟩:=zLe (l':=O) (l:=Y) (by simpa using h) λi a b ha hb=>U (i+1) a b (by simpa using ha) (by simpa using hb)
   have I:=U 0 t' t (by simp) (by simp)
   have:=I.c
   have:=I.d
   have:=I.s
   have:=I.n
   refine ⟨by simp only [zAv];omega,by simp only [wT];omega,λJ=>⟨I.v J.1,h3 J.2⟩,λJ=>⟨I.g J.1,h4 J.2⟩,by simp only [ri];omega,by simp only [zh];omega⟩
theorem zB6 {l:List Tm} {g:Tm->Tm} {j:Nat} {v t' t:Tm} {i:Nat} (h:((l.map g).set j v)[i]?=some t') (J:l[i]?=some t):(i=j/\t'=v)\/(i≠j/\t'=g t):=by
 rw [nO] at h
 split at h
 ·rename_i I
  split at h
  ·exact .inl ⟨I.symm,(oW h).symm⟩
  ·cases h
 ·rename_i I
  rw [oE,J] at h
  exact .inr ⟨λhc=>I hc.symm,(oW h).symm⟩
theorem zNy {k:Int} {nm ot J O:ByteArray} {n:Int} {ty re:Ty} {l l':List Tm} (U:k≠1) (h:l'.length=l.length) (Y:∀ (i:Nat) (t' t:Tm),l'[i]?=some t'->l[i]?=some t->LeT t' t):LeT (.mk k J O n ty re l') (.mk k nm ot n ty re l):=by
 obtain ⟨h1,h2,h3,h4,h5,h6⟩:=zLe h Y
 exact ⟨by simp only [Tm.vc,if_neg U];omega,by simp only [Tm.dp];omega,λI=>⟨λhc=>absurd hc U,h3 I.2⟩,λI=>⟨I.1,I.2.1,h ▸ I.2.2.1,h4 I.2.2.2⟩,by simp only [Tm.sz];omega,by simp only [Tm.cnt];omega⟩
theorem zBa {S:Tm->ByteArray->Tm->Tm} (I:∀ t x y,LeT (S t x (vF y)) t) (k:Int) (n:Nat) (fb:List ByteArray) (x old:ByteArray) (s:ByteArray × ByteArray × Tm):LeT (rn1 S k n fb x old s).2.2 s.2.2:=by
 unfold rn1
 split
 ·split
  ·exact I _ _ _
  ·exact I _ _ _
 ·exact LeT.rfl
theorem pa {S:Tm->ByteArray->Tm->Tm} (I:∀ t x y,LeT (S t x (vF y)) t) (k:Int) (n:Nat) (fb:List ByteArray) (x:ByteArray):∀ (l:List ByteArray) (s:ByteArray × ByteArray × Tm),LeT (rns S k n fb x l s).2.2 s.2.2
 | [],s=>LeT.rfl
 | old::l,s=>(pa I k n fb x l _).trans (zBa I k n fb x old s)
/-- a name put for a name -/
theorem wH:∀ (f:Nat) (t:Tm) (x y:ByteArray),LeT (t.sub f x (vF y)) t
 | 0,t,x,y=>by simp only [Tm.sub];exact LeT.rfl
 | f + 1,.mk k nm ot n ty re l,x,y=>by
   have U:=wH f
   simp only [Tm.sub]
   split
   ·rename_i Y
    split
    ·exact ⟨by simp only [vF,Tm.vc,if_pos Y,ma];exact oD _,by simp only [vF,Tm.dp,wT];omega,λ_=>⟨λ_=>rfl,trivial⟩,λ_=>by simp [vF,Tm.G,zLu,Ty.cnt,zM],by simp only [vF,Tm.sz,ri];omega,by have:=Ty.cnt_pos ty;have:=Ty.cnt_pos re;simp only [vF,Tm.cnt,zh,Ty.cnt,zM];omega⟩
    ·exact LeT.rfl
   ·rename_i Y
    split
    ·refine zNy Y (by simp) λi t' t I J=>?_
     rw [oE,J] at I
     cases I
     exact U t x y
    ·rename_i hb
     obtain ⟨g1,g2⟩:=wE hb
     split
     ·refine zNy Y (by simp) λi t' t I J=>?_
      rcases zB6 I J with ⟨h1,O⟩ | ⟨h1,O⟩
      ·rw [h1,zX g1] at J
       rw [O,<-oW J]
       exact LeT.rfl
      ·rw [O];exact U t x y
     ·refine zNy Y (by simp) λi t' t I J=>?_
      rcases zB6 I J with ⟨h1,O⟩ | ⟨h1,O⟩
      ·rw [h1,zX g1] at J
       rw [O,<-oW J]
       exact (U _ x y).trans (pa U _ _ _ _ _ _)
      ·rw [O];exact U t x y
/-- what holds of each node of what is put in -/
theorem zPQ:∀ (f:Nat) (t:Tm) (x:ByteArray) (b:Tm),t.G->b.G->(t.sub f x b).G
 | 0,t,x,b,h,_=>by simp only [Tm.sub];exact h
 | f + 1,.mk k nm ot n ty re l,x,b,h,U=>by
   have I:=zPQ f
   obtain ⟨Y,h2,h3,h4⟩:=h
   have vG:∀ y,(vF y).G:=λy=>by simp [vF,Tm.G,zLu,Ty.cnt,zM]
   simp only [Tm.sub]
   split
   ·split
    ·exact U
    ·exact ⟨Y,h2,h3,h4⟩
   ·split
    ·refine ⟨Y,h2,by simpa using h3,zBk λy J=>?_⟩
     obtain ⟨z,hz,rfl⟩:=oQ.1 J
     exact I z x b (zn h4 hz) U
    ·rename_i aa
     obtain ⟨g1,g2⟩:=wE aa
     have O:=zn h4 (oB (zX g1))
     have key:∀ v:Tm,v.G->zLu ((l.map λt=>Tm.sub f t x b).set (zQ k l.length).toNat v):=λv hv=>zBk λy J=>by
      rcases oi J with J | rfl
      ·obtain ⟨z,hz,rfl⟩:=oQ.1 J
       exact I z x b (zn h4 hz) U
      ·exact hv
     split
     ·exact ⟨Y,h2,by simpa using h3,key _ O⟩
     ·refine ⟨Y,h2,by simpa using h3,key _ (I _ x b ?_ U)⟩
      have r1:∀ (old:ByteArray) (s:ByteArray × ByteArray × Tm),s.2.2.G->(rn1 (Tm.sub f) k l.length b.fv x old s).2.2.G:=λold s hs=>by
       unfold rn1
       split
       ·split
        ·exact I _ _ _ hs (vG _)
        ·exact I _ _ _ hs (vG _)
       ·exact hs
      have rs:∀ (ns:List ByteArray) (s:ByteArray × ByteArray × Tm),s.2.2.G->(rns (Tm.sub f) k l.length b.fv x ns s).2.2.G:=by
       intro ns
       induction ns with
       | nil=>exact λs hs=>hs
       | cons o os ab=>exact λs hs=>ab _ (r1 o s hs)
      exact rs _ _ O
theorem zSm:∀ (f:Nat) (t:Tm) (x:ByteArray) (b:Tm),t.V->b.V->(t.sub f x b).V
 | 0,t,x,b,h,_=>by simp only [Tm.sub];exact h
 | f + 1,.mk k nm ot n ty re l,x,b,h,Y=>by
   have ih:=zSm f
   obtain ⟨h1,J⟩:=h
   have J:=sX.1 J
   simp only [Tm.sub]
   split
   ·split
    ·exact Y
    ·exact ⟨h1,sX.2 J⟩
   ·rename_i hk
    have I:∀ l':List Tm,k=1->l'=[]:=λ_ hc=>absurd hc hk
    split
    ·refine ⟨I _,sX.2 λy O=>?_⟩
     obtain ⟨z,hz,rfl⟩:=oQ.1 O
     exact ih z x b (J z hz) Y
    ·rename_i aa
     obtain ⟨g1,g2⟩:=wE aa
     have U:=J _ (oB (zX g1))
     have key:∀ v:Tm,v.V->zQ1 ((l.map λt=>Tm.sub f t x b).set (zQ k l.length).toNat v):=λv hv=>sX.2 λy O=>by
      rcases oi O with O | rfl
      ·obtain ⟨z,hz,rfl⟩:=oQ.1 O
       exact ih z x b (J z hz) Y
      ·exact hv
     split
     ·exact ⟨I _,key _ U⟩
     ·exact ⟨I _,key _ (ih _ x b ((pa (wH f) _ _ _ _ _ _).v U) Y)⟩
theorem zBl {k:Int} {nm ot:ByteArray} {n:Nat} {z:ByteArray}:z∈bdN k nm ot n↔(k=6/\n=1\/k=8/\n=2\/k=9/\n=1)/\z=nm\/(k=9/\n=1)/\z=ot:=by
 unfold bdN
 by_cases I:k=6/\n=1
 ·rw [if_pos I];simp [I.1,I.2]
 ·rw [if_neg I]
  by_cases J:k=8/\n=2
  ·rw [if_pos J];simp [J.1,J.2]
  ·rw [if_neg J]
   by_cases O:k=9/\n=1
   ·rw [if_pos O];simp [O.1,O.2]
   ·rw [if_neg O];simp [I,J,O]
/-- what is free in what is put together -/
def FvS (f:Nat):Prop:=∀ (t:Tm) (x:ByteArray) (b:Tm),t.dp<=f->∀ s∈(t.sub f x b).fv,(s∈t.fv/\s≠x)\/(s∈b.fv/\x∈t.fv)
theorem zOZ {f:Nat} (Y:FvS f) {k:Int} {n:Nat} {fb:List ByteArray} {x old:ByteArray} {s:ByteArray × ByteArray × Tm} (hd:s.2.2.dp<=f) (hk:k=6/\n=1\/k=8/\n=2\/k=9/\n=1) (J:old=s.1\/(k=9/\n=1)/\old=s.2.1) :
  ∀ z∈(rn1 (Tm.sub f) k n fb x old s).2.2.fv,z∉bdN k (rn1 (Tm.sub f) k n fb x old s).1 (rn1 (Tm.sub f) k n fb x old s).2.1 n->z∈s.2.2.fv/\z∉bdN k s.1 s.2.1 n:=by
 intro z
 unfold rn1
 by_cases h1:old∈fb
 ·rw [if_pos h1]
  by_cases U:s.1=old
  ·rw [if_pos U]
   simp only
   intro O I
   rcases Y _ _ _ hd z O with ⟨a1,a2⟩ | ⟨a1,_⟩
   ·refine ⟨a1,λhc=>?_⟩
    rcases zBl.1 hc with ⟨_,c1⟩ | ⟨c0,c1⟩
    ·exact a2 (c1.trans U)
    ·exact I (zBl.2 (.inr ⟨c0,c1⟩))
   ·rw [zBw,oZ] at a1
    exact absurd (zBl.2 (.inl ⟨hk,a1⟩)) I
  ·rw [if_neg U]
   simp only
   intro O I
   rcases J with J | ⟨h9,J⟩
   ·exact absurd J.symm U
   ·rcases Y _ _ _ hd z O with ⟨a1,a2⟩ | ⟨a1,_⟩
    ·refine ⟨a1,λhc=>?_⟩
     rcases zBl.1 hc with ⟨c0,c1⟩ | ⟨_,c1⟩
     ·exact I (zBl.2 (.inl ⟨c0,c1⟩))
     ·exact a2 (c1.trans J.symm)
    ·rw [zBw,oZ] at a1
     exact absurd (zBl.2 (.inr ⟨h9,a1⟩)) I
 ·rw [if_neg h1]
  exact λO I=>⟨O,I⟩
theorem zRi {S:Tm->ByteArray->Tm->Tm} {k:Int} {n:Nat} {fb:List ByteArray} {x:ByteArray} {s:ByteArray × ByteArray × Tm}:(rn1 S k n fb x s.1 s).2.1=s.2.1:=by
 unfold rn1
 split
 ·rw [if_pos rfl]
 ·rfl
theorem zR0 {f:Nat} (hS:FvS f) {k:Int} {n:Nat} {fb:List ByteArray} {x nm ot:ByteArray} {p:Tm} (hd:p.dp<=f) (J:k=6/\n=1\/k=8/\n=2\/k=9/\n=1) :
  ∀ z∈(rns (Tm.sub f) k n fb x (bdN k nm ot n) (nm,ot,p)).2.2.fv,z∉bdN k (rns (Tm.sub f) k n fb x (bdN k nm ot n) (nm,ot,p)).1 (rns (Tm.sub f) k n fb x (bdN k nm ot n) (nm,ot,p)).2.1 n->z∈p.fv/\z∉bdN k nm ot n:=by
 have one:=zOZ hS (fb:=fb) (x:=x) (old:=nm) (s:=(nm,ot,p)) hd J (.inl rfl)
 by_cases I:k=9/\n=1
 ·have e:bdN k nm ot n=[nm,ot]:=by rw [I.1,I.2];rfl
  intro z
  rw [e]
  simp only [rns]
  have O:(rn1 (Tm.sub f) k n fb x nm (nm,ot,p)).2.2.dp<=f:=oO (zBa (wH f) k n fb x nm (nm,ot,p)).d hd
  have U:=zOZ hS (fb:=fb) (x:=x) (old:=ot) (s:=rn1 (Tm.sub f) k n fb x nm (nm,ot,p)) O J (.inr ⟨I,(zRi (s:=(nm,ot,p))).symm⟩)
  intro Y hn
  obtain ⟨a1,a2⟩:=U z Y hn
  have:=one z a1 a2
  rwa [e] at this
 ·have e:bdN k nm ot n=[nm]:=by
   unfold bdN
   by_cases h6:k=6/\n=1
   ·rw [if_pos h6]
   ·rw [if_neg h6,if_pos (by rcases J with h | h | h;exact absurd h h6;exact h;exact absurd h I)]
  intro z
  rw [e]
  simp only [rns]
  intro Y hn
  have:=one z Y hn
  rwa [e] at this
theorem zNh {k:Int} {n:Nat} (h:¬zQ k n<0):k=6/\n=1\/k=8/\n=2\/k=9/\n=1:=by
 rcases uK k n with J | ⟨J,I,h3 | h3⟩ | ⟨J,I,h3⟩
 ·omega
 ·exact .inl ⟨h3,I⟩
 ·exact .inr (.inr ⟨h3,I⟩)
 ·exact .inr (.inl ⟨h3,I⟩)
theorem zDs {k:Int} (I:k≠1) {nm ot:ByteArray} {n:Int} {ty re:Ty} {l:List Tm} {j:Nat} {p:Tm} {s:ByteArray} (J:l[j]?=some p) (hs:s∈fvI (zQ k l.length) (bdN k nm ot l.length) j p):s∈(Tm.mk k nm ot n ty re l).fv:=
 Tm.fv_mem.2 (.inr ⟨I,j,p,J,hs⟩)
theorem vM {at_:Int} {ns:List ByteArray} {i:Nat} {x:Tm} (h:(i:Int)≠at_):fvI at_ ns i x=x.fv:=if_neg h
theorem pF {at_:Int} {ns:List ByteArray} {i:Nat} {x:Tm} (h:(i:Int)=at_):fvI at_ ns i x=uv ns x.fv:=if_pos h
theorem zIa:∀ f,FvS f
 | 0=>λt x b hd=>absurd (Tm.dp_pos t) (by omega)
 | f + 1 => λt x b hd s=>by
   have ih:=zIa f
   cases t with
   | mk k nm ot n ty re l=>
   simp only [Tm.dp] at hd
   have hp:∀ y∈l,y.dp<=f:=λy I=>oO (wO I) (by omega)
   simp only [Tm.sub]
   split
   ·rename_i J
    split
    ·rename_i hn
     intro hs
     exact .inr ⟨hs,by simp [Tm.fv,J,hn]⟩
    ·rename_i hn
     intro hs
     simp only [Tm.fv,if_pos J,oZ] at hs ⊢
     exact .inl ⟨hs,λhc=>hn (hs ▸ hc)⟩
   ·rename_i J
    split
    ·rename_i hb
     intro hs
     rcases Tm.fv_mem.1 hs with ⟨h,_⟩ | ⟨_,j,y,O,I⟩
     ·exact absurd h J
     ·rw [nC,vM (by omega)] at I
      rw [oE] at O
      obtain ⟨z,hz,rfl⟩:=mn.1 O
      have hm:=oB hz
      rcases ih z x b (hp z hm) s I with ⟨a1,a2⟩ | ⟨a1,a2⟩
      ·exact .inl ⟨zDs J hz (by rw [vM (by omega)];exact a1),a2⟩
      ·exact .inr ⟨a1,zDs J hz (by rw [vM (by omega)];exact a2)⟩
    ·rename_i hb
     obtain ⟨g1,g2⟩:=wE hb
     have U:=zX g1
     have ah:=zNh hb
     -- a part that is not under the names
     have aa:∀ (v:Tm) (j:Nat) (y:Tm),j≠(zQ k l.length).toNat->((l.map λt=>Tm.sub f t x b).set (zQ k l.length).toNat v)[j]?=some y->s∈y.fv->(s∈(Tm.mk k nm ot n ty re l).fv/\s≠x)\/(s∈b.fv/\x∈(Tm.mk k nm ot n ty re l).fv):=by
      intro v j y ak O I
      rw [o7 (by omega),oE] at O
      obtain ⟨z,hz,rfl⟩:=mn.1 O
      have hm:=oB hz
      rcases ih z x b (hp z hm) s I with ⟨a1,a2⟩ | ⟨a1,a2⟩
      ·exact .inl ⟨zDs J hz (by rw [vM (by omega)];exact a1),a2⟩
      ·exact .inr ⟨a1,zDs J hz (by rw [vM (by omega)];exact a2)⟩
     split
     ·rename_i hx
      intro hs
      rcases Tm.fv_mem.1 hs with ⟨h,_⟩ | ⟨_,j,y,O,I⟩
      ·exact absurd h J
      ·rw [nY,nC] at I
       by_cases Y:j=(zQ k l.length).toNat
       ·subst Y
        rw [nD (by simpa using g1)] at O
        cases O
        refine .inl ⟨zDs J U I,?_⟩
        rw [pF g2,yT] at I
        rintro rfl
        rcases hx with hx | hx
        ·exact I.2 hx
        ·exact hx I.1
       ·rw [vM (by omega)] at I
        exact aa _ j y Y O I
     ·rename_i hx
      have ai:x∉bdN k nm ot l.length:=λh=>hx (.inl h)
      have ab:x∈(l.getD (zQ k l.length).toNat tm0).fv:=mN.1 λh=>hx (.inr h)
      generalize l.getD (zQ k l.length).toNat tm0=p at U ab
      have ac:=hp p (oB U)
      have hR:=zR0 ih (fb:=b.fv) (x:=x) (nm:=nm) (ot:=ot) ac ah
      have ae:=pa (wH f) k l.length b.fv x (bdN k nm ot l.length) (nm,ot,p)
      generalize rns (Tm.sub f) k l.length b.fv x (bdN k nm ot l.length) (nm,ot,p)=T at hR ae
      have aj:T.2.2.dp<=f:=oO ae.d ac
      intro hs
      rcases Tm.fv_mem.1 hs with ⟨h,_⟩ | ⟨_,j,y,O,I⟩
      ·exact absurd h J
      ·rw [nY,nC] at I
       by_cases Y:j=(zQ k l.length).toNat
       ·subst Y
        rw [nD (by simpa using g1)] at O
        cases O
        rw [pF g2,yT] at I
        rcases ih T.2.2 x b aj s I.1 with ⟨a1,a2⟩ | ⟨a1,_⟩
        ·obtain ⟨c1,c2⟩:=hR s a1 I.2
         exact .inl ⟨zDs J U (by rw [pF g2];exact yT.2 ⟨c1,c2⟩),a2⟩
        ·exact .inr ⟨a1,zDs J U (by rw [pF g2];exact yT.2 ⟨ab,ai⟩)⟩
       ·rw [vM (by omega)] at I
        exact aa _ j y Y O I
theorem zNR {f:Nat} {t:Tm} {x y:ByteArray} (hd:t.dp<=f):(t.sub f x (vF y)).fv.length<=t.fv.length:=by
 by_cases I:x∈t.fv
 ·have J:=zBs (Tm.fv_nodup (t.sub f x (vF y))) (m:=y::t.fv.filter λz=>decide (z≠x)) λs hs=>by
   rcases zIa f t x (vF y) hd s hs with ⟨a1,a2⟩ | ⟨a1,_⟩
   ·exact nf _ (mC.2 ⟨a1,by simp [a2]⟩)
   ·rw [zBw,oZ] at a1
    rw [a1];exact nh
  have O:=mr (p:=λz=>decide (z≠x)).2 ⟨x,I,by simp⟩
  simp only [oM] at J
  omega
 ·rw [zCB f t x _ I];exact oD _
theorem zOt {f:Nat} {t:Tm} {x:ByteArray} {b:Tm} (hd:t.dp<=f):(t.sub f x b).fv.length<=t.fv.length+b.fv.length:=by
 have I:=zBs (Tm.fv_nodup (t.sub f x b)) (m:=t.fv++b.fv) λs hs=>by
  rcases zIa f t x b hd s hs with ⟨a1,_⟩ | ⟨a1,_⟩
  ·exact oh _ a1
  ·exact nF _ a1
 simpa using I
/-- no greater, no deeper, no wider -/
structure LeW (t' t:Tm):Prop where
 le:LeT t' t
 w:t'.wd<=t.wd
 l:t'.fv.length<=t.fv.length
theorem LeW.rfl {t:Tm}:LeW t t:=⟨LeT.rfl,oD _,oD _⟩
theorem LeW.trans {a b c:Tm} (h:LeW a b) (I:LeW b c):LeW a c:=⟨h.le.trans I.le,oO h.w I.w,oO h.l I.l⟩
theorem zNj {m n:Nat}:∀ {l' l:List Tm},l'.length=l.length->(∀ (i:Nat) (t' t:Tm),l'[i]?=some t'->l[i]?=some t->t'.wd<=t.wd+n/\t'.fv.length<=t.fv.length+m)->rI l'<=rI l+n/\vJ l'<=vJ l+l.length*m
 | [],[],_,_=>⟨by simp [rI],by simp [vJ]⟩
 | [],_::_,h,_=>by simp at h
 | _::_,[],h,_=>by simp at h
 | t'::I,t::O,h,J=>by
   obtain ⟨h1,h2⟩:=zNj (m:=m) (n:=n) (l':=I) (l:=O) (by simpa using h) λi a b U Y=>J (i+1) a b (by simpa using U) (by simpa using Y)
   obtain ⟨h3,h4⟩:=J 0 t' t (by simp) (by simp)
   refine ⟨by simp only [rI];omega,?_⟩
   simp only [vJ,oM,nI]
   omega
theorem zSM {f:Nat} (I:∀ t x y,t.dp<=f->LeW (t.sub f x (vF y)) t) (k:Int) (n:Nat) (fb:List ByteArray) (x old:ByteArray) (s:ByteArray × ByteArray × Tm) (hd:s.2.2.dp<=f):LeW (rn1 (Tm.sub f) k n fb x old s).2.2 s.2.2:=by
 unfold rn1
 split
 ·split
  ·exact I _ _ _ hd
  ·exact I _ _ _ hd
 ·exact LeW.rfl
theorem zKt {f:Nat} (I:∀ t x y,t.dp<=f->LeW (t.sub f x (vF y)) t) (k:Int) (n:Nat) (fb:List ByteArray) (x:ByteArray):∀ (l:List ByteArray) (s:ByteArray × ByteArray × Tm),s.2.2.dp<=f->LeW (rns (Tm.sub f) k n fb x l s).2.2 s.2.2
 | [],s,_=>LeW.rfl
 | old::l,s,hd=>by
   have J:=zSM I k n fb x old s hd
   exact (zKt I k n fb x l _ (oO J.le.d hd)).trans J
theorem zSJ {P:Tm->Prop} {f:Nat} (I:∀ t x y,P t->P (t.sub f x (vF y))) (k:Int) (n:Nat) (fb:List ByteArray) (x:ByteArray):∀ (l:List ByteArray) (s:ByteArray × ByteArray × Tm),P s.2.2->P (rns (Tm.sub f) k n fb x l s).2.2
 | [],s,h=>h
 | old::l,s,h=>by
   refine zSJ I k n fb x l _ ?_
   unfold rn1
   split
   ·split
    ·exact I _ _ _ h
    ·exact I _ _ _ h
   ·exact h
/-- at most so many are added, anywhere -/
theorem zNo {P:Tm->Prop} {f:Nat} (hP:∀ t x y,P t->P (t.sub f x (vF y))) {x:ByteArray} {b:Tm} {m n:Nat} (ab:∀ t:Tm,t.dp<=f->P t->(t.sub f x b).wd<=t.wd+n/\(t.sub f x b).fv.length<=t.fv.length+m) (hv:∀ t x y,t.dp<=f->LeW (t.sub f x (vF y)) t)
  {k:Int} {nm ot:ByteArray} {n0:Int} {ty re:Ty} {l:List Tm} (hk:k≠1) (hd:∀ y∈l,y.dp<=f) (hp:∀ y∈l,P y):((Tm.mk k nm ot n0 ty re l).sub (f+1) x b).wd<=max (vJ l+l.length*m) (rI l+n):=by
 have fin:∀ (ac ae:ByteArray) (l':List Tm),l'.length=l.length->(∀ (i:Nat) (t' t:Tm),l'[i]?=some t'->l[i]?=some t->t'.wd<=t.wd+n/\t'.fv.length<=t.fv.length+m)->(Tm.mk k ac ae n0 ty re l').wd<=max (vJ l+l.length*m) (rI l+n):=λac ae l' Y O=>by
  obtain ⟨a1,a2⟩:=zNj Y O
  simp only [Tm.wd,if_neg hk]
  omega
 have at_:∀ {i:Nat} {t:Tm},l[i]?=some t->(t.sub f x b).wd<=t.wd+n/\(t.sub f x b).fv.length<=t.fv.length+m:=λh=>ab _ (hd _ (oB h)) (hp _ (oB h))
 simp only [Tm.sub]
 rw [if_neg hk]
 split
 ·refine fin _ _ _ (by simp) λi t' t I J=>?_
  rw [oE,J] at I
  cases I
  exact at_ J
 ·rename_i hb
  obtain ⟨g1,g2⟩:=wE hb
  have U:=zX g1
  split
  ·refine fin _ _ _ (by simp) λi t' t I J=>?_
   rcases zB6 I J with ⟨Y,O⟩ | ⟨Y,O⟩
   ·rw [Y,U] at J
    rw [O,<-oW J]
    exact ⟨by omega,by omega⟩
   ·rw [O];exact at_ J
  ·have ah:=hd _ (oB U)
   have aa:=zKt hv k l.length b.fv x (bdN k nm ot l.length) (nm,ot,l.getD (zQ k l.length).toNat tm0) ah
   refine fin _ _ _ (by simp) λi t' t I J=>?_
   rcases zB6 I J with ⟨Y,O⟩ | ⟨Y,O⟩
   ·rw [Y,U] at J
    rw [O,<-oW J]
    obtain ⟨c1,c2⟩:=ab _ (oO aa.le.d ah) (zSJ hP _ _ _ _ _ _ (hp _ (oB U)))
    have w1:(rns (Tm.sub f) k l.length b.fv x (bdN k nm ot l.length) (nm,ot,l.getD (zQ k l.length).toNat tm0)).2.2.wd<=(l.getD (zQ k l.length).toNat tm0).wd:=aa.w
    have w2:(rns (Tm.sub f) k l.length b.fv x (bdN k nm ot l.length) (nm,ot,l.getD (zQ k l.length).toNat tm0)).2.2.fv.length<=(l.getD (zQ k l.length).toNat tm0).fv.length:=aa.l
    exact ⟨by omega,by omega⟩
   ·rw [O];exact at_ J
theorem qI:∀ (f:Nat) (t:Tm) (x y:ByteArray),t.dp<=f->LeW (t.sub f x (vF y)) t
 | 0,t,x,y,h=>absurd (Tm.dp_pos t) (by omega)
 | f+1,.mk k nm ot n ty re l,x,y,h=>by
   refine ⟨wH _ _ _ _,?_,zNR h⟩
   simp only [Tm.dp] at h
   have J:wT l<=f:=by omega
   by_cases I:k=1
   ·simp only [Tm.sub,if_pos I]
    split
    ·simp [vF,Tm.wd,I]
    ·exact oD _
   ·have:=zNo (P:=λ_=>True) (λ_ _ _ _=>trivial) (m:=0) (n:=0) (λt O _=>⟨(qI f t x y O).w,(qI f t x y O).l⟩) (qI f) (nm:=nm) (ot:=ot) (n0:=n) (ty:=ty) (re:=re) I (λz U=>oO (wO U) J) λ_ _=>trivial
    simp only [Tm.wd,if_neg I]
    omega
mutual
/-- at most three parts -/
def Tm.A3:Tm->Prop
 | .mk _ _ _ _ _ _ l=>l.length<=3/\zJB l
def zJB:List Tm->Prop
 | []=>True
 | t::I=>t.A3/\zJB I
end
theorem uk:∀ {l:List Tm},zJB l↔∀ x∈l,x.A3
 | []=>by simp [zJB]
 | t::I=>by simp only [zJB,uk (l:=I),oF,nk]
theorem zNx:∀ (f:Nat) (t:Tm) (x:ByteArray) (b:Tm),t.A3->b.A3->(t.sub f x b).A3
 | 0,t,x,b,h,_=>by simp only [Tm.sub];exact h
 | f + 1,.mk k nm ot n ty re l,x,b,h,Y=>by
   have J:=zNx f
   obtain ⟨h1,I⟩:=h
   have I:=uk.1 I
   have vA:∀ y,(vF y).A3:=λy=>by simp [vF,Tm.A3,zJB]
   simp only [Tm.sub]
   split
   ·split
    ·exact Y
    ·exact ⟨h1,uk.2 I⟩
   ·split
    ·refine ⟨by simpa using h1,uk.2 λy O=>?_⟩
     obtain ⟨z,hz,rfl⟩:=oQ.1 O
     exact J z x b (I z hz) Y
    ·rename_i aa
     obtain ⟨g1,g2⟩:=wE aa
     have U:=I _ (oB (zX g1))
     have key:∀ v:Tm,v.A3->zJB ((l.map λt=>Tm.sub f t x b).set (zQ k l.length).toNat v):=λv hv=>uk.2 λy O=>by
      rcases oi O with O | rfl
      ·obtain ⟨z,hz,rfl⟩:=oQ.1 O
       exact J z x b (I z hz) Y
      ·exact hv
     split
     ·exact ⟨by simpa using h1,key _ U⟩
     ·refine ⟨by simpa using h1,key _ (J _ x b ?_ Y)⟩
      have r1:∀ (old:ByteArray) (s:ByteArray × ByteArray × Tm),s.2.2.A3->(rn1 (Tm.sub f) k l.length b.fv x old s).2.2.A3:=λold s hs=>by
       unfold rn1
       split
       ·split
        ·exact J _ _ _ hs (vA _)
        ·exact J _ _ _ hs (vA _)
       ·exact hs
      have rs:∀ (ns:List ByteArray) (s:ByteArray × ByteArray × Tm),s.2.2.A3->(rns (Tm.sub f) k l.length b.fv x ns s).2.2.A3:=by
       intro ns
       induction ns with
       | nil=>exact λs hs=>hs
       | cons o os ab=>exact λs hs=>ab _ (r1 o s hs)
      exact rs _ _ U
/-- each name may be joined by those of what is put in -/
theorem zOl:∀ (f:Nat) (t:Tm) (x:ByteArray) (b:Tm),t.dp<=f->t.A3->(t.sub f x b).wd<=t.wd+(3*b.fv.length+b.wd)
 | 0,t,x,b,h,_=>absurd (Tm.dp_pos t) (by omega)
 | f+1,.mk k nm ot n ty re l,x,b,h,ha=>by
   obtain ⟨h1,J⟩:=ha
   have J:=uk.1 J
   simp only [Tm.dp] at h
   have O:wT l<=f:=by omega
   by_cases U:k=1
   ·simp only [Tm.sub,if_pos U]
    split
    ·omega
    ·omega
   ·have:=zNo (P:=Tm.A3) (λt x y I=>zNx f t x _ I (by simp [vF,Tm.A3,zJB])) (m:=b.fv.length) (n:=3*b.fv.length+b.wd) (λt I Y=>⟨zOl f t x b I Y,zOt I⟩) (qI f) (nm:=nm) (ot:=ot) (n0:=n) (ty:=ty) (re:=re) U (λz hz=>oO (wO hz) O) J
    have h3:l.length*b.fv.length<=3*b.fv.length:=oe _ h1
    simp only [Tm.wd,if_neg U]
    omega
/-- how deep -/
theorem zFr {m:Nat}:∀ {l' l:List Tm},l'.length=l.length->(∀ (i:Nat) (t' t:Tm),l'[i]?=some t'->l[i]?=some t->t'.dp<=t.dp+m)->wT l'<=wT l+m
 | [],[],_,_=>by simp [wT]
 | [],_::_,h,_=>by simp at h
 | _::_,[],h,_=>by simp at h
 | t'::I,t::O,h,J=>by
   have h1:=zFr (m:=m) (l':=I) (l:=O) (by simpa using h) λi a b U Y=>J (i+1) a b (by simpa using U) (by simpa using Y)
   have h3:=J 0 t' t (by simp) (by simp)
   simp only [wT];omega
theorem zQz:∀ (f:Nat) (t:Tm) (x:ByteArray) (b:Tm),(t.sub f x b).dp<=t.dp+b.dp
 | 0,t,x,b=>by simp only [Tm.sub];omega
 | f + 1,.mk k nm ot n ty re l,x,b=>by
   have ih:=zQz f
   have fin:∀ (Y aa:ByteArray) (l':List Tm),l'.length=l.length->(∀ (i:Nat) (t' t:Tm),l'[i]?=some t'->l[i]?=some t->t'.dp<=t.dp+b.dp)->(Tm.mk k Y aa n ty re l').dp<=(Tm.mk k nm ot n ty re l).dp+b.dp:=λY aa l' U J=>by
    have:=zFr U J
    simp only [Tm.dp];omega
   simp only [Tm.sub]
   split
   ·split
    ·omega
    ·omega
   ·split
    ·refine fin _ _ _ (by simp) λi t' t I O=>?_
     rw [oE,O] at I
     cases I
     exact ih t x b
    ·rename_i hb
     obtain ⟨g1,g2⟩:=wE hb
     have ab:=zX g1
     split
     ·refine fin _ _ _ (by simp) λi t' t I O=>?_
      rcases zB6 I O with ⟨U,J⟩ | ⟨U,J⟩
      ·rw [U,ab] at O
       rw [J,<-oW O]
       omega
      ·rw [J];exact ih t x b
     ·refine fin _ _ _ (by simp) λi t' t I O=>?_
      rcases zB6 I O with ⟨U,J⟩ | ⟨U,J⟩
      ·rw [U,ab] at O
       rw [J,<-oW O]
       have h3:=(pa (wH f) k l.length b.fv x (bdN k nm ot l.length) (nm,ot,l.getD (zQ k l.length).toNat tm0)).d
       have h4:=ih (rns (Tm.sub f) k l.length b.fv x (bdN k nm ot l.length) (nm,ot,l.getD (zQ k l.length).toNat tm0)).2.2 x b
       simp only at h3
       omega
      ·rw [J];exact ih t x b
/-- not too great to be copied, its free names to be listed -/
structure Tm.Z (t:Tm):Prop where
 g:t.G
 c:t.wd<=2199023255552
 v:t.V
theorem Tm.Z.mem {k:Int} {nm ot:ByteArray} {n:Int} {ty re:Ty} {l:List Tm} (h:(Tm.mk k nm ot n ty re l).Z):∀ y∈l,y.Z:=λy I=>by
 have hc:=h.c
 have:=yE I
 simp only [Tm.wd] at hc
 split at hc
 ·rename_i J
  rw [h.v.1 J] at I
  simp at I
 ·exact ⟨zn h.g.2.2.2 I,by omega,sX.1 h.v.2 y I⟩
theorem LeW.z {t' t:Tm} (h:LeW t' t) (I:t.Z):t'.Z:=⟨h.le.g I.g,oO h.w I.c,h.le.v I.v⟩
theorem zRA (s:ByteArray):(vF s).Z:=⟨by simp [vF,Tm.G,zLu,Ty.cnt,zM],by simp only [vF,Tm.wd,ma];omega,λ_=>rfl,trivial⟩
theorem zI2:∀ {l:List D} {j:Nat} {x:D} {b:Nat},b∈zG (l.set j x)->b∈zG l\/b∈x.foot
 | [],j,x,b,h=>by simp [zG] at h
 | a::l,0,x,b,h=>by
   simp only [mm,zG,oK] at h ⊢
   rcases h with h | h
   ·exact .inr h
   ·exact .inl (.inr h)
 | a::l,j+1,x,b,h=>by
   simp only [m7,zG,oK] at h ⊢
   rcases h with h | h
   ·exact .inl (.inl h)
   ·rcases zI2 h with h | h
    ·exact .inl (.inr h)
    ·exact .inr h
theorem zLs {N N1 N2 N3:Nat} {x:D} (I:Own N2 N3 x) (h1:N<=N2) (h2:N1<=N2) (h3:N2<=N3):∀ {l:List D} {j:Nat},OwnL N N1 l->OwnL N N3 (l.set j x)
 | [],j,h=>by simp only [List.set_nil];exact h.mono (oD _) (by omega)
 | a::l,0,h=>by
   have J:=h.nd
   simp only [zG,nP] at J
   simp only [mm]
   refine ⟨?_,⟨I.fl,h.fl.2⟩,λb hb=>?_,λb hb=>?_⟩
   ·simp only [zG,nP]
    refine ⟨I.nd,J.2.1,λu U v hv O=>?_⟩
    have:=I.lo u U
    have:=h.hi v (by simp only [zG,oK];exact .inr hv)
    omega
   ·simp only [zG,oK] at hb
    rcases hb with hb | hb
    ·have:=I.lo b hb;omega
    ·exact h.lo b (by simp only [zG,oK];exact .inr hb)
   ·simp only [zG,oK] at hb
    rcases hb with hb | hb
    ·exact I.hi b hb
    ·have:=h.hi b (by simp only [zG,oK];exact .inr hb);omega
 | a :: l,j+1,h=>by
   have J:=h.nd
   simp only [zG,nP] at J
   have hl:OwnL N N1 l:=⟨J.2.1,h.fl.2,λb hb=>h.lo b (by simp only [zG,oK];exact .inr hb),λb hb=>h.hi b (by simp only [zG,oK];exact .inr hb)⟩
   have Y:=zLs I h1 h2 h3 (l:=l) (j:=j) hl
   simp only [m7]
   refine ⟨?_,⟨h.fl.1,Y.fl⟩,λb hb=>?_,λb hb=>?_⟩
   ·simp only [zG,nP]
    refine ⟨J.1,Y.nd,λu U v hv O=>?_⟩
    rcases zI2 hv with hv | hv
    ·exact J.2.2 u U v hv O
    ·have:=I.lo v hv
     have:=h.hi u (by simp only [zG,oK];exact .inl U)
     omega
   ·simp only [zG,oK] at hb
    rcases hb with hb | hb
    ·exact h.lo b (by simp only [zG,oK];exact .inl hb)
    ·exact Y.lo b hb
   ·simp only [zG,oK] at hb
    rcases hb with hb | hb
    ·have:=h.hi b (by simp only [zG,oK];exact .inl hb);omega
    ·exact Y.hi b hb
/-- behind four cells -/
theorem rp {N N1 N2 N3:Nat} {x I J O U:D} {es:List D} {j:Nat} (h:OwnL N N1 ([I,J,O,U]++es)) (Y:Own N2 N3 x) (h1:N<=N2) (h2:N1<=N2) (h3:N2<=N3):OwnL N N3 ([I,J,O,U]++es.set j x):=
 zLs Y h1 h2 h3 (l:=[I,J,O,U]++es) (j:=j+4) h
theorem zBY:∀ {u v:List D},xr (u++v)->xr u/\xr v
 | [],v,h=>⟨trivial,h⟩
 | x::u,v,h=>⟨⟨h.1,(zBY h.2).1⟩,(zBY h.2).2⟩
theorem zPf {N0 N1 N3:Nat} {hd es ds:List D} {a:Option Addr} {z c:Nat} (h:OwnL N0 N1 (hd++es)) (J:Fresh N0 N3 a (.ag es::(hd++ds))) (hN:N1<=N3):OwnL N0 N3 (hd++[.sl a z es c]):=by
 obtain ⟨Y,aa⟩:=zBY h.fl
 have U:=h.nd
 rw [zH,nP] at U
 have e:zG (hd++[D.sl a z es c])=zG hd++(D.sl a z es c).foot:=by simp only [zH,zG,nH]
 have hE:∀ ad,a=some ad->ad.block∉zG es:=λad h=>J.ap ad h (.ag es) (by simp)
 have hH:∀ ad,a=some ad->ad.block∉zG hd:=λad h hc=>by
  obtain ⟨d,ab,hb⟩:=zL.1 hc
  exact J.ap ad h d (by simp [ab]) hb
 refine ⟨?_,yz Y ⟨⟨λad h=>J.off ad h,aa⟩,trivial⟩,λb hb=>?_,λb hb=>?_⟩
 ·rw [e,nP]
  refine ⟨U.1,zK3 U.2.1 hE,λx hx y hy ac=>?_⟩
  subst ac
  rcases ud x hy with I | ⟨ad,I,O⟩
  ·exact U.2.2 x hx x I rfl
  ·subst O;exact hH ad I hx
 ·rw [e] at hb
  rcases oK.1 hb with hb | hb
  ·exact h.lo b (by rw [zH];exact oh _ hb)
  ·rcases ud b hb with I | ⟨ad,I,O⟩
   ·exact h.lo b (by rw [zH];exact nF _ I)
   ·subst O;exact J.lo ad I
 ·rw [e] at hb
  rcases oK.1 hb with hb | hb
  ·have:=h.hi b (by rw [zH];exact oh _ hb);omega
  ·rcases ud b hb with I | ⟨ad,I,O⟩
   ·have:=h.hi b (by rw [zH];exact nF _ I);omega
   ·subst O;exact J.hi ad I
theorem sM {N N1 N2:Nat} {v0 v1 v2 v3:Value} {I J O U:D} {es:List D} {a:Option Addr} {c:Nat} (h:OwnL N N1 ([I,J,O,U]++es)) (Y:Fresh N N2 a [.ag es,I,J,O,U]) (hN:N1<=N2):Own N N2 (.ag [.lit v0,.lit v1,.lit v2,.lit v3,I,J,O,U,.sl a 9 es c]):=
 zGP (xL (xL (xL (xL (zPf (hd:=[I,J,O,U]) (ds:=[]) h Y hN)))))
theorem sG {α:Type} {R:α->D->Prop}:∀ {l:List α} {es:List D} {t:α} {d:D} {j:Nat},All2 R l es->R t d->All2 R (l.set j t) (es.set j d)
 | [],es,t,d,j,h,_=>by cases h;exact rfl
 | x::l,es,t,d,0,h,I=>by
   obtain ⟨y,ys,rfl,O,J⟩:=h
   exact ⟨_,_,rfl,I,J⟩
 | x::l,es,t,d,j+1,h,I=>by
   obtain ⟨y,ys,rfl,O,J⟩:=h
   exact ⟨_,_,rfl,O,sG J I⟩
theorem zOR {α:Type} {T l:List α} {i:Nat} {t:α} (O:T.length=l.length) (hi:i<l.length) (I:T[i]?=some t):(T.take i++l.drop i).set i t=T.take (i+1)++l.drop (i+1):=by
 have J:(T.take i).length=i:=by rw [nG];omega
 rw [lE _ _ (by omega),J,Nat.sub_self,mY hi,mm,wV I,nc]
 rfl
theorem zLH {α:Type} {T l:List α} {i:Nat} {t:α} (hi:i<l.length) (I:l[i]?=some t) (J:T[i]?=some t):T.take i++l.drop i=T.take (i+1)++l.drop (i+1):=by
 rw [mY hi,wV J,nc]
 rw [oG hi] at I
 rw [oW I]
 rfl
theorem yQ {l:List Tm} {es:List D} (h:All2 Tm.Is l es) {j:Nat} (I:j<l.length):(l.getD j tm0).Is (es.getD j default):=by
 have:=h.get (zX I)
 exact this
def zRe (f:FuncId) (args:List PV) (t:Tm):Prop:=∀ (N:Nat) (Q:QT [.ag 9]),(∀ d N',N<=N'->t.Is d->Own N N' d->Q d N')->ACalls prog f [.ag 9] args N Q
/-- puts b for x, at terms of some depth -/
def zSV (F:FuncId) (f:Nat):Prop:=∀ (e:Tm) (d:D) (x:ByteArray) (b:Tm) (I:D),e.Is d->b.Is I->e.dp<=f->e.Z->b.Z->zRe F [.dg 9 d,.str x,.dg 9 I] (e.sub f x b)
theorem zM7 {s:ByteArray} (hs:s.size<=4611686018427387904):(vF s).Is (.ag [.j 1,.t s,.t (bytes []),.j 0,.j 0,.sl none 2 [] 0,.j 0,.sl none 2 [] 0,.sl none 9 [] 0]):=
 Tm.is_mk.2 ⟨_,_,_,_,_,_,_,rfl,⟨hs,by decide,Ty.is_mk.2 ⟨_,_,_,rfl,by simp,rfl⟩,Ty.is_mk.2 ⟨_,_,_,rfl,by simp,rfl⟩⟩,by simp,rfl⟩
theorem zGJ {l:List ByteArray} (h:l.length<=8796093022208):(fresh l).size<=4611686018427387904:=by
 obtain ⟨k,e,_,I,_,_⟩:=t6 l
 rw [e]
 have:=zMc k (by omega)
 omega
theorem zO7 {f:Nat} (hS:zSV 105 f) {k n0:Int} {nm ot:ByteArray} {ty re:Ty} {l:List Tm} {d:D} (hd:(Tm.mk k nm ot n0 ty re l).Is d) (hG:(Tm.mk k nm ot n0 ty re l).G) {n j:Nat} (hn:l.length=n) (am:zQ k n=(j:Int))
  {p:Tm} (hp:l.getD j tm0=p) (ao:p.dp<=f) (hc:p.Z) (old x:ByteArray) (fb:List ByteArray) (bt:fb.length<=2199023255552) (a:Option Addr) (c:Nat) {I:ByteArray} (Y:fresh (fb++(p.fv++([x]++bdN k nm ot n)))=I) (N:Nat)
  (Q:QT [.pk,.i,.str,.str,.i,.dc,.dc,.dc,.dc,.row 29 9]) (hQ:tR (.mk k (if nm=old then I else nm) (if nm=old then ot else I) n0 ty re (l.set j (p.sub f old (vF I)))) N Q) :
  ACalls prog 149 [.pk,.i,.str,.str,.i,.dc,.dc,.dc,.dc,.row 29 9] [.dg 9 d,.j (j:Int),.str old,.sv a 0 (zA fb) c,.str x] N Q:=by
 subst hn
 obtain ⟨t0,t1,r0,r1,a8,es,c8,rfl,hh,bc,aj⟩:=Tm.is_mk.1 hd
 have hl:=aj.len
 obtain ⟨g1,_⟩:=wE (k:=k) (n:=l.length) (by omega)
 rw [am,oJ] at g1
 have ah:=yQ aj g1
 rw [hp] at ah
 have bv:=Tm.fv_wd p
 have aq:=hc.c
 have bw:=pX k nm ot l.length
 have ai:(fb++(p.fv++([x]++bdN k nm ot l.length))).length<=8796093022208:=by simp only [oH,oM,oS];omega
 have aa:zJt [fb,p.fv,[x],bdN k nm ot l.length]=fb++(p.fv++([x]++bdN k nm ot l.length)):=by simp [zJt]
 have O:I.size<=4611686018427387904:=Y ▸ zGJ ai
 refine zFY N _ _ old a _ c x Q λ_ _ N1 bz=>zKe (n:=l.length) (by omega) N1 _ λa1 c1 N2 b1 _ _ _=>⟨_,_,_,rfl,⟨by omega,by omega⟩,λN3 b2=>?_⟩
 rw [oJ]
 refine vn p _ ah aq N3 _ λc2 N4 b3 _ _=>⟨⟨rfl,rfl⟩,λa2 N5 b4 _=>⟨⟨rfl,rfl⟩,λa3 N6 b5 _=>⟨⟨rfl,rfl⟩,λa4 _ N7 b6 ak=>?_⟩⟩⟩
 have au:All2 IsW [fb,p.fv,[x],bdN k nm ot l.length] [.sl a 0 (zA fb) c,.sl a2 0 (zA p.fv) c2,.sl a3 0 [.t x] 1,.sl a1 0 (zA (bdN k nm ot l.length)) c1]:=
  ⟨_,_,rfl,⟨_,_,rfl⟩,_,_,rfl,⟨_,_,rfl⟩,_,_,rfl,⟨_,_,rfl⟩,_,_,rfl,⟨_,_,rfl⟩,rfl⟩
 refine zLT au (by simp) (by rw [aa];exact ai) a4 4 N7 _ λa5 c5 N8 b7 aw _=>⟨vP ak aw,λ_ N9 b8=>?_⟩
 rw [aa]
 refine zC6 _ ai a5 c5 N9 _ λb9 bg _ ax bh=>?_
 rw [Y]
 refine rD _ _ hd hG ax _ ?_
 simp only [tR] at hQ ⊢
 intro x4 x5 x6 x7 al c' ca bi J ab ay _ _
 have cc:=ab.len
 refine ⟨_,_,_,rfl,⟨by omega,by omega⟩,λaz bj=>zJp az I _ λcd bm _ _ a6 bp=>?_⟩
 refine hS p _ old (vF I) _ ah (zM7 O) ao hc (zRA _) a6 _ λdx a7 bq hx ba _ _=>⟨⟨by omega,by omega,by omega⟩,by omega,_,rfl,?_⟩
 have ac:All2 Tm.Is (l.set j (p.sub f old (vF I))) (al.set (0+j) dx):=by rw [om];exact sG ab hx
 have ae:OwnL N a7 ([x4,x5,x6,x7]++al.set (0+j) dx):=rp (ay.mono (by omega) (oD _)) ba (by omega) (by omega) (by omega)
 refine Br.str (λh=>⟨⟨by simp,trivial⟩,λbb U=>?_⟩) λh=>⟨⟨by simp,trivial⟩,λbb U=>?_⟩
 ·rw [if_pos h,if_pos h] at hQ
  exact hQ _ _ _ _ _ _ _ (by omega) ⟨O,J.ot,J.ty,J.re⟩ ac (ae.mono (oD _) U)
 ·rw [if_neg h,if_neg h] at hQ
  exact hQ _ _ _ _ _ _ _ (by omega) ⟨J.nm,O,J.ty,J.re⟩ ac (ae.mono (oD _) U)
/-- a node's parts, each put through; the node anew -/
theorem zPB {f:Nat} (hS:zSV 105 f) {k n0:Int} {nm ot:ByteArray} {ty re:Ty} {l:List Tm} {d:D} (hd:(Tm.mk k nm ot n0 ty re l).Is d) (hc:(Tm.mk k nm ot n0 ty re l).Z) (hp:∀ y∈l,y.dp<=f)
  (x:ByteArray) {b:Tm} {O:D} (hb:b.Is O) (ah:b.Z) (ad J:Addr) (N:Nat) (Q:QT [.pk,.i,.str,.str,.i,.dc,.dc,.dc,.dc,.row 29 9])
  (hQ:tR (.mk k nm ot n0 ty re (l.map λt=>t.sub f x b)) N Q) :
  ACalls prog 61 [.pk,.i,.str,.str,.i,.dc,.dc,.dc,.dc,.row 29 9] [.dg 9 d,.fn 146 [.pd ad 0 (.t x),.pd J 9 O]] N Q:=by
 obtain ⟨t0,t1,r0,r1,a,es,c,rfl,hh,U,Y⟩:=Tm.is_mk.1 hd
 have hl:=Y.len
 obtain ⟨q1,q2,q3,_⟩:=hc.g
 simp only [tR] at hQ
 refine rK N _ ad _ J _ Q λ_=>⟨_,_,_,rfl,?_⟩
 refine up Y U (λi xs=>∀ (done:List D) (q N':Nat),N<=N'->All2 Tm.Is ((l.map λt=>t.sub f x b).take i) done->done.length=i->OwnL N N' done ->
  yb Q N ad (.t x) J O done.length q a es c es.length i (.ag [.j k,.t nm,.t ot,.j n0,t0,t1,r0,r1,.sl a 9 es c]) 0 (bytes []) (bytes []) 0 0 none [] 0 0 none [] 0 none [] 0 done q N') ?_ ?_ [] 0 N (oD _) rfl rfl zG3
 ·intro i ai hi done q N' aj hd aa ho
  refine ve _ _ _ _ _ _ _ _ _ _ _ _ _ _ _ _ _ _ _ _ _ _ _ _ _ _ _ _ _ _ _ _ ?_
  rw [ow (by simp;omega)] at hd
  rw [ai]
  refine ⟨⟨rfl,rfl⟩,λa1 a6 _ N4 ak ab=>?_⟩
  refine zJ2 hh q1 q2 a1 done q N4 _ λx4 x5 x6 x7 N5 al am ac _=>⟨rfl,?_⟩
  have off:∀ y∈[x4,x5,x6,x7],Off [a1] y:=λy hy a' ao ad aq hc=>by
   have h1:=ab a' ao ad aq
   have h2:=ac.lo _ (zL.2 ⟨y,hy,hc⟩)
   omega
  refine ⟨off x4 (by simp),off x5 (by simp),off x6 (by simp),off x7 (by simp),⟨rfl,rfl⟩,λN6 au=>?_⟩
  exact hQ _ _ _ _ _ _ _ (by omega) am hd (zCF (N1:=N4) (ac.mono (oD _) (by omega)) (ho.mono (oD _) ak) (by omega) (by omega))
 ·intro i y xs I _ aw done q N' aj hd aa ho
  have a7:=I.b
  have ax:=hp y I.m
  have ay:=hc.mem y I.m
  have ae:(l.map λt=>t.sub f x b)[i]?=some (y.sub f x b):=by rw [oE,I.g];rfl
  refine ve _ _ _ _ _ _ _ _ _ _ _ _ _ _ _ _ _ _ _ _ _ _ _ _ _ _ _ _ _ _ _ _ ?_
  rw [I.lt,oJ,I.w]
  refine ⟨⟨by omega,by omega⟩,λN5 al=>qF N5 _ ad _ J O _ λ_=>⟨_,rfl,λN6 au=>hS y _ x b O I.r hb ax ay ah N6 _ λdx N7 a8 hx az _ _ N8 ba _ _=>⟨⟨rfl,rfl⟩,by unfold zB;rw [oH];simp only [oM,oS];omega,λc3=>?_⟩⟩⟩
  refine aw _ _ _ (by omega) (by rw [wV ae];exact hd.snoc hx) (by simp [aa]) ?_
  exact (wK ho (xd (az.mono (by omega) (oD _))) (N1:=N') (by omega) (by omega)).mono (oD _) (by omega)
theorem zF5:∀ f,zSV 105 f
 | 0=>λe d x b db _ _ bm=>absurd (Tm.dp_pos e) (by omega)
 | f + 1 => λe d x b db he hb bm hc ak N Q U=>by
   have ih:=zF5 f
   have hG:=hc.g
   have bp:=ak.g
   have cz:=ak.c
   cases e with
   | mk k nm ot n0 ty re l=>
   have c2:=hc
   simp only [Tm.dp] at bm
   have hp:∀ y∈l,y.dp<=f:=λy hy=>ww.1 (mo bm) y hy
   have b9:=hc.mem
   obtain ⟨t0,t1,r0,r1,a,es,c,rfl,hh,ca,bq⟩:=Tm.is_mk.1 he
   have hl:=bq.len
   have dn:=hG.2.2.1
   simp only [Tm.sub] at U
   refine zCe N _ x db Q λ_ _=>⟨_,rfl,Br.beq (λh1=>⟨_,rfl,Br.str (λh2 N1 a7=>?_) λh2 N1 a7=>?_⟩) λh1 N1 a7=>zKe (n:=l.length) (by omega) N1 _ λa1 c1 N2 cc _ _ _=>Br.dec (λal=>?_) λcd N3 am=>?_⟩
   ·rw [if_pos h1,if_pos h2] at U
    refine rD b db hb bp N1 _ ?_
    cases b with
    | mk k2 dq dr n2 dt du l2=>
    simp only [tR]
    intro x4 x5 x6 x7 ao c' N2 cc Y J aa _ _
    have aq:=J.len
    have dv:=bp.2.2.1
    exact ⟨⟨trivial,trivial⟩,⟨trivial,trivial⟩,λa2 N3 am hf N4 au=>U _ _ (by omega) (Tm.is_mk.2 ⟨_,_,_,_,_,_,_,rfl,Y,by omega,J⟩) ((sM (aa.mono a7 (oD _)) hf am).mono (oD _) au)⟩
   ·rw [if_pos h1,if_neg h2] at U
    refine rD _ _ he hG N1 _ ?_
    simp only [tR]
    intro x4 x5 x6 x7 ao c' N2 cc Y J aa _ _
    have aq:=J.len
    exact ⟨⟨trivial,trivial⟩,⟨trivial,trivial⟩,λa2 N3 am hf N4 au=>U _ _ (by omega) (Tm.is_mk.2 ⟨_,_,_,_,_,_,_,rfl,Y,by omega,J⟩) ((sM (aa.mono a7 (oD _)) hf am).mono (oD _) au)⟩
   ·rw [if_neg h1,if_pos al] at U
    refine λad _ _ bt _ _ N3 am ac=>zPB ih he c2 hp x hb ak ad bt N3 _ ?_
    simp only [tR]
    intro x4 x5 x6 x7 ao c' N4 au Y J aa _
    have aq:=J.len
    simp only [nC] at aq
    have off:∀ y∈[x4,x5,x6,x7],Off [some ad,some bt] y:=λy hy a' ah ab ai hc=>by
     have h1:=ac a' ah ab ai
     have h2:=aa.lo _ (zL.2 ⟨y,oh _ hy,hc⟩)
     omega
    have aw:Off [some ad,some bt] (.ag ao):=λa' ah ab ai hc=>by
     have h1:=ac a' ah ab ai
     have h2:=aa.lo ab.block (by rw [zH];exact nF _ (by simpa only [D.foot] using hc))
     omega
    refine ⟨off x4 (by simp),off x5 (by simp),off x6 (by simp),off x7 (by simp),aw,λ_=>⟨⟨trivial,trivial⟩,⟨trivial,trivial⟩,λa2 N5 ax hf N6 ay=>U _ _ (by omega) (Tm.is_mk.2 ⟨_,_,_,_,_,_,_,rfl,Y,by omega,J⟩) ((sM (aa.mono (by omega) (oD _)) hf ax).mono (oD _) ay)⟩⟩
   ·rw [if_neg h1,if_neg cd] at U
    refine rD _ _ he hG N3 _ ?_
    simp only [tR]
    intro x4 x5 x6 x7 ao c' N4 au Y J aa _ _
    have aq:=J.len
    obtain ⟨g1,g2⟩:=wE cd
    have dw:=pX k nm ot l.length
    obtain ⟨j,ce⟩:∃ j:Nat,zQ k l.length=(j:Int):=⟨_,g2.symm⟩
    rw [ce] at g1 U ⊢
    rw [oJ] at g1 U
    generalize cf:l.getD j tm0=p at U
    have bv:l[j]?=some p:=cf ▸ zX g1
    have dz:=hp p (oB bv)
    have a8:=b9 p (oB bv)
    have cg:=a8.c
    have ch:=yQ bq g1
    rw [cf] at ch
    generalize hg:(λt:Tm=>t.sub f x b)=g at U
    have c3:∀ y∈l,(g y).G:=λy hy=>by rw [<-hg];exact zPQ f y x b (zn hG.2.2.2 hy) bp
    have d5:=zF (bdN k nm ot l.length)
    refine ⟨_,_,_,rfl,?_⟩
    have fin:∀ (ba bb:ByteArray) (y4 y5 y6 y7:D) (L:List Tm) (r:List D) (q N':Nat),N<=N'->L.length=l.length->Tm.Hd ba bb ty re y4 y5 y6 y7->All2 Tm.Is L r->OwnL N N' ([y4,y5,y6,y7]++r) ->
      (∀ d' N'',N<=N''->(Tm.mk k ba bb n0 ty re L).Is d'->Own N N'' d'->Q d' N'')->∀ a2 N5,N'<=N5->Fresh N N5 a2 [.ag r,y4,y5,y6,y7]->∀ N6,N5<=N6->Q (.ag [.j k,.t ba,.t bb,.j n0,y4,y5,y6,y7,.sl a2 9 r q]) N6:=
     λba bb y4 y5 y6 y7 L r q N' aj hL hH hA hO hq a2 N5 ax hf N6 ay=>by
      have ae:=hA.len
      exact hq _ _ (by omega) (Tm.is_mk.2 ⟨_,_,_,_,_,_,_,rfl,hH,by omega,hA⟩) ((sM hO hf ax).mono (oD _) ay)
    refine up bq ca (λi xs=>∀ (r:List D) (q N':Nat),N<=N'->All2 Tm.Is (((l.map g).set j p).take i++l.drop i) r->r.length=l.length->OwnL N N' ([x4,x5,x6,x7]++r) ->
     yP Q N a1 (zA (bdN k nm ot l.length)) c1 (j:Int) a es c es.length i (.ag [.j k,.t nm,.t ot,.j n0,t0,t1,r0,r1,.sl a 9 es c]) x db 0 (bytes []) (bytes []) 0 0 none [] 0 0 none [] 0 none [] 0 k nm ot n0 x4 x5 x6 x7 r.length q r q N') ?_ ?_ ao c' N4 (by omega) (by simpa using J) aq (aa.mono (by omega) (oD _))
    ·intro i al hi r q N' aj hA ae hO
     rw [ow (by simp;omega),mE (by omega),nH] at hA
     refine uR _ _ _ _ _ _ _ _ _ _ _ _ _ _ _ _ _ _ _ _ _ _ _ _ _ _ _ _ _ _ _ _ _ _ _ _ _ _ _ _ _ _ ?_
     rw [al]
     refine λN5 ax=>yf _ (by omega) a1 c1 x N5 _ λN6 ay _=>?_
     rw [zBt]
     refine Br.dec (λhx=>⟨⟨rfl,rfl⟩,⟨rfl,rfl⟩,⟨rfl,rfl⟩,λa2 N7 c4 hf N8 cj=>?_⟩) λhx=>⟨_,_,_,rfl,⟨by omega,by omega⟩,λN7 c4=>?_⟩
     ·rw [if_pos (.inl hx)] at U
      exact fin _ _ _ _ _ _ _ _ _ N' aj (by simp) Y hA hO U a2 N7 (by omega) hf N8 cj
     ·rw [oJ]
      have d6:=Tm.fv_wd p
      refine vn p _ ch cg N7 _ λc8 N8 cj _ _=>⟨⟨rfl,rfl⟩,λa9 _ N9 d7 _=>yf _ (by omega) a9 c8 x N9 _ λd8 dk _=>?_⟩
      rw [zBt]
      refine Br.ndec (λbw=>⟨⟨rfl,rfl⟩,⟨rfl,rfl⟩,⟨rfl,rfl⟩,λa2 bz ck hf b1 bg=>?_⟩) λbw bz ck=>?_
      ·rw [if_pos (.inr bw)] at U
       exact fin _ _ _ _ _ _ _ _ _ N' aj (by simp) Y hA hO U a2 bz (by omega) hf b1 bg
      ·rw [if_neg (by rintro (h | h);exact hx h;exact h bw)] at U
       have dl:=Tm.fv_wd b
       refine vn b _ hb cz bz _ λbc b1 bg _ _=>?_
       have d9:=zF b.fv
       generalize hT:rns (Tm.sub f) k l.length b.fv x (bdN k nm ot l.length) (nm,ot,p)=T at U
       refine up (xC (bdN k nm ot l.length)) (by omega) (λi xs=>∀ (s:ByteArray × ByteArray × Tm) (y4 y5 y6 y7:D) (r:List D) (q N':Nat),N<=N'->Tm.Hd s.1 s.2.1 ty re y4 y5 y6 y7->All2 Tm.Is ((l.map g).set j s.2.2) r->r.length=l.length->OwnL N N' ([y4,y5,y6,y7]++r)->LeW s.2.2 p->rns (Tm.sub f) k l.length b.fv x xs s=T ->
        yS Q N (j:Int) (zA b.fv).length bc a1 (zA (bdN k nm ot l.length)) c1 ((zA (bdN k nm ot l.length)).length:Int) i x db 0 (bytes []) (bytes []) 0 0 none [] 0 0 none [] 0 none [] 0 k s.1 s.2.1 n0 y4 y5 y6 y7 r.length q (zA b.fv) bc r q N') ?_ ?_ (nm,ot,p) x4 x5 x6 x7 r q b1 (by omega) Y hA ae (hO.mono (oD _) (by omega)) LeW.rfl hT
       ·intro i al hi s y4 y5 y6 y7 r q N' aj hH hA ae hO O hs
        simp only [rns] at hs
        subst hs
        refine uo _ _ _ _ _ _ _ _ _ _ _ _ _ _ _ _ _ _ _ _ _ _ _ _ _ _ _ _ _ _ _ _ _ _ _ _ _ _ _ _ _ _ ?_
        rw [al]
        refine ⟨⟨by omega,by omega,by omega⟩,by omega,λb2 cm=>?_⟩
        have bh:=yQ hA (j:=j) (by simpa using g1)
        have b3:((l.map g).set j s.2.2).getD j tm0=s.2.2:=by rw [oA,nD (by simpa using g1)];rfl
        rw [b3] at bh
        have cn:=O.le.c
        have co:=O.le.d
        rw [oJ,om]
        refine ih s.2.2 _ x b db bh hb (by omega) (O.z a8) ak b2 _ λdx b4 cp hx b5 _ _=>?_
        have cq:All2 Tm.Is ((l.map g).set j (s.2.2.sub f x b)) (r.set j dx):=by have:=sG (j:=j) hA hx;rwa [List.set_set] at this
        have cr:OwnL N b4 ([y4,y5,y6,y7]++r.set j dx):=rp hO b5 (by omega) (by omega) (by omega)
        exact ⟨⟨by omega,by omega,by omega⟩,by omega,⟨by simp,rfl⟩,⟨by simp,rfl⟩,⟨by simp,rfl⟩,⟨by simp,rfl⟩,⟨by simp,rfl⟩,λa2 ct bi hf b6 bj=>fin _ _ _ _ _ _ _ _ _ b4 (by omega) (by simp) hH cq cr U a2 ct bi hf b6 bj⟩
       ·intro i old xs I _ az s y4 y5 y6 y7 r q N' aj hH hA ae hO O hs
        have c5:=I.b
        have hr:=I.r
        simp only [rns] at hs
        refine uo _ _ _ _ _ _ _ _ _ _ _ _ _ _ _ _ _ _ _ _ _ _ _ _ _ _ _ _ _ _ _ _ _ _ _ _ _ _ _ _ _ _ ?_
        rw [I.lt,oJ,I.w,hr]
        refine ⟨⟨by omega,by omega⟩,old,rfl,⟨rfl,rfl⟩,λc6 _ b2 cm _=>yf _ (by omega) c6 bc old b2 _ λb4 cp _=>?_⟩
        rw [zBt]
        refine Br.dec (λho=>⟨⟨rfl,rfl⟩,⟨rfl,rfl⟩,λc7 ct bi _=>⟨⟨rfl,rfl⟩,λb7 _ b6 bj ac=>?_⟩⟩) λho=>?_
        ·have cn:=O.le.c
         have co:=O.le.d
         have da:(Tm.mk k s.1 s.2.1 n0 ty re ((l.map g).set j s.2.2)).Is (.ag [.j k,.t s.1,.t s.2.1,.j n0,y4,y5,y6,y7,.sl c7 9 r q]):=Tm.is_mk.2 ⟨_,_,_,_,_,_,_,rfl,hH,by omega,hA⟩
         have b3:((l.map g).set j s.2.2).getD j tm0=s.2.2:=by rw [oA,nD (by simpa using g1)];rfl
         have de:(Tm.mk k s.1 s.2.1 n0 ty re ((l.map g).set j s.2.2)).G:=⟨hG.1,hG.2.1,by simpa using hG.2.2.1,zBk λy hy=>by
          rcases oi hy with hy | rfl
          ·obtain ⟨z,hz,rfl⟩:=oQ.1 hy
           exact c3 z hz
          ·exact O.le.g a8.g⟩
         refine zO7 ih da de (n:=l.length) (by simp) ce b3 (by omega) (O.z a8) old x b.fv (by omega) b7 bc rfl b6 _ ?_
         simp only [tR]
         intro z4 z5 z6 z7 df c9 ea dm dh a6 b8 _
         have off:∀ y∈[z4,z5,z6,z7],Off [b7] y:=λy hy a' ah ab ai hc=>by
          have h1:=ac a' ah ab ai
          have h2:=b8.lo _ (zL.2 ⟨y,oh _ hy,hc⟩)
          omega
         have aw:Off [b7] (.ag df):=λa' ah ab ai hc=>by
          have h1:=ac a' ah ab ai
          have h2:=b8.lo ab.block (by rw [zH];exact nF _ (by simpa only [D.foot] using hc))
          omega
         rw [List.set_set] at a6
         have cw:=a6.len
         simp only [nY,nC] at cw
         refine ⟨off z4 (by simp),off z5 (by simp),off z6 (by simp),off z7 (by simp),aw,λ_=>?_⟩
         have e1:rn1 (Tm.sub f) k l.length b.fv x old s=(if s.1=old then fresh (b.fv++(s.2.2.fv++([x]++bdN k s.1 s.2.1 l.length))) else s.1,if s.1=old then s.2.1 else fresh (b.fv++(s.2.2.fv++([x]++bdN k s.1 s.2.1 l.length))),s.2.2.sub f old (vF (fresh (b.fv++(s.2.2.fv++([x]++bdN k s.1 s.2.1 l.length)))))):=by
          unfold rn1
          rw [if_pos ho]
          split<;>rfl
         rw [e1] at hs
         exact az _ _ _ _ _ _ _ _ (by omega) dh a6 cw (b8.mono (by omega) (oD _)) ((qI f _ _ _ (by omega)).trans O) hs
        ·have e1:rn1 (Tm.sub f) k l.length b.fv x old s=s:=by unfold rn1;rw [if_neg ho]
         rw [e1] at hs
         exact az _ _ _ _ _ _ _ _ (by omega) hH hA ae (hO.mono (oD _) (by omega)) O hs
    ·intro i y xs I _ az r q N' aj hA ae hO
     have c5:=I.b
     have di:=hp y I.m
     have dj:=b9 y I.m
     have cx:i<l.length:=(oC.1 I.g).1
     refine uR _ _ _ _ _ _ _ _ _ _ _ _ _ _ _ _ _ _ _ _ _ _ _ _ _ _ _ _ _ _ _ _ _ _ _ _ _ _ _ _ _ _ ?_
     rw [I.lt,oJ,I.w]
     refine ⟨⟨by omega,by omega⟩,Br.bne (λeb N5 ax=>ih y _ x b db I.r hb di dj ak N5 _ λdx N6 ay hx b5 _ _=>⟨⟨by omega,by omega,by omega⟩,by omega,?_⟩) λheq=>?_⟩
     ·have hT:((l.map g).set j p)[i]?=some (y.sub f x b):=by
       rw [o7 (by omega),oE,I.g,<-hg];rfl
      rw [om]
      have h2:=sG (j:=i) hA hx
      rw [zOR (by simp) cx hT] at h2
      have h3:=az (r.set i dx) q N6 (by omega) h2 (by simpa using ae) (rp hO b5 (by omega) (by omega) (by omega))
      simpa using h3
     ·have cy:i=j:=by omega
      have hyp:y=p:=by
       have:=I.g
       rw [cy,bv] at this
       exact (oW this).symm
      have hT:((l.map g).set j p)[i]?=some y:=by rw [cy,hyp,nD (by simpa using g1)]
      rw [zLH cx I.g hT] at hA
      exact az r q N' aj hA ae hO
theorem zL5 (s:ByteArray) (l:List ByteArray):decide (zCK (λx=>decide (x=s)) l 0≥0)=decide (s∈l):=by
 have h:=zDp s l
 rw [mP,mJ,mJ] at h ⊢
 constructor
 ·intro J;exact mN.1 λI=>by have:=h.2 I;omega
 ·intro J;exact Int.not_lt.1 λI=>h.1 I J
/-- what a node binds, away from some names -/
theorem zOE {f:Nat} (hS:zSV 122 f) {k n0:Int} {nm ot:ByteArray} {ty re:Ty} {l:List Tm} {d:D} (hd:(Tm.mk k nm ot n0 ty re l).Is d) (hG:(Tm.mk k nm ot n0 ty re l).G) {j:Nat} (bg:zQ k l.length=(j:Int))
  {p:Tm} (hp:l.getD j tm0=p) (cw:p.dp<=f) (hc:p.Z) (x:ByteArray) (fb:List ByteArray) (cx:fb.length<=2199023255552) (a:Option Addr) (c:Nat) (N:Nat) {T:ByteArray × ByteArray × Tm} (hT:rns (Tm.sub f) k l.length fb x (bdN k nm ot l.length) (nm,ot,p)=T)
  (Q:QT [.pk,.i,.str,.str,.i,.dc,.dc,.dc,.dc,.row 29 9]) (hQ:tR (.mk k T.1 T.2.1 n0 ty re (l.set j T.2.2)) N Q) :
  ACalls prog 156 [.pk,.i,.str,.str,.i,.dc,.dc,.dc,.dc,.row 29 9] [.dg 9 d,.j (j:Int),.str x,.sv a 0 (zA fb) c] N Q:=by
 obtain ⟨t0,t1,r0,r1,a8,es,c8,rfl,hh,ce,bh⟩:=Tm.is_mk.1 hd
 have hl:=bh.len
 obtain ⟨g1,_⟩:=wE (k:=k) (n:=l.length) (by omega)
 rw [bg,oJ] at g1
 have cy:=pX k nm ot l.length
 have cz:=zF (bdN k nm ot l.length)
 have c2:=hG.2.2.1
 refine zFB N _ _ x a _ c Q λ_ _ N1 bi=>tT _ _ hd hG N1 _ ?_
 simp only [tR] at hQ ⊢
 intro x4 x5 x6 x7 bj c' N2 c3 bm ai bp _ _ N3 c4
 refine zAw (n:=l.length) (by omega) N3 _ λa1 c1 N4 c5 _ _ _=>?_
 have da:=ai.len
 have al:l.set j p=l:=by
  apply nE
  intro i
  rw [nO]
  split
  ·rename_i hi
   subst hi
   rw [zX g1,hp]
  ·rfl
 refine up (xC (bdN k nm ot l.length)) (by omega) (λi xs=>∀ (s:ByteArray × ByteArray × Tm) (y4 y5 y6 y7:D) (r:List D) (q N':Nat),N<=N'->Tm.Hd s.1 s.2.1 ty re y4 y5 y6 y7->All2 Tm.Is (l.set j s.2.2) r->OwnL N N' ([y4,y5,y6,y7]++r)->LeW s.2.2 p->rns (Tm.sub f) k l.length fb x xs s=T ->
  (i=0->s=(nm,ot,p))->(0<i->∀ o∈xs,o∈fb->s.1≠o) ->
  yW Q N j x a (zA fb) c a1 (zA (bdN k nm ot l.length)) c1 i 0 (bytes []) (bytes []) 0 0 none [] 0 0 none [] 0 none [] 0 k s.1 s.2.1 n0 y4 y5 y6 y7 r.length q r q N') ?_ ?_ (nm,ot,p) x4 x5 x6 x7 bj c' N4 (by omega) bm (by rw [al];exact ai) (bp.mono bi (by omega)) LeW.rfl hT (λ_=>rfl) (λh=>absurd h (by omega))
 ·intro i bq hi s y4 y5 y6 y7 r q N' bt hH hA hO U hs _ _
  simp only [rns] at hs
  subst hs
  refine sx _ _ _ _ _ _ _ _ _ _ _ _ _ _ _ _ _ _ _ _ _ _ _ _ _ _ _ _ _ _ _ _ _ _ _ _ _ _ _ ?_
  rw [bq]
  exact ⟨⟨rfl,rfl⟩,λN5 aq=>hQ _ _ _ _ _ _ _ (by omega) hH hA (hO.mono (oD _) aq)⟩
 ·intro i old xs I au am s y4 y5 y6 y7 r q N' bt hH hA hO U hs h0 h1
  have db:=I.b
  have hr:=I.r
  have bv:=hA.len
  simp only [nY] at bv
  simp only [rns] at hs
  refine sx _ _ _ _ _ _ _ _ _ _ _ _ _ _ _ _ _ _ _ _ _ _ _ _ _ _ _ _ _ _ _ _ _ _ _ _ _ _ _ ?_
  rw [I.lt,oJ,I.w,hr]
  refine ⟨⟨by omega,by omega⟩,old,rfl,λN5 aq=>xH fb (by omega) a c old N5 _ λN6 de _=>?_⟩
  show Br (decide (zCK (λx=>decide (x=old)) fb 0<0)) _ _
  rw [zDp]
  have hold:i=0->s.1=old:=λhi=>by
   subst hi
   have h2:=I.g
   rw [h0 rfl]
   unfold bdN at h2
   (repeat' split at h2)<;>simp at h2<;>exact h2
  have aw:0<i->old∈fb->s.1≠old:=λhi Y=>h1 hi old (by simp) Y
  have aa:∀ s':ByteArray × ByteArray × Tm,rn1 (Tm.sub f) k l.length fb x old s=s'->0<i+1->∀ o∈xs,o∈fb->s'.1≠o:=λs' bw _ o Y bz=>by
   have ax:i=0:=by
    have h3:=oP.1 Y
    obtain ⟨m,hm⟩:=h3
    rw [<-au,nM] at hm
    have:=(oC.1 hm).1
    omega
   have b1:=h0 ax
   subst ax
   have b2:o∈bdN k nm ot l.length:=by rw [<-au] at Y;exact ou Y
   have ab:=hold rfl
   subst bw
   unfold rn1
   by_cases ac:old∈fb
   ·have b3:=ui (fb++(s.2.2.fv++([x]++bdN k s.1 s.2.1 l.length)))
    rw [if_pos ac,if_pos ab]
    intro hc
    refine b3 ?_
    simp only at hc
    rw [hc,b1]
    simp [b2]
   ·rw [if_neg ac]
    intro hc
    exact ac (by rw [<-ab,hc];exact bz)
  refine Br.dec (λY=>?_) λY=>?_
  ·have e1:rn1 (Tm.sub f) k l.length fb x old s=s:=by unfold rn1;rw [if_neg Y]
   have J:=aa s e1
   rw [e1] at hs
   exact am _ _ _ _ _ _ _ _ (by omega) hH hA (hO.mono (oD _) (by omega)) U hs (λh=>absurd h (by omega)) J
  ·have Y:old∈fb:=mN.1 Y
   have ae:=yQ hA (j:=j) (by simpa using g1)
   have b4:(l.set j s.2.2).getD j tm0=s.2.2:=by rw [oA,nD (by simpa using g1)];rfl
   rw [b4] at ae
   have ay:=U.z hc
   have df:=ay.c
   have dh:=Tm.fv_wd s.2.2
   have di:=zEw fb s.2.2.fv
   have cf:=pX k s.1 s.2.1 l.length
   have cg:=zF (bdN k s.1 s.2.1 l.length)
   have ch:=U.le.d
   refine ⟨⟨rfl,rfl⟩,λa5 _ N7 dj az=>zAw (n:=l.length) (by omega) N7 _ λa6 c6 N8 dk b5 _=>⟨vP az b5,λ_=>⟨⟨by omega,by omega,by omega⟩,by omega,λN9 dl=>?_⟩⟩⟩
   rw [oJ,om]
   refine vm s.2.2 _ ae (by omega) N9 _ λa7 c7 dm cj _ _ _ b6 ck=>?_
   refine tg fb s.2.2.fv (by omega) (by omega) a a7 c c7 b6 _ λc8 dn cm _ _=>?_
   rw [vQ,zGL]
   have ba:(tQ fb s.2.2.fv++[x]++bdN k s.1 s.2.1 l.length).length<=8796093022208:=by simp only [oH,oM,oS];omega
   have bb:fresh (tQ fb s.2.2.fv++[x]++bdN k s.1 s.2.1 l.length)=fresh (fb++(s.2.2.fv++([x]++bdN k s.1 s.2.1 l.length))):=zPg λy=>by simp [zIV,or_assoc]
   refine ⟨⟨rfl,rfl⟩,pq (by omega),λc9=>⟨⟨rfl,rfl⟩,by unfold zB;rw [oH,zF,zF,oH,oM,oS];omega,λb7=>⟨⟨rfl,rfl⟩,λb8 _ b9 cn _=>?_⟩⟩⟩
   refine zCp _ ba b8 b7 b9 _ λdq co _=>⟨⟨by omega,by omega,by omega⟩,by omega,⟨by omega,by omega⟩,old,rfl,λca cp=>?_⟩
   have ah:=zGJ ba
   rw [bb] at ah ⊢
   have e1:rn1 (Tm.sub f) k l.length fb x old s=(if s.1=old then fresh (fb++(s.2.2.fv++([x]++bdN k s.1 s.2.1 l.length))) else s.1,if s.1=old then s.2.1 else fresh (fb++(s.2.2.fv++([x]++bdN k s.1 s.2.1 l.length))),s.2.2.sub f old (vF (fresh (fb++(s.2.2.fv++([x]++bdN k s.1 s.2.1 l.length)))))):=by
    unfold rn1
    rw [if_pos Y]
    split<;>rfl
   have J:=aa _ e1
   rw [e1] at hs
   generalize fresh (fb++(s.2.2.fv++([x]++bdN k s.1 s.2.1 l.length)))=O at ah hs J ⊢
   refine zCL ca O _ λdr cq _ _ cc cr=>?_
   refine hS s.2.2 _ old (vF O) _ ae (zM7 ah) (by omega) ay (zRA _) cc _ λdx ao ct hx cd _ _=>⟨⟨by omega,by omega,by omega⟩,by omega,?_⟩
   have aj:All2 Tm.Is (l.set j (s.2.2.sub f old (vF O))) (r.set j dx):=by have:=sG (j:=j) hA hx;rwa [List.set_set] at this
   have ak:OwnL N ao ([y4,y5,y6,y7]++r.set j dx):=rp hO cd (by omega) (by omega) (by omega)
   have bc:(r.set j dx).length=r.length:=nY
   refine Br.beq (λhi=>?_) λhi=>?_
   ·have hi:i=0:=by omega
    rw [if_pos (hold hi),if_pos (hold hi)] at hs J
    have:=am (O,s.2.1,s.2.2.sub f old (vF O)) y4 y5 y6 y7 (r.set j dx) q ao (by omega) ⟨ah,hH.ot,hH.ty,hH.re⟩ aj ak ((qI f _ _ _ (by omega)).trans U) hs (λh=>absurd h (by omega)) J
    rwa [bc] at this
   ·have hi:0<i:=by omega
    rw [if_neg (aw hi Y),if_neg (aw hi Y)] at hs J
    have:=am (s.1,O,s.2.2.sub f old (vF O)) y4 y5 y6 y7 (r.set j dx) q ao (by omega) ⟨hH.nm,ah,hH.ty,hH.re⟩ aj ak ((qI f _ _ _ (by omega)).trans U) hs (λh=>absurd h (by omega)) J
    rwa [bc] at this
/-- the parts, each put through, but for one -/
theorem zAf {f:Nat} (hS:zSV 122 f) {k n0:Int} {nm ot:ByteArray} {ty re:Ty} {L Lf:List Tm} {x:ByteArray} {b:Tm} {db:D} (hb:b.Is db) (aj:b.Z) (hL:∀ y∈L,y.dp<=f/\y.Z) (ax:L.length<=1073741824) {at_:Int} {hid:Bool}
  (ak:Lf.length=L.length) (hf:∀ (i:Nat) (y:Tm),L[i]?=some y->Lf[i]?=some (if hid=true/\(i:Int)=at_ then y else y.sub f x b)) {y4 y5 y6 y7:D} (hH:Tm.Hd nm ot ty re y4 y5 y6 y7) {r:List D} (hA:All2 Tm.Is L r) (q N N':Nat) (O:N<=N') (hO:OwnL N N' ([y4,y5,y6,y7]++r))
  (Q:QT [.ag 9]) (hQ:∀ d' N'',N<=N''->(Tm.mk k nm ot n0 ty re Lf).Is d'->Own N N'' d'->Q d' N'') :
  zC Q N x at_ hid 0 db 0 (bytes []) (bytes []) 0 0 none [] 0 0 none [] 0 none [] 0 k nm ot n0 y4 y5 y6 y7 r.length q r q N':=by
 have ay:=hA.len
 refine up hA (by omega) (λi xs=>∀ (r':List D) (q N':Nat),N<=N'->All2 Tm.Is (Lf.take i++L.drop i) r'->r'.length=r.length->OwnL N N' ([y4,y5,y6,y7]++r') ->
  zC Q N x at_ hid i db 0 (bytes []) (bytes []) 0 0 none [] 0 0 none [] 0 none [] 0 k nm ot n0 y4 y5 y6 y7 r.length q r' q N') ?_ ?_ r q N' O (by simpa using hA) rfl hO
 ·intro i al hi r' q N' O J aa U
  rw [ow (by omega),mE (by omega),nH] at J
  refine u9 _ _ _ _ _ _ _ _ _ _ _ _ _ _ _ _ _ _ _ _ _ _ _ _ _ _ _ _ _ _ _ _ _ _ _ ?_
  rw [al]
  exact ⟨⟨by omega,rfl⟩,⟨by omega,rfl⟩,⟨by omega,rfl⟩,⟨by omega,rfl⟩,λa2 N5 ab hf N6 ac=>hQ _ _ (by omega) (Tm.is_mk.2 ⟨_,_,_,_,_,_,_,rfl,hH,by omega,J⟩) ((sM U hf ab).mono (oD _) ac)⟩
 ·intro i y xs I _ ae r' q N' O J aa U
  have az:=I.b
  obtain ⟨am,ao⟩:=hL y I.m
  have ah:i<L.length:=(oC.1 I.g).1
  have Y:=hf i y I.g
  have aq:y.Is (r'.getD i default):=by
   refine J.get ?_
   rw [oR (by rw [nG];omega),nG,show i - min i Lf.length=0 by omega,nM]
   exact I.g
  have put:(if hid=true/\(i:Int)=at_ then y else y.sub f x b)=y.sub f x b->∀ N5,N'<=N5->ACalls prog 122 [.ag 9] [.dg 9 (List.getD r' i default),.str x,.dg 9 db] N5 (λai N6=>N5<=N6->Bel N6 ai->((0:Int)<=(i:Int)/\(i:Int)<(r.length:Int)/\i<r'.length)/\i<r'.length /\
    zC Q N x at_ hid ((i+1:Nat):Int) db 0 (bytes []) (bytes []) 0 0 none [] 0 0 none [] 0 none [] 0 k nm ot n0 y4 y5 y6 y7 r.length q (List.set r' i ai) q N6):=λe N5 ab=>
   hS y _ x b db aq hb am ao aj N5 _ λdx N6 ac hx au _ _=>⟨⟨by omega,by omega,by omega⟩,by omega,by
    rw [e] at Y
    have h2:=sG (j:=i) J hx
    rw [zOR ak ah Y] at h2
    exact ae (r'.set i dx) q N6 (by omega) h2 (by simpa using aa) (rp U au (by omega) (by omega) (by omega))⟩
  refine u9 _ _ _ _ _ _ _ _ _ _ _ _ _ _ _ _ _ _ _ _ _ _ _ _ _ _ _ _ _ _ _ _ _ _ _ ?_
  rw [I.lt,oJ,I.w,om]
  refine Br.bne (λaw=>⟨⟨by omega,by omega,by omega⟩,by omega,put (if_neg λh=>aw h.2)⟩) λheq=>?_
  refine Br.not (λhh=>⟨⟨by omega,by omega,by omega⟩,by omega,put (if_neg λh=>by rw [hh] at h;exact absurd h.1 (by decide))⟩) λhh=>?_
  rw [if_pos ⟨hh,heq⟩] at Y
  rw [zLH ah I.g Y] at J
  exact ae r' q N' O J aa U
theorem zLy {g:Tm->Tm} {l:List Tm} {i:Nat} {y:Tm} (h:l[i]?=some y):(l.map g)[i]?=some (g y):=by rw [oE,h];rfl
theorem zFv:∀ f,zSV 122 f
 | 0=>λe d x b db _ _ ae=>absurd (Tm.dp_pos e) (by omega)
 | f + 1=>λe d x b db he hb ae hc U N Q J=>by
   have ih:=zFv f
   have hG:=hc.g
   have au:=U.g
   have bh:=U.c
   cases e with
   | mk k nm ot n0 ty re l=>
   simp only [Tm.dp] at ae
   have hp:∀ y∈l,y.dp<=f/\y.Z:=λy O=>⟨ww.1 (mo ae) y O,hc.mem y O⟩
   obtain ⟨t0,t1,r0,r1,a,es,c,rfl,hh,b2,aw⟩:=Tm.is_mk.1 he
   have hl:=aw.len
   have ab:=hG.2.2.1
   have b9:=pX k nm ot l.length
   have ca:=zF (bdN k nm ot l.length)
   refine zCx N _ x db Q λ_ _=>⟨_,rfl,?_⟩
   have ax:¬(k=1/\nm=x)->(Tm.mk k nm ot n0 ty re l).sub (f+1) x b=if zQ k l.length<0 then .mk k nm ot n0 ty re (l.map λt=>Tm.sub f t x b)
     else if x∈bdN k nm ot l.length\/x∉(l.getD (zQ k l.length).toNat tm0).fv then
      .mk k nm ot n0 ty re ((l.map λt=>Tm.sub f t x b).set (zQ k l.length).toNat (l.getD (zQ k l.length).toNat tm0))
     else
      .mk k (rns (Tm.sub f) k l.length b.fv x (bdN k nm ot l.length) (nm,ot,l.getD (zQ k l.length).toNat tm0)).1
       (rns (Tm.sub f) k l.length b.fv x (bdN k nm ot l.length) (nm,ot,l.getD (zQ k l.length).toNat tm0)).2.1 n0 ty re
       ((l.map λt=>Tm.sub f t x b).set (zQ k l.length).toNat (Tm.sub f (rns (Tm.sub f) k l.length b.fv x (bdN k nm ot l.length) (nm,ot,l.getD (zQ k l.length).toNat tm0)).2.2 x b)):=λhn=>by
    simp only [Tm.sub]
    by_cases hk:k=1
    ·rw [if_pos hk,if_neg (λh=>hn ⟨hk,h⟩)]
     have:l=[]:=hc.v.1 hk
     subst this
     subst hk
     rw [if_pos (by decide)]
     rfl
    ·rw [if_neg hk]
   refine Br.beq (λh1=>⟨_,rfl,Br.str (λh2 N1 ah=>?_) λh2=>?_⟩) λh1=>?_
   ·simp only [Tm.sub] at J
    rw [if_pos h1,if_pos h2] at J
    refine tT b db hb au N1 _ ?_
    cases b with
    | mk k2 cc cd n2 ce cf l2=>
    simp only [tR]
    intro x4 x5 x6 x7 ay c' N2 bi aa I ai _ _
    have bj:=I.len
    have cg:=au.2.2.1
    exact ⟨⟨trivial,trivial⟩,⟨trivial,trivial⟩,λa2 N3 az hf N4 a6=>J _ _ (by omega) (Tm.is_mk.2 ⟨_,_,_,_,_,_,_,rfl,aa,by omega,I⟩) ((sM (ai.mono ah (oD _)) hf az).mono (oD _) a6)⟩
   all_goals
    rw [ax (λh=>by first | exact h2 h.2 | exact h1 h.1)] at J
    intro N1 ah
    refine tT _ _ he hG N1 _ ?_
    simp only [tR]
    intro x4 x5 x6 x7 ay c' N2 bi aa I ai _ _ N3 az
    have bj:=I.len
    refine zAw (n:=l.length) (by omega) N3 _ λa1 c1 N4 a6 _ _ _ N5 ch=>?_
    refine xH _ (by omega) a1 c1 x N5 _ λN6 cj _=>?_
    rw [zL5]
    have aj:OwnL N N6 ([x4,x5,x6,x7]++ay):=ai.mono ah (by omega)
    refine Br.dec (λck=>?_) λcm=>?_
    ·rw [if_neg (by omega)] at J
     obtain ⟨g1,g2⟩:=wE (k:=k) (n:=l.length) (by omega)
     obtain ⟨j,a7⟩:∃ j:Nat,zQ k l.length=(j:Int):=⟨_,g2.symm⟩
     rw [a7] at g1 J ⊢
     rw [oJ] at g1 J ⊢
     generalize ak:l.getD j tm0=p at J
     have al:l[j]?=some p:=ak ▸ zX g1
     obtain ⟨am,ao⟩:=hp p (oB al)
     have ba:=ao.c
     have bb:=yQ aw g1
     rw [ak] at bb
     refine Br.ndec (λhx=>⟨_,_,_,rfl,⟨by omega,by omega⟩,λN7 cn=>?_⟩) λhx=>?_
     ·have co:=Tm.fv_wd p
      refine vm p _ bb ba N7 _ λa8 c8 N8 cp _ _ _ N9 cq=>xH _ (by omega) a8 c8 x N9 _ λbm b3 _=>?_
      rw [zL5]
      rw [mQ hx]
      refine Br.dec (λac bp b4=>?_) λac=>?_
      ·rw [if_neg (by rintro (h | h);exact hx h;exact h ac)] at J
       have b5:=Tm.fv_wd b
       refine vm b _ hb bh bp _ λbq bt cr b6 _ _ _ bv b7=>?_
       generalize hT:rns (Tm.sub f) k l.length b.fv x (bdN k nm ot l.length) (nm,ot,p)=T at J
       have aq:=zKt (qI f) k l.length b.fv x (bdN k nm ot l.length) (nm,ot,p) am
       rw [hT] at aq
       have bc:=aq.le.d
       refine zOE ih he hG a7 ak am ao x b.fv (by omega) bq bt bv hT _ ?_
       simp only [tR]
       intro z4 z5 z6 z7 ct c9 bw b8 bz bg b1 _ _
       refine zAf ih hb U (L:=l.set j T.2.2) (Lf:=(l.map λt=>t.sub f x b).set j (T.2.2.sub f x b)) (λy O=>?_) (by simpa using ab) (by simp) (λi y O=>?_) bz bg c9 N bw (by omega) (b1.mono (by omega) (oD _)) Q J
       ·rcases oi O with O | rfl
        ·exact hp y O
        ·exact ⟨oO bc am,aq.z ao⟩
       ·rw [if_neg (λh=>by simp at h)]
        rw [<-List.map_set]
        exact zLy O
      ·rw [if_pos (.inr ac)] at J
       refine zAf ih hb U hp ab (by simp) (λi y O=>?_) aa I c' N bm (by omega) (aj.mono (oD _) (by omega)) Q J
       rw [if_neg (λh=>by simp at h)]
       by_cases Y:j=i
       ·subst Y
        have:y=p:=oW (O.symm.trans al)
        rw [nD (by simpa using g1),this,zCB f p x b ac]
       ·rw [o7 Y];exact zLy O
     ·rw [if_pos (.inl hx)] at J
      rw [mM hx]
      refine zAf ih hb U hp ab (by simp) (λi y O=>?_) aa I c' N N6 (by omega) aj Q J
      by_cases Y:j=i
      ·subst Y
       have:y=p:=oW (O.symm.trans al)
       rw [if_pos ⟨rfl,rfl⟩,nD (by simpa using g1),this]
      ·rw [if_neg (λh=>Y (by omega)),o7 Y];exact zLy O
    ·rw [if_pos (by omega)] at J
     refine zAf ih hb U hp ab (by simp) (λi y O=>?_) aa I c' N N6 (by omega) aj Q J
     rw [if_neg (λh=>by have:=h.2;omega)]
     exact zLy O
end Go.Proofs.YtfajiphkncipoaaGreatDoor
