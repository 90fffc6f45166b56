/- Substitution: how deep, how great (no program in sight). -/
import Derived.Test.YtnmnahkkcfghjaaGreatA7
import Derived.Test.YtnmnahkkcfghjaaGreatA8
import Derived.Test.YtnmnahkkcfghjaaGreatKf
set_option linter.unusedVariables false
set_option linter.unusedSimpArgs false
namespace Go.Proofs.YtnmnahkkcfghjaaGreat
open Go Go.Proofs Go.Proofs.Tryz Go.IntWalk
mutual
/-- variables have no parts -/
def Tm.V:Tm->Prop
 | .mk k _ _ _ _ _ l=>(k=1->l=[])/\zOw l
def zOw:List Tm->Prop
 | []=>True
 | t::I=>t.V/\zOw I
end
theorem uh:∀ {l:List Tm},zOw l↔∀ x∈l,x.V
 | []=>by simp [zOw]
 | t::I=>by simp only [zOw,uh (l:=I),oF,nY]
theorem va:∀ {l:List Tm} {n:Nat},uq l<=n↔∀ x∈l,x.dp<=n
 | [],n=>by simp [uq]
 | t::I,n=>by simp only [uq,Nat.max_le,va (l:=I),oF,nY]
/-- no greater, no deeper -/
structure LeT (t' t:Tm):Prop where
 c:t'.vc<=t.vc
 d:t'.dp<=t.dp
 v:t.V->t'.V
 g:t.G->t'.G
 s:t'.sz<=t.sz
 n:t'.cnt<=t.cnt
theorem LeT.rfl {t:Tm}:LeT t t:=⟨oD _,oD _,id,id,oD _,oD _⟩
theorem LeT.trans {a b c:Tm} (h:LeT a b) (I:LeT b c):LeT a c:=⟨oN h.c I.c,oN h.d I.d,λJ=>h.v (I.v J),λJ=>h.g (I.g J),oN h.s I.s,oN h.n I.n⟩
theorem zJM:∀ {l' l:List Tm},l'.length=l.length->(∀ (i:Nat) (t' t:Tm),l'[i]?=some t'->l[i]?=some t->LeT t' t)->rn l'<=rn l/\uq l'<=uq l/\(zOw l->zOw l')/\(zJb l->zJb l')/\zg l'<=zg l/\zI l'<=zI l
 | [],[],_,_=>⟨oD _,oD _,id,id,oD _,oD _⟩
 | [],_::_,h,_=>by simp at h
 | _::_,[],h,_=>by simp at h
 | t'::O,t::Y,h,U=>by
   obtain ⟨h1,h2,h3,h4,h5,h6⟩:=zJM (l':=O) (l:=Y) (by simpa using h) λi a b ha hb=>U (i+1) a b (by simpa using ha) (by simpa using hb)
   have I:=U 0 t' t (by simp) (by simp)
   have:=I.c
   have:=I.d
   have:=I.s
   have:=I.n
   refine ⟨by simp only [rn];omega,by simp only [uq];omega,λJ=>⟨I.v J.1,h3 J.2⟩,λJ=>⟨I.g J.1,h4 J.2⟩,by simp only [zg];omega,by simp only [zI];omega⟩
theorem zAr {l:List Tm} {g:Tm->Tm} {j:Nat} {v t' t:Tm} {i:Nat} (h:((l.map g).set j v)[i]?=some t') (J:l[i]?=some t):(i=j/\t'=v)\/(i≠j/\t'=g t):=by
 rw [nL] at h
 split at h
 ·rename_i I
  split at h
  ·exact .inl ⟨I.symm,(oW h).symm⟩
  ·cases h
 ·rename_i I
  rw [oE,J] at h
  exact .inr ⟨λhc=>I hc.symm,(oW h).symm⟩
theorem zLm {k:Int} {nm ot J O:ByteArray} {n:Int} {ty re:Ty} {l l':List Tm} (U:k≠1) (h:l'.length=l.length) (Y:∀ (i:Nat) (t' t:Tm),l'[i]?=some t'->l[i]?=some t->LeT t' t):LeT (.mk k J O n ty re l') (.mk k nm ot n ty re l):=by
 obtain ⟨h1,h2,h3,h4,h5,h6⟩:=zJM h Y
 exact ⟨by simp only [Tm.vc,if_neg U];omega,by simp only [Tm.dp];omega,λI=>⟨λhc=>absurd hc U,h3 I.2⟩,λI=>⟨I.1,I.2.1,h ▸ I.2.2.1,h4 I.2.2.2⟩,by simp only [Tm.sz];omega,by simp only [Tm.cnt];omega⟩
theorem qP {S:Tm->ByteArray->Tm->Tm} (I:∀ t x y,LeT (S t x (vL y)) t) (k:Int) (n:Nat) (fb:List ByteArray) (x old:ByteArray) (s:ByteArray × ByteArray × Tm):LeT (rn1 S k n fb x old s).2.2 s.2.2:=by
 unfold rn1
 split
 ·split
  ·exact I _ _ _
  ·exact I _ _ _
 ·exact LeT.rfl
theorem sw {S:Tm->ByteArray->Tm->Tm} (I:∀ t x y,LeT (S t x (vL y)) t) (k:Int) (n:Nat) (fb:List ByteArray) (x:ByteArray):∀ (l:List ByteArray) (s:ByteArray × ByteArray × Tm),LeT (rns S k n fb x l s).2.2 s.2.2
 | [],s=>LeT.rfl
 | old::l,s=>(sw I k n fb x l _).trans (qP I k n fb x old s)
/-- a name put for a name -/
theorem yr:∀ (f:Nat) (t:Tm) (x y:ByteArray),LeT (t.sub f x (vL y)) t
 | 0,t,x,y=>by simp only [Tm.sub];exact LeT.rfl
 | f + 1,.mk k nm ot n ty re l,x,y=>by
   have U:=yr f
   simp only [Tm.sub]
   split
   ·rename_i Y
    split
    ·exact ⟨by simp only [vL,Tm.vc,if_pos Y,mV];exact oD _,by simp only [vL,Tm.dp,uq];omega,λ_=>⟨λ_=>rfl,trivial⟩,λ_=>by simp [vL,Tm.G,zJb,Ty.cnt,zG],by simp only [vL,Tm.sz,zg];omega,by have:=Ty.cnt_pos ty;have:=Ty.cnt_pos re;simp only [vL,Tm.cnt,zI,Ty.cnt,zG];omega⟩
    ·exact LeT.rfl
   ·rename_i Y
    split
    ·refine zLm Y (by simp) λi t' t I J=>?_
     rw [oE,J] at I
     cases I
     exact U t x y
    ·rename_i hb
     obtain ⟨g1,g2⟩:=xT hb
     split
     ·refine zLm Y (by simp) λi t' t I J=>?_
      rcases zAr I J with ⟨h1,O⟩ | ⟨h1,O⟩
      ·rw [h1,zN g1] at J
       rw [O,<-oW J]
       exact LeT.rfl
      ·rw [O];exact U t x y
     ·refine zLm Y (by simp) λi t' t I J=>?_
      rcases zAr I J with ⟨h1,O⟩ | ⟨h1,O⟩
      ·rw [h1,zN g1] at J
       rw [O,<-oW J]
       exact (U _ x y).trans (sw U _ _ _ _ _ _)
      ·rw [O];exact U t x y
/-- what holds of each node of what is put in -/
theorem zPO:∀ (f:Nat) (t:Tm) (x:ByteArray) (b:Tm),t.G->b.G->(t.sub f x b).G
 | 0,t,x,b,h,_=>by simp only [Tm.sub];exact h
 | f + 1,.mk k nm ot n ty re l,x,b,h,U=>by
   have I:=zPO f
   obtain ⟨Y,h2,h3,h4⟩:=h
   have vG:∀ y,(vL y).G:=λy=>by simp [vL,Tm.G,zJb,Ty.cnt,zG]
   simp only [Tm.sub]
   split
   ·split
    ·exact U
    ·exact ⟨Y,h2,h3,h4⟩
   ·split
    ·refine ⟨Y,h2,by simpa using h3,zCa λy J=>?_⟩
     obtain ⟨z,hz,rfl⟩:=oQ.1 J
     exact I z x b (yK h4 hz) U
    ·rename_i aa
     obtain ⟨g1,g2⟩:=xT aa
     have O:=yK h4 (oB (zN g1))
     have key:∀ v:Tm,v.G->zJb ((l.map λt=>Tm.sub f t x b).set (ze k l.length).toNat v):=λv hv=>zCa λy J=>by
      rcases nF J with J | rfl
      ·obtain ⟨z,hz,rfl⟩:=oQ.1 J
       exact I z x b (yK h4 hz) U
      ·exact hv
     split
     ·exact ⟨Y,h2,by simpa using h3,key _ O⟩
     ·refine ⟨Y,h2,by simpa using h3,key _ (I _ x b ?_ U)⟩
      have r1:∀ (old:ByteArray) (s:ByteArray × ByteArray × Tm),s.2.2.G->(rn1 (Tm.sub f) k l.length b.fv x old s).2.2.G:=λold s hs=>by
       unfold rn1
       split
       ·split
        ·exact I _ _ _ hs (vG _)
        ·exact I _ _ _ hs (vG _)
       ·exact hs
      have rs:∀ (ns:List ByteArray) (s:ByteArray × ByteArray × Tm),s.2.2.G->(rns (Tm.sub f) k l.length b.fv x ns s).2.2.G:=by
       intro ns
       induction ns with
       | nil=>exact λs hs=>hs
       | cons o os ab=>exact λs hs=>ab _ (r1 o s hs)
      exact rs _ _ O
theorem zPG:∀ (f:Nat) (t:Tm) (x:ByteArray) (b:Tm),t.V->b.V->(t.sub f x b).V
 | 0,t,x,b,h,_=>by simp only [Tm.sub];exact h
 | f + 1,.mk k nm ot n ty re l,x,b,h,Y=>by
   have ih:=zPG f
   obtain ⟨h1,J⟩:=h
   have J:=uh.1 J
   simp only [Tm.sub]
   split
   ·split
    ·exact Y
    ·exact ⟨h1,uh.2 J⟩
   ·rename_i hk
    have I:∀ l':List Tm,k=1->l'=[]:=λ_ hc=>absurd hc hk
    split
    ·refine ⟨I _,uh.2 λy O=>?_⟩
     obtain ⟨z,hz,rfl⟩:=oQ.1 O
     exact ih z x b (J z hz) Y
    ·rename_i aa
     obtain ⟨g1,g2⟩:=xT aa
     have U:=J _ (oB (zN g1))
     have key:∀ v:Tm,v.V->zOw ((l.map λt=>Tm.sub f t x b).set (ze k l.length).toNat v):=λv hv=>uh.2 λy O=>by
      rcases nF O with O | rfl
      ·obtain ⟨z,hz,rfl⟩:=oQ.1 O
       exact ih z x b (J z hz) Y
      ·exact hv
     split
     ·exact ⟨I _,key _ U⟩
     ·exact ⟨I _,key _ (ih _ x b ((sw (yr f) _ _ _ _ _ _).v U) Y)⟩
theorem zAZ {k:Int} {nm ot:ByteArray} {n:Nat} {z:ByteArray}:z∈bdN k nm ot n↔(k=6/\n=1\/k=8/\n=2\/k=9/\n=1)/\z=nm\/(k=9/\n=1)/\z=ot:=by
 unfold bdN
 by_cases I:k=6/\n=1
 ·rw [if_pos I];simp [I.1,I.2]
 ·rw [if_neg I]
  by_cases J:k=8/\n=2
  ·rw [if_pos J];simp [J.1,J.2]
  ·rw [if_neg J]
   by_cases O:k=9/\n=1
   ·rw [if_pos O];simp [O.1,O.2]
   ·rw [if_neg O];simp [I,J,O]
/-- what is free in what is put together -/
def FvS (f:Nat):Prop:=∀ (t:Tm) (x:ByteArray) (b:Tm),t.dp<=f->∀ s∈(t.sub f x b).fv,(s∈t.fv/\s≠x)\/(s∈b.fv/\x∈t.fv)
theorem zMP {f:Nat} (hS:FvS f) {k:Int} {n:Nat} {fb:List ByteArray} {x old:ByteArray} {s:ByteArray × ByteArray × Tm} (hd:s.2.2.dp<=f) (hk:k=6/\n=1\/k=8/\n=2\/k=9/\n=1) (J:old=s.1\/(k=9/\n=1)/\old=s.2.1) :
  ∀ z∈(rn1 (Tm.sub f) k n fb x old s).2.2.fv,z∉bdN k (rn1 (Tm.sub f) k n fb x old s).1 (rn1 (Tm.sub f) k n fb x old s).2.1 n->z∈s.2.2.fv/\z∉bdN k s.1 s.2.1 n:=by
 intro z
 unfold rn1
 by_cases h1:old∈fb
 ·rw [if_pos h1]
  by_cases U:s.1=old
  ·rw [if_pos U]
   simp only
   intro O I
   rcases hS _ _ _ hd z O with ⟨a1,Y⟩ | ⟨a1,_⟩
   ·refine ⟨a1,λhc=>?_⟩
    rcases zAZ.1 hc with ⟨_,c1⟩ | ⟨c0,c1⟩
    ·exact Y (c1.trans U)
    ·exact I (zAZ.2 (.inr ⟨c0,c1⟩))
   ·rw [zCy,oY] at a1
    exact absurd (zAZ.2 (.inl ⟨hk,a1⟩)) I
  ·rw [if_neg U]
   simp only
   intro O I
   rcases J with J | ⟨h9,J⟩
   ·exact absurd J.symm U
   ·rcases hS _ _ _ hd z O with ⟨a1,Y⟩ | ⟨a1,_⟩
    ·refine ⟨a1,λhc=>?_⟩
     rcases zAZ.1 hc with ⟨c0,c1⟩ | ⟨_,c1⟩
     ·exact I (zAZ.2 (.inl ⟨c0,c1⟩))
     ·exact Y (c1.trans J.symm)
    ·rw [zCy,oY] at a1
     exact absurd (zAZ.2 (.inr ⟨h9,a1⟩)) I
 ·rw [if_neg h1]
  exact λO I=>⟨O,I⟩
theorem zPh {S:Tm->ByteArray->Tm->Tm} {k:Int} {n:Nat} {fb:List ByteArray} {x:ByteArray} {s:ByteArray × ByteArray × Tm}:(rn1 S k n fb x s.1 s).2.1=s.2.1:=by
 unfold rn1
 split
 ·rw [if_pos rfl]
 ·rfl
theorem zPy {f:Nat} (hS:FvS f) {k:Int} {n:Nat} {fb:List ByteArray} {x nm ot:ByteArray} {p:Tm} (hd:p.dp<=f) (J:k=6/\n=1\/k=8/\n=2\/k=9/\n=1) :
  ∀ z∈(rns (Tm.sub f) k n fb x (bdN k nm ot n) (nm,ot,p)).2.2.fv,z∉bdN k (rns (Tm.sub f) k n fb x (bdN k nm ot n) (nm,ot,p)).1 (rns (Tm.sub f) k n fb x (bdN k nm ot n) (nm,ot,p)).2.1 n->z∈p.fv/\z∉bdN k nm ot n:=by
 have one:=zMP hS (fb:=fb) (x:=x) (old:=nm) (s:=(nm,ot,p)) hd J (.inl rfl)
 by_cases I:k=9/\n=1
 ·have e:bdN k nm ot n=[nm,ot]:=by rw [I.1,I.2];rfl
  intro z
  rw [e]
  simp only [rns]
  have O:(rn1 (Tm.sub f) k n fb x nm (nm,ot,p)).2.2.dp<=f:=oN (qP (yr f) k n fb x nm (nm,ot,p)).d hd
  have U:=zMP hS (fb:=fb) (x:=x) (old:=ot) (s:=rn1 (Tm.sub f) k n fb x nm (nm,ot,p)) O J (.inr ⟨I,(zPh (s:=(nm,ot,p))).symm⟩)
  intro Y hn
  obtain ⟨a1,a2⟩:=U z Y hn
  have:=one z a1 a2
  rwa [e] at this
 ·have e:bdN k nm ot n=[nm]:=by
   unfold bdN
   by_cases h6:k=6/\n=1
   ·rw [if_pos h6]
   ·rw [if_neg h6,if_pos (by rcases J with h | h | h;exact absurd h h6;exact h;exact absurd h I)]
  intro z
  rw [e]
  simp only [rns]
  intro Y hn
  have:=one z Y hn
  rwa [e] at this
theorem zLS {k:Int} {n:Nat} (h:¬ze k n<0):k=6/\n=1\/k=8/\n=2\/k=9/\n=1:=by
 rcases xw k n with J | ⟨J,I,h3 | h3⟩ | ⟨J,I,h3⟩
 ·omega
 ·exact .inl ⟨h3,I⟩
 ·exact .inr (.inr ⟨h3,I⟩)
 ·exact .inr (.inl ⟨h3,I⟩)
theorem zFU {k:Int} (I:k≠1) {nm ot:ByteArray} {n:Int} {ty re:Ty} {l:List Tm} {j:Nat} {p:Tm} {s:ByteArray} (J:l[j]?=some p) (hs:s∈fvI (ze k l.length) (bdN k nm ot l.length) j p):s∈(Tm.mk k nm ot n ty re l).fv:=
 Tm.fv_mem.2 (.inr ⟨I,j,p,J,hs⟩)
theorem sZ {at_:Int} {ns:List ByteArray} {i:Nat} {x:Tm} (h:(i:Int)≠at_):fvI at_ ns i x=x.fv:=if_neg h
theorem zHC {at_:Int} {ns:List ByteArray} {i:Nat} {x:Tm} (h:(i:Int)=at_):fvI at_ ns i x=zAd ns x.fv:=if_pos h
theorem zIy:∀ f,FvS f
 | 0=>λt x b hd=>absurd (Tm.dp_pos t) (by omega)
 | f + 1 => λt x b hd s=>by
   have ih:=zIy f
   cases t with
   | mk k nm ot n ty re l=>
   simp only [Tm.dp] at hd
   have hp:∀ y∈l,y.dp<=f:=λy I=>oN (vh I) (by omega)
   simp only [Tm.sub]
   split
   ·rename_i J
    split
    ·rename_i hn
     intro hs
     exact .inr ⟨hs,by simp [Tm.fv,J,hn]⟩
    ·rename_i hn
     intro hs
     simp only [Tm.fv,if_pos J,oY] at hs ⊢
     exact .inl ⟨hs,λhc=>hn (hs ▸ hc)⟩
   ·rename_i J
    split
    ·rename_i hb
     intro hs
     rcases Tm.fv_mem.1 hs with ⟨h,_⟩ | ⟨_,j,y,O,I⟩
     ·exact absurd h J
     ·rw [oV,sZ (by omega)] at I
      rw [oE] at O
      obtain ⟨z,hz,rfl⟩:=lC.1 O
      have hm:=oB hz
      rcases ih z x b (hp z hm) s I with ⟨a1,a2⟩ | ⟨a1,a2⟩
      ·exact .inl ⟨zFU J hz (by rw [sZ (by omega)];exact a1),a2⟩
      ·exact .inr ⟨a1,zFU J hz (by rw [sZ (by omega)];exact a2)⟩
    ·rename_i hb
     obtain ⟨g1,g2⟩:=xT hb
     have U:=zN g1
     have ah:=zLS hb
     -- a part that is not under the names
     have aa:∀ (v:Tm) (j:Nat) (y:Tm),j≠(ze k l.length).toNat->((l.map λt=>Tm.sub f t x b).set (ze k l.length).toNat v)[j]?=some y->s∈y.fv->(s∈(Tm.mk k nm ot n ty re l).fv/\s≠x)\/(s∈b.fv/\x∈(Tm.mk k nm ot n ty re l).fv):=by
      intro v j y ak O I
      rw [ow (by omega),oE] at O
      obtain ⟨z,hz,rfl⟩:=lC.1 O
      have hm:=oB hz
      rcases ih z x b (hp z hm) s I with ⟨a1,a2⟩ | ⟨a1,a2⟩
      ·exact .inl ⟨zFU J hz (by rw [sZ (by omega)];exact a1),a2⟩
      ·exact .inr ⟨a1,zFU J hz (by rw [sZ (by omega)];exact a2)⟩
     split
     ·rename_i hx
      intro hs
      rcases Tm.fv_mem.1 hs with ⟨h,_⟩ | ⟨_,j,y,O,I⟩
      ·exact absurd h J
      ·rw [nP,oV] at I
       by_cases Y:j=(ze k l.length).toNat
       ·subst Y
        rw [nC (by simpa using g1)] at O
        cases O
        refine .inl ⟨zFU J U I,?_⟩
        rw [zHC g2,xf] at I
        rintro rfl
        rcases hx with hx | hx
        ·exact I.2 hx
        ·exact hx I.1
       ·rw [sZ (by omega)] at I
        exact aa _ j y Y O I
     ·rename_i hx
      have ai:x∉bdN k nm ot l.length:=λh=>hx (.inl h)
      have ab:x∈(l.getD (ze k l.length).toNat tm0).fv:=mE.1 λh=>hx (.inr h)
      generalize l.getD (ze k l.length).toNat tm0=p at U ab
      have ac:=hp p (oB U)
      have hR:=zPy ih (fb:=b.fv) (x:=x) (nm:=nm) (ot:=ot) ac ah
      have ae:=sw (yr f) k l.length b.fv x (bdN k nm ot l.length) (nm,ot,p)
      generalize rns (Tm.sub f) k l.length b.fv x (bdN k nm ot l.length) (nm,ot,p)=T at hR ae
      have aj:T.2.2.dp<=f:=oN ae.d ac
      intro hs
      rcases Tm.fv_mem.1 hs with ⟨h,_⟩ | ⟨_,j,y,O,I⟩
      ·exact absurd h J
      ·rw [nP,oV] at I
       by_cases Y:j=(ze k l.length).toNat
       ·subst Y
        rw [nC (by simpa using g1)] at O
        cases O
        rw [zHC g2,xf] at I
        rcases ih T.2.2 x b aj s I.1 with ⟨a1,a2⟩ | ⟨a1,_⟩
        ·obtain ⟨c1,c2⟩:=hR s a1 I.2
         exact .inl ⟨zFU J U (by rw [zHC g2];exact xf.2 ⟨c1,c2⟩),a2⟩
        ·exact .inr ⟨a1,zFU J U (by rw [zHC g2];exact xf.2 ⟨ab,ai⟩)⟩
       ·rw [sZ (by omega)] at I
        exact aa _ j y Y O I
theorem zPY {f:Nat} {t:Tm} {x y:ByteArray} (hd:t.dp<=f):(t.sub f x (vL y)).fv.length<=t.fv.length:=by
 by_cases I:x∈t.fv
 ·have J:=zFp (Tm.fv_nodup (t.sub f x (vL y))) (m:=y::t.fv.filter λz=>decide (z≠x)) λs hs=>by
   rcases zIy f t x (vL y) hd s hs with ⟨a1,O⟩ | ⟨a1,_⟩
   ·exact nZ _ (ny.2 ⟨a1,by simp [O]⟩)
   ·rw [zCy,oY] at a1
    rw [a1];exact mA
  have U:=ml (p:=λz=>decide (z≠x)).2 ⟨x,I,by simp⟩
  simp only [oO] at J
  omega
 ·rw [zKl f t x _ I];exact oD _
theorem zQI {f:Nat} {t:Tm} {x:ByteArray} {b:Tm} (hd:t.dp<=f):(t.sub f x b).fv.length<=t.fv.length+b.fv.length:=by
 have I:=zFp (Tm.fv_nodup (t.sub f x b)) (m:=t.fv++b.fv) λs hs=>by
  rcases zIy f t x b hd s hs with ⟨a1,_⟩ | ⟨a1,_⟩
  ·exact o0 _ a1
  ·exact nT _ a1
 simpa using I
/-- no greater, no deeper, no wider -/
structure LeW (t' t:Tm):Prop where
 le:LeT t' t
 w:t'.wd<=t.wd
 l:t'.fv.length<=t.fv.length
theorem LeW.rfl {t:Tm}:LeW t t:=⟨LeT.rfl,oD _,oD _⟩
theorem LeW.trans {a b c:Tm} (h:LeW a b) (I:LeW b c):LeW a c:=⟨h.le.trans I.le,oN h.w I.w,oN h.l I.l⟩
theorem zLW {m n:Nat}:∀ {l' l:List Tm},l'.length=l.length->(∀ (i:Nat) (t' t:Tm),l'[i]?=some t'->l[i]?=some t->t'.wd<=t.wd+n/\t'.fv.length<=t.fv.length+m)->pL l'<=pL l+n/\rl l'<=rl l+l.length*m
 | [],[],_,_=>⟨by simp [pL],by simp [rl]⟩
 | [],_::_,h,_=>by simp at h
 | _::_,[],h,_=>by simp at h
 | t'::I,t::O,h,J=>by
   obtain ⟨h1,h2⟩:=zLW (m:=m) (n:=n) (l':=I) (l:=O) (by simpa using h) λi a b U Y=>J (i+1) a b (by simpa using U) (by simpa using Y)
   obtain ⟨h3,h4⟩:=J 0 t' t (by simp) (by simp)
   refine ⟨by simp only [pL];omega,?_⟩
   simp only [rl,oO,o8]
   omega
theorem zQM {f:Nat} (I:∀ t x y,t.dp<=f->LeW (t.sub f x (vL y)) t) (k:Int) (n:Nat) (fb:List ByteArray) (x old:ByteArray) (s:ByteArray × ByteArray × Tm) (hd:s.2.2.dp<=f):LeW (rn1 (Tm.sub f) k n fb x old s).2.2 s.2.2:=by
 unfold rn1
 split
 ·split
  ·exact I _ _ _ hd
  ·exact I _ _ _ hd
 ·exact LeW.rfl
theorem zIg {f:Nat} (I:∀ t x y,t.dp<=f->LeW (t.sub f x (vL y)) t) (k:Int) (n:Nat) (fb:List ByteArray) (x:ByteArray):∀ (l:List ByteArray) (s:ByteArray × ByteArray × Tm),s.2.2.dp<=f->LeW (rns (Tm.sub f) k n fb x l s).2.2 s.2.2
 | [],s,_=>LeW.rfl
 | old::l,s,hd=>by
   have J:=zQM I k n fb x old s hd
   exact (zIg I k n fb x l _ (oN J.le.d hd)).trans J
theorem zQK {P:Tm->Prop} {f:Nat} (I:∀ t x y,P t->P (t.sub f x (vL y))) (k:Int) (n:Nat) (fb:List ByteArray) (x:ByteArray):∀ (l:List ByteArray) (s:ByteArray × ByteArray × Tm),P s.2.2->P (rns (Tm.sub f) k n fb x l s).2.2
 | [],s,h=>h
 | old::l,s,h=>by
   refine zQK I k n fb x l _ ?_
   unfold rn1
   split
   ·split
    ·exact I _ _ _ h
    ·exact I _ _ _ h
   ·exact h
/-- at most so many are added, anywhere -/
theorem zLc {P:Tm->Prop} {f:Nat} (hP:∀ t x y,P t->P (t.sub f x (vL y))) {x:ByteArray} {b:Tm} {m n:Nat} (ab:∀ t:Tm,t.dp<=f->P t->(t.sub f x b).wd<=t.wd+n/\(t.sub f x b).fv.length<=t.fv.length+m) (hv:∀ t x y,t.dp<=f->LeW (t.sub f x (vL y)) t)
  {k:Int} {nm ot:ByteArray} {n0:Int} {ty re:Ty} {l:List Tm} (hk:k≠1) (hd:∀ y∈l,y.dp<=f) (hp:∀ y∈l,P y):((Tm.mk k nm ot n0 ty re l).sub (f+1) x b).wd<=max (rl l+l.length*m) (pL l+n):=by
 have fin:∀ (ac ae:ByteArray) (l':List Tm),l'.length=l.length->(∀ (i:Nat) (t' t:Tm),l'[i]?=some t'->l[i]?=some t->t'.wd<=t.wd+n/\t'.fv.length<=t.fv.length+m)->(Tm.mk k ac ae n0 ty re l').wd<=max (rl l+l.length*m) (pL l+n):=λac ae l' Y O=>by
  obtain ⟨a1,a2⟩:=zLW Y O
  simp only [Tm.wd,if_neg hk]
  omega
 have at_:∀ {i:Nat} {t:Tm},l[i]?=some t->(t.sub f x b).wd<=t.wd+n/\(t.sub f x b).fv.length<=t.fv.length+m:=λh=>ab _ (hd _ (oB h)) (hp _ (oB h))
 simp only [Tm.sub]
 rw [if_neg hk]
 split
 ·refine fin _ _ _ (by simp) λi t' t I J=>?_
  rw [oE,J] at I
  cases I
  exact at_ J
 ·rename_i hb
  obtain ⟨g1,g2⟩:=xT hb
  have U:=zN g1
  split
  ·refine fin _ _ _ (by simp) λi t' t I J=>?_
   rcases zAr I J with ⟨Y,O⟩ | ⟨Y,O⟩
   ·rw [Y,U] at J
    rw [O,<-oW J]
    exact ⟨by omega,by omega⟩
   ·rw [O];exact at_ J
  ·have ah:=hd _ (oB U)
   have aa:=zIg hv k l.length b.fv x (bdN k nm ot l.length) (nm,ot,l.getD (ze k l.length).toNat tm0) ah
   refine fin _ _ _ (by simp) λi t' t I J=>?_
   rcases zAr I J with ⟨Y,O⟩ | ⟨Y,O⟩
   ·rw [Y,U] at J
    rw [O,<-oW J]
    obtain ⟨c1,c2⟩:=ab _ (oN aa.le.d ah) (zQK hP _ _ _ _ _ _ (hp _ (oB U)))
    have w1:(rns (Tm.sub f) k l.length b.fv x (bdN k nm ot l.length) (nm,ot,l.getD (ze k l.length).toNat tm0)).2.2.wd<=(l.getD (ze k l.length).toNat tm0).wd:=aa.w
    have w2:(rns (Tm.sub f) k l.length b.fv x (bdN k nm ot l.length) (nm,ot,l.getD (ze k l.length).toNat tm0)).2.2.fv.length<=(l.getD (ze k l.length).toNat tm0).fv.length:=aa.l
    exact ⟨by omega,by omega⟩
   ·rw [O];exact at_ J
theorem qV:∀ (f:Nat) (t:Tm) (x y:ByteArray),t.dp<=f->LeW (t.sub f x (vL y)) t
 | 0,t,x,y,h=>absurd (Tm.dp_pos t) (by omega)
 | f+1,.mk k nm ot n ty re l,x,y,h=>by
   refine ⟨yr _ _ _ _,?_,zPY h⟩
   simp only [Tm.dp] at h
   have J:uq l<=f:=by omega
   by_cases I:k=1
   ·simp only [Tm.sub,if_pos I]
    split
    ·simp [vL,Tm.wd,I]
    ·exact oD _
   ·have:=zLc (P:=λ_=>True) (λ_ _ _ _=>trivial) (m:=0) (n:=0) (λt O _=>⟨(qV f t x y O).w,(qV f t x y O).l⟩) (qV f) (nm:=nm) (ot:=ot) (n0:=n) (ty:=ty) (re:=re) I (λz U=>oN (vh U) J) λ_ _=>trivial
    simp only [Tm.wd,if_neg I]
    omega
mutual
/-- at most three parts -/
def Tm.A3:Tm->Prop
 | .mk _ _ _ _ _ _ l=>l.length<=3/\zHK l
def zHK:List Tm->Prop
 | []=>True
 | t::I=>t.A3/\zHK I
end
theorem uB:∀ {l:List Tm},zHK l↔∀ x∈l,x.A3
 | []=>by simp [zHK]
 | t::I=>by simp only [zHK,uB (l:=I),oF,nY]
theorem zOt:∀ (f:Nat) (t:Tm) (x:ByteArray) (b:Tm),t.A3->b.A3->(t.sub f x b).A3
 | 0,t,x,b,h,_=>by simp only [Tm.sub];exact h
 | f + 1,.mk k nm ot n ty re l,x,b,h,Y=>by
   have J:=zOt f
   obtain ⟨h1,I⟩:=h
   have I:=uB.1 I
   have vA:∀ y,(vL y).A3:=λy=>by simp [vL,Tm.A3,zHK]
   simp only [Tm.sub]
   split
   ·split
    ·exact Y
    ·exact ⟨h1,uB.2 I⟩
   ·split
    ·refine ⟨by simpa using h1,uB.2 λy O=>?_⟩
     obtain ⟨z,hz,rfl⟩:=oQ.1 O
     exact J z x b (I z hz) Y
    ·rename_i aa
     obtain ⟨g1,g2⟩:=xT aa
     have U:=I _ (oB (zN g1))
     have key:∀ v:Tm,v.A3->zHK ((l.map λt=>Tm.sub f t x b).set (ze k l.length).toNat v):=λv hv=>uB.2 λy O=>by
      rcases nF O with O | rfl
      ·obtain ⟨z,hz,rfl⟩:=oQ.1 O
       exact J z x b (I z hz) Y
      ·exact hv
     split
     ·exact ⟨by simpa using h1,key _ U⟩
     ·refine ⟨by simpa using h1,key _ (J _ x b ?_ Y)⟩
      have r1:∀ (old:ByteArray) (s:ByteArray × ByteArray × Tm),s.2.2.A3->(rn1 (Tm.sub f) k l.length b.fv x old s).2.2.A3:=λold s hs=>by
       unfold rn1
       split
       ·split
        ·exact J _ _ _ hs (vA _)
        ·exact J _ _ _ hs (vA _)
       ·exact hs
      have rs:∀ (ns:List ByteArray) (s:ByteArray × ByteArray × Tm),s.2.2.A3->(rns (Tm.sub f) k l.length b.fv x ns s).2.2.A3:=by
       intro ns
       induction ns with
       | nil=>exact λs hs=>hs
       | cons o os ab=>exact λs hs=>ab _ (r1 o s hs)
      exact rs _ _ U
/-- each name may be joined by those of what is put in -/
theorem zO7:∀ (f:Nat) (t:Tm) (x:ByteArray) (b:Tm),t.dp<=f->t.A3->(t.sub f x b).wd<=t.wd+(3*b.fv.length+b.wd)
 | 0,t,x,b,h,_=>absurd (Tm.dp_pos t) (by omega)
 | f+1,.mk k nm ot n ty re l,x,b,h,ha=>by
   obtain ⟨h1,J⟩:=ha
   have J:=uB.1 J
   simp only [Tm.dp] at h
   have O:uq l<=f:=by omega
   by_cases U:k=1
   ·simp only [Tm.sub,if_pos U]
    split
    ·omega
    ·omega
   ·have:=zLc (P:=Tm.A3) (λt x y I=>zOt f t x _ I (by simp [vL,Tm.A3,zHK])) (m:=b.fv.length) (n:=3*b.fv.length+b.wd) (λt I Y=>⟨zO7 f t x b I Y,zQI I⟩) (qV f) (nm:=nm) (ot:=ot) (n0:=n) (ty:=ty) (re:=re) U (λz hz=>oN (vh hz) O) J
    have h3:l.length*b.fv.length<=3*b.fv.length:=oe _ h1
    simp only [Tm.wd,if_neg U]
    omega
/-- not too great to be copied, its free names to be listed -/
structure Tm.Z (t:Tm):Prop where
 g:t.G
 c:t.wd<=2199023255552
 v:t.V
theorem Tm.Z.mem {k:Int} {nm ot:ByteArray} {n:Int} {ty re:Ty} {l:List Tm} (h:(Tm.mk k nm ot n ty re l).Z):∀ y∈l,y.Z:=λy I=>by
 have hc:=h.c
 have:=zAc I
 simp only [Tm.wd] at hc
 split at hc
 ·rename_i J
  rw [h.v.1 J] at I
  simp at I
 ·exact ⟨yK h.g.2.2.2 I,by omega,uh.1 h.v.2 y I⟩
theorem LeW.z {t' t:Tm} (h:LeW t' t) (I:t.Z):t'.Z:=⟨h.le.g I.g,oN h.w I.c,h.le.v I.v⟩
theorem zRn (s:ByteArray):(vL s).Z:=⟨by simp [vL,Tm.G,zJb,Ty.cnt,zG],by simp only [vL,Tm.wd,mV];omega,λ_=>rfl,trivial⟩
theorem zHA:∀ {l:List D} {j:Nat} {x:D} {b:Nat},b∈zF (l.set j x)->b∈zF l\/b∈x.foot
 | [],j,x,b,h=>by simp [zF] at h
 | a::l,0,x,b,h=>by
   simp only [mO,zF,oJ] at h ⊢
   rcases h with h | h
   ·exact .inr h
   ·exact .inl (.inr h)
 | a::l,j+1,x,b,h=>by
   simp only [me,zF,oJ] at h ⊢
   rcases h with h | h
   ·exact .inl (.inl h)
   ·rcases zHA h with h | h
    ·exact .inl (.inr h)
    ·exact .inr h
theorem zJZ {N N1 N2 N3:Nat} {x:D} (I:Own N2 N3 x) (h1:N<=N2) (h2:N1<=N2) (h3:N2<=N3):∀ {l:List D} {j:Nat},OwnL N N1 l->OwnL N N3 (l.set j x)
 | [],j,h=>by simp only [List.set_nil];exact h.mono (oD _) (by omega)
 | a::l,0,h=>by
   have J:=h.nd
   simp only [zF,nQ] at J
   simp only [mO]
   refine ⟨?_,⟨I.fl,h.fl.2⟩,λb hb=>?_,λb hb=>?_⟩
   ·simp only [zF,nQ]
    refine ⟨I.nd,J.2.1,λu U v hv O=>?_⟩
    have:=I.lo u U
    have:=h.hi v (by simp only [zF,oJ];exact .inr hv)
    omega
   ·simp only [zF,oJ] at hb
    rcases hb with hb | hb
    ·have:=I.lo b hb;omega
    ·exact h.lo b (by simp only [zF,oJ];exact .inr hb)
   ·simp only [zF,oJ] at hb
    rcases hb with hb | hb
    ·exact I.hi b hb
    ·have:=h.hi b (by simp only [zF,oJ];exact .inr hb);omega
 | a :: l,j+1,h=>by
   have J:=h.nd
   simp only [zF,nQ] at J
   have hl:OwnL N N1 l:=⟨J.2.1,h.fl.2,λb hb=>h.lo b (by simp only [zF,oJ];exact .inr hb),λb hb=>h.hi b (by simp only [zF,oJ];exact .inr hb)⟩
   have Y:=zJZ I h1 h2 h3 (l:=l) (j:=j) hl
   simp only [me]
   refine ⟨?_,⟨h.fl.1,Y.fl⟩,λb hb=>?_,λb hb=>?_⟩
   ·simp only [zF,nQ]
    refine ⟨J.1,Y.nd,λu U v hv O=>?_⟩
    rcases zHA hv with hv | hv
    ·exact J.2.2 u U v hv O
    ·have:=I.lo v hv
     have:=h.hi u (by simp only [zF,oJ];exact .inl U)
     omega
   ·simp only [zF,oJ] at hb
    rcases hb with hb | hb
    ·exact h.lo b (by simp only [zF,oJ];exact .inl hb)
    ·exact Y.lo b hb
   ·simp only [zF,oJ] at hb
    rcases hb with hb | hb
    ·have:=h.hi b (by simp only [zF,oJ];exact .inl hb);omega
    ·exact Y.hi b hb
/-- behind four cells -/
theorem zHG {N N1 N2 N3:Nat} {x I J O U:D} {es:List D} {j:Nat} (h:OwnL N N1 ([I,J,O,U]++es)) (Y:Own N2 N3 x) (h1:N<=N2) (h2:N1<=N2) (h3:N2<=N3):OwnL N N3 ([I,J,O,U]++es.set j x):=
 zJZ Y h1 h2 h3 (l:=[I,J,O,U]++es) (j:=j+4) h
theorem zAP:∀ {u v:List D},xa (u++v)->xa u/\xa v
 | [],v,h=>⟨trivial,h⟩
 | x::u,v,h=>⟨⟨h.1,(zAP h.2).1⟩,(zAP h.2).2⟩
theorem zNU {N0 N1 N3:Nat} {hd es ds:List D} {a:Option Addr} {z c:Nat} (h:OwnL N0 N1 (hd++es)) (J:Fresh N0 N3 a (.ag es::(hd++ds))) (hN:N1<=N3):OwnL N0 N3 (hd++[.sl a z es c]):=by
 obtain ⟨Y,aa⟩:=zAP h.fl
 have U:=h.nd
 rw [zK,nQ] at U
 have e:zF (hd++[D.sl a z es c])=zF hd++(D.sl a z es c).foot:=by simp only [zK,zF,nO]
 have hE:∀ ad,a=some ad->ad.block∉zF es:=λad h=>J.ap ad h (.ag es) (by simp)
 have hH:∀ ad,a=some ad->ad.block∉zF hd:=λad h hc=>by
  obtain ⟨d,ab,hb⟩:=zP.1 hc
  exact J.ap ad h d (by simp [ab]) hb
 refine ⟨?_,xQ Y ⟨⟨λad h=>J.off ad h,aa⟩,trivial⟩,λb hb=>?_,λb hb=>?_⟩
 ·rw [e,nQ]
  refine ⟨U.1,zIn U.2.1 hE,λx hx y hy ac=>?_⟩
  subst ac
  rcases v7 x hy with I | ⟨ad,I,O⟩
  ·exact U.2.2 x hx x I rfl
  ·subst O;exact hH ad I hx
 ·rw [e] at hb
  rcases oJ.1 hb with hb | hb
  ·exact h.lo b (by rw [zK];exact o0 _ hb)
  ·rcases v7 b hb with I | ⟨ad,I,O⟩
   ·exact h.lo b (by rw [zK];exact nT _ I)
   ·subst O;exact J.lo ad I
 ·rw [e] at hb
  rcases oJ.1 hb with hb | hb
  ·have:=h.hi b (by rw [zK];exact o0 _ hb);omega
  ·rcases v7 b hb with I | ⟨ad,I,O⟩
   ·have:=h.hi b (by rw [zK];exact nT _ I);omega
   ·subst O;exact J.hi ad I
theorem zFR {N N1 N2:Nat} {v0 v1 v2 Y:Value} {I J O U:D} {es:List D} {a:Option Addr} {c:Nat} (h:OwnL N N1 ([I,J,O,U]++es)) (hf:Fresh N N2 a [.ag es,I,J,O,U]) (hN:N1<=N2):Own N N2 (.ag [.lit v0,.lit v1,.lit v2,.lit Y,I,J,O,U,.sl a 9 es c]):=
 zEe (yv (yv (yv (yv (zNU (hd:=[I,J,O,U]) (ds:=[]) h hf hN)))))
theorem zBt {α:Type} {R:α->D->Prop}:∀ {l:List α} {es:List D} {t:α} {d:D} {j:Nat},All2 R l es->R t d->All2 R (l.set j t) (es.set j d)
 | [],es,t,d,j,h,_=>by cases h;exact rfl
 | x::l,es,t,d,0,h,I=>by
   obtain ⟨y,ys,rfl,O,J⟩:=h
   exact ⟨_,_,rfl,I,J⟩
 | x::l,es,t,d,j+1,h,I=>by
   obtain ⟨y,ys,rfl,O,J⟩:=h
   exact ⟨_,_,rfl,O,zBt J I⟩
theorem zQA {α:Type} {T l:List α} {i:Nat} {t:α} (O:T.length=l.length) (hi:i<l.length) (I:T[i]?=some t):(T.take i++l.drop i).set i t=T.take (i+1)++l.drop (i+1):=by
 have J:(T.take i).length=i:=by rw [o5];omega
 rw [List.set_append_right _ _ (by omega),J,Nat.sub_self,mt hi,mO,vH I,nw]
 rfl
theorem zNM {α:Type} {T l:List α} {i:Nat} {t:α} (hi:i<l.length) (I:l[i]?=some t) (J:T[i]?=some t):T.take i++l.drop i=T.take (i+1)++l.drop (i+1):=by
 rw [mt hi,vH J,nw]
 rw [oH hi] at I
 rw [oW I]
 rfl
theorem v6 {l:List Tm} {es:List D} (h:All2 Tm.Is l es) {j:Nat} (I:j<l.length):(l.getD j tm0).Is (es.getD j default):=by
 have:=h.get (zN I)
 exact this
def zRB (f:FuncId) (args:List PV) (t:Tm):Prop:=∀ (N:Nat) (Q:QT [.ag 9]),(∀ d N',N<=N'->t.Is d->Own N N' d->Q d N')->ACalls prog f [.ag 9] args N Q
/-- puts b for x, at terms of some depth -/
def zSH (F:FuncId) (f:Nat):Prop:=∀ (e:Tm) (d:D) (x:ByteArray) (b:Tm) (I:D),e.Is d->b.Is I->e.dp<=f->e.Z->b.Z->zRB F [.dg 9 d,.str x,.dg 9 I] (e.sub f x b)
theorem zPH {s:ByteArray} (hs:s.size<=4611686018427387904):(vL s).Is (.ag [.j 1,.t s,.t (bytes []),.j 0,.j 0,.sl none 2 [] 0,.j 0,.sl none 2 [] 0,.sl none 9 [] 0]):=
 Tm.is_mk.2 ⟨_,_,_,_,_,_,_,rfl,⟨hs,by decide,Ty.is_mk.2 ⟨_,_,_,rfl,by simp,rfl⟩,Ty.is_mk.2 ⟨_,_,_,rfl,by simp,rfl⟩⟩,by simp,rfl⟩
theorem zKR {l:List ByteArray} (h:l.length<=8796093022208):(fresh l).size<=4611686018427387904:=by
 obtain ⟨k,e,_,I,_,_⟩:=tC l
 rw [e]
 have:=zKP k (by omega)
 omega
theorem zJn (s:ByteArray) (l:List ByteArray):decide (zLO (λx=>decide (x=s)) l 0≥0)=decide (s∈l):=by
 have h:=zCM s l
 rw [mf,mS,mS] at h ⊢
 constructor
 ·intro J;exact mE.1 λI=>by have:=h.2 I;omega
 ·intro J;exact Int.not_lt.1 λI=>h.1 I J
/-- what a node binds, away from some names -/
theorem zL5 {f:Nat} (hS:zSH 101 f) {k n0:Int} {nm ot:ByteArray} {ty re:Ty} {l:List Tm} {d:D} (hd:(Tm.mk k nm ot n0 ty re l).Is d) (hG:(Tm.mk k nm ot n0 ty re l).G) {j:Nat} (a9:ze k l.length=(j:Int))
  {p:Tm} (hp:l.getD j tm0=p) (cp:p.dp<=f) (hc:p.Z) (x:ByteArray) (fb:List ByteArray) (cq:fb.length<=2199023255552) (a:Option Addr) (c:Nat) (N:Nat) {T:ByteArray × ByteArray × Tm} (hT:rns (Tm.sub f) k l.length fb x (bdN k nm ot l.length) (nm,ot,p)=T)
  (Q:QT [.pk,.i,.str,.str,.i,.dc,.dc,.dc,.dc,.row 29 9]) (hQ:zDh (.mk k T.1 T.2.1 n0 ty re (l.set j T.2.2)) N Q) :
  ACalls prog 113 [.pk,.i,.str,.str,.i,.dc,.dc,.dc,.dc,.row 29 9] [.dg 9 d,.j (j:Int),.str x,.sv a 0 (zB fb) c] N Q:=by
 obtain ⟨t0,t1,r0,r1,a8,es,c8,rfl,hh,b9,ba⟩:=Tm.is_mk.1 hd
 have hl:=ba.len
 obtain ⟨g1,_⟩:=xT (k:=k) (n:=l.length) (by omega)
 rw [a9,oK] at g1
 have cr:=zCf k nm ot l.length
 have ct:=zS (bdN k nm ot l.length)
 have cw:=hG.2.2.1
 refine zDX N _ _ x a _ c Q λ_ _ N1 bb=>s5 _ _ hd hG N1 _ ?_
 simp only [zDh] at hQ ⊢
 intro x4 x5 x6 x7 bc c' N2 cx bg ai bh _ _ N3 cy
 refine pW (n:=l.length) (by omega) N3 _ λa1 c1 N4 cz _ _ _=>?_
 have c2:=ai.len
 have al:l.set j p=l:=by
  apply nD
  intro i
  rw [nL]
  split
  ·rename_i hi
   subst hi
   rw [zN g1,hp]
  ·rfl
 refine up (wx (bdN k nm ot l.length)) (by omega) (λi xs=>∀ (s:ByteArray × ByteArray × Tm) (y4 y5 y6 y7:D) (r:List D) (q N':Nat),N<=N'->Tm.Hd s.1 s.2.1 ty re y4 y5 y6 y7->All2 Tm.Is (l.set j s.2.2) r->OwnL N N' ([y4,y5,y6,y7]++r)->LeW s.2.2 p->rns (Tm.sub f) k l.length fb x xs s=T ->
  (i=0->s=(nm,ot,p))->(0<i->∀ o∈xs,o∈fb->s.1≠o) ->
  yJ Q N j x a (zB fb) c a1 (zB (bdN k nm ot l.length)) c1 i 0 (bytes []) (bytes []) 0 0 none [] 0 0 none [] 0 none [] 0 k s.1 s.2.1 n0 y4 y5 y6 y7 r.length q r q N') ?_ ?_ (nm,ot,p) x4 x5 x6 x7 bc c' N4 (by omega) bg (by rw [al];exact ai) (bh.mono bb (by omega)) LeW.rfl hT (λ_=>rfl) (λh=>absurd h (by omega))
 ·intro i bi hi s y4 y5 y6 y7 r q N' bj hH hA hO U hs _ _
  simp only [rns] at hs
  subst hs
  refine tw _ _ _ _ _ _ _ _ _ _ _ _ _ _ _ _ _ _ _ _ _ _ _ _ _ _ _ _ _ _ _ _ _ _ _ _ _ _ _ ?_
  rw [bi]
  exact ⟨⟨rfl,rfl⟩,λN5 aq=>hQ _ _ _ _ _ _ _ (by omega) hH hA (hO.mono (oD _) aq)⟩
 ·intro i old xs I au am s y4 y5 y6 y7 r q N' bj hH hA hO U hs h0 h1
  have c3:=I.b
  have hr:=I.r
  have bm:=hA.len
  simp only [nP] at bm
  simp only [rns] at hs
  refine tw _ _ _ _ _ _ _ _ _ _ _ _ _ _ _ _ _ _ _ _ _ _ _ _ _ _ _ _ _ _ _ _ _ _ _ _ _ _ _ ?_
  rw [I.lt,oK,I.w,hr]
  refine ⟨⟨by omega,by omega⟩,old,rfl,λN5 aq=>yp fb (by omega) a c old N5 _ λN6 c4 _=>?_⟩
  show Br (decide (zLO (λx=>decide (x=old)) fb 0<0)) _ _
  rw [zCM]
  have hold:i=0->s.1=old:=λhi=>by
   subst hi
   have h2:=I.g
   rw [h0 rfl]
   unfold bdN at h2
   (repeat' split at h2)<;>simp at h2<;>exact h2
  have aw:0<i->old∈fb->s.1≠old:=λhi Y=>h1 hi old (by simp) Y
  have aa:∀ s':ByteArray × ByteArray × Tm,rn1 (Tm.sub f) k l.length fb x old s=s'->0<i+1->∀ o∈xs,o∈fb->s'.1≠o:=λs' bp _ o Y bq=>by
   have ax:i=0:=by
    have h3:=oR.1 Y
    obtain ⟨m,hm⟩:=h3
    rw [<-au,nI] at hm
    have:=(oC.1 hm).1
    omega
   have bt:=h0 ax
   subst ax
   have bv:o∈bdN k nm ot l.length:=by rw [<-au] at Y;exact ou Y
   have ab:=hold rfl
   subst bp
   unfold rn1
   by_cases ac:old∈fb
   ·have bw:=ym (fb++(s.2.2.fv++([x]++bdN k s.1 s.2.1 l.length)))
    rw [if_pos ac,if_pos ab]
    intro hc
    refine bw ?_
    simp only at hc
    rw [hc,bt]
    simp [bv]
   ·rw [if_neg ac]
    intro hc
    exact ac (by rw [<-ab,hc];exact bq)
  refine Br.dec (λY=>?_) λY=>?_
  ·have e1:rn1 (Tm.sub f) k l.length fb x old s=s:=by unfold rn1;rw [if_neg Y]
   have J:=aa s e1
   rw [e1] at hs
   exact am _ _ _ _ _ _ _ _ (by omega) hH hA (hO.mono (oD _) (by omega)) U hs (λh=>absurd h (by omega)) J
  ·have Y:old∈fb:=mE.1 Y
   have ae:=v6 hA (j:=j) (by simpa using g1)
   have bz:(l.set j s.2.2).getD j tm0=s.2.2:=by rw [oA,nC (by simpa using g1)];rfl
   rw [bz] at ae
   have ay:=U.z hc
   have c5:=ay.c
   have da:=Tm.fv_wd s.2.2
   have db:=zHk fb s.2.2.fv
   have ca:=zCf k s.1 s.2.1 l.length
   have cc:=zS (bdN k s.1 s.2.1 l.length)
   have cd:=U.le.d
   refine ⟨⟨rfl,rfl⟩,λa5 _ N7 de az=>pW (n:=l.length) (by omega) N7 _ λa6 c6 N8 df b1 _=>⟨uD az b1,λ_=>⟨⟨by omega,by omega,by omega⟩,by omega,λN9 dh=>?_⟩⟩⟩
   rw [oK,nJ]
   refine vI s.2.2 _ ae (by omega) N9 _ λa7 c7 di ce _ _ _ b2 cf=>?_
   refine uz fb s.2.2.fv (by omega) (by omega) a a7 c c7 b2 _ λc8 dj cg _ _=>?_
   rw [tZ,zKU]
   have a2:(sF fb s.2.2.fv++[x]++bdN k s.1 s.2.1 l.length).length<=8796093022208:=by simp only [oI,oO,oX];omega
   have a3:fresh (sF fb s.2.2.fv++[x]++bdN k s.1 s.2.1 l.length)=fresh (fb++(s.2.2.fv++([x]++bdN k s.1 s.2.1 l.length))):=zNV λy=>by simp [zGi,or_assoc]
   refine ⟨⟨rfl,rfl⟩,zBq (by omega),λc9=>⟨⟨rfl,rfl⟩,by unfold zA;rw [oI,zS,zS,oI,oO,oX];omega,λb3=>⟨⟨rfl,rfl⟩,λb4 _ b5 ch _=>?_⟩⟩⟩
   refine zBT _ a2 b4 b3 b5 _ λdk cj _=>⟨⟨by omega,by omega,by omega⟩,by omega,⟨by omega,by omega⟩,old,rfl,λb6 ck=>?_⟩
   have ah:=zKR a2
   rw [a3] at ah ⊢
   have e1:rn1 (Tm.sub f) k l.length fb x old s=(if s.1=old then fresh (fb++(s.2.2.fv++([x]++bdN k s.1 s.2.1 l.length))) else s.1,if s.1=old then s.2.1 else fresh (fb++(s.2.2.fv++([x]++bdN k s.1 s.2.1 l.length))),s.2.2.sub f old (vL (fresh (fb++(s.2.2.fv++([x]++bdN k s.1 s.2.1 l.length)))))):=by
    unfold rn1
    rw [if_pos Y]
    split<;>rfl
   have J:=aa _ e1
   rw [e1] at hs
   generalize fresh (fb++(s.2.2.fv++([x]++bdN k s.1 s.2.1 l.length)))=O at ah hs J ⊢
   refine zA7 b6 O _ λdl cm _ _ b7 cn=>?_
   refine hS s.2.2 _ old (vL O) _ ae (zPH ah) (by omega) ay (zRn _) b7 _ λdx ao co hx b8 _ _=>⟨⟨by omega,by omega,by omega⟩,by omega,?_⟩
   have aj:All2 Tm.Is (l.set j (s.2.2.sub f old (vL O))) (r.set j dx):=by have:=zBt (j:=j) hA hx;rwa [List.set_set] at this
   have ak:OwnL N ao ([y4,y5,y6,y7]++r.set j dx):=zHG hO b8 (by omega) (by omega) (by omega)
   have a4:(r.set j dx).length=r.length:=nP
   refine Br.beq (λhi=>?_) λhi=>?_
   ·have hi:i=0:=by omega
    rw [if_pos (hold hi),if_pos (hold hi)] at hs J
    have:=am (O,s.2.1,s.2.2.sub f old (vL O)) y4 y5 y6 y7 (r.set j dx) q ao (by omega) ⟨ah,hH.ot,hH.ty,hH.re⟩ aj ak ((qV f _ _ _ (by omega)).trans U) hs (λh=>absurd h (by omega)) J
    rwa [a4] at this
   ·have hi:0<i:=by omega
    rw [if_neg (aw hi Y),if_neg (aw hi Y)] at hs J
    have:=am (s.1,O,s.2.2.sub f old (vL O)) y4 y5 y6 y7 (r.set j dx) q ao (by omega) ⟨hH.nm,ah,hH.ty,hH.re⟩ aj ak ((qV f _ _ _ (by omega)).trans U) hs (λh=>absurd h (by omega)) J
    rwa [a4] at this
/-- the parts, each put through, but for one -/
theorem pG {f:Nat} (hS:zSH 101 f) {k n0:Int} {nm ot:ByteArray} {ty re:Ty} {L Lf:List Tm} {x:ByteArray} {b:Tm} {db:D} (hb:b.Is db) (ak:b.Z) (hL:∀ y∈L,y.dp<=f/\y.Z) (ay:L.length<=1073741824) {at_:Int} {O:Bool}
  (al:Lf.length=L.length) (hf:∀ (i:Nat) (y:Tm),L[i]?=some y->Lf[i]?=some (if O=true/\(i:Int)=at_ then y else y.sub f x b)) {y4 y5 y6 y7:D} (hH:Tm.Hd nm ot ty re y4 y5 y6 y7) {r:List D} (hA:All2 Tm.Is L r) (q N N':Nat) (U:N<=N') (hO:OwnL N N' ([y4,y5,y6,y7]++r))
  (Q:QT [.ag 9]) (hQ:∀ d' N'',N<=N''->(Tm.mk k nm ot n0 ty re Lf).Is d'->Own N N'' d'->Q d' N'') :
  zD Q N x at_ O 0 db 0 (bytes []) (bytes []) 0 0 none [] 0 0 none [] 0 none [] 0 k nm ot n0 y4 y5 y6 y7 r.length q r q N':=by
 have az:=hA.len
 refine up hA (by omega) (λi xs=>∀ (r':List D) (q N':Nat),N<=N'->All2 Tm.Is (Lf.take i++L.drop i) r'->r'.length=r.length->OwnL N N' ([y4,y5,y6,y7]++r') ->
  zD Q N x at_ O i db 0 (bytes []) (bytes []) 0 0 none [] 0 0 none [] 0 none [] 0 k nm ot n0 y4 y5 y6 y7 r.length q r' q N') ?_ ?_ r q N' U (by simpa using hA) rfl hO
 ·intro i am hi r' q N' U J ab Y
  rw [oi (by omega),md (by omega),nO] at J
  refine uS _ _ _ _ _ _ _ _ _ _ _ _ _ _ _ _ _ _ _ _ _ _ _ _ _ _ _ _ _ _ _ _ _ _ _ ?_
  rw [am]
  exact ⟨⟨by omega,rfl⟩,⟨by omega,rfl⟩,⟨by omega,rfl⟩,⟨by omega,rfl⟩,λa2 N5 ac hf N6 ae=>hQ _ _ (by omega) (Tm.is_mk.2 ⟨_,_,_,_,_,_,_,rfl,hH,by omega,J⟩) ((zFR Y hf ac).mono (oD _) ae)⟩
 ·intro i y xs I _ ah r' q N' U J ab Y
  have a3:=I.b
  obtain ⟨ao,aq⟩:=hL y I.m
  have ai:i<L.length:=(oC.1 I.g).1
  have aa:=hf i y I.g
  have au:y.Is (r'.getD i default):=by
   refine J.get ?_
   rw [oS (by rw [o5];omega),o5,show i - min i Lf.length=0 by omega,nI]
   exact I.g
  have put:(if O=true/\(i:Int)=at_ then y else y.sub f x b)=y.sub f x b->∀ N5,N'<=N5->ACalls prog 101 [.ag 9] [.dg 9 (List.getD r' i default),.str x,.dg 9 db] N5 (λaj N6=>N5<=N6->Bel N6 aj->((0:Int)<=(i:Int)/\(i:Int)<(r.length:Int)/\i<r'.length)/\i<r'.length /\
    zD Q N x at_ O ((i+1:Nat):Int) db 0 (bytes []) (bytes []) 0 0 none [] 0 0 none [] 0 none [] 0 k nm ot n0 y4 y5 y6 y7 r.length q (List.set r' i aj) q N6):=λe N5 ac=>
   hS y _ x b db au hb ao aq ak N5 _ λdx N6 ae hx aw _ _=>⟨⟨by omega,by omega,by omega⟩,by omega,by
    rw [e] at aa
    have h2:=zBt (j:=i) J hx
    rw [zQA al ai aa] at h2
    exact ah (r'.set i dx) q N6 (by omega) h2 (by simpa using ab) (zHG Y aw (by omega) (by omega) (by omega))⟩
  refine uS _ _ _ _ _ _ _ _ _ _ _ _ _ _ _ _ _ _ _ _ _ _ _ _ _ _ _ _ _ _ _ _ _ _ _ ?_
  rw [I.lt,oK,I.w,nJ]
  refine Br.bne (λax=>⟨⟨by omega,by omega,by omega⟩,by omega,put (if_neg λh=>ax h.2)⟩) λheq=>?_
  refine Br.not (λhh=>⟨⟨by omega,by omega,by omega⟩,by omega,put (if_neg λh=>by rw [hh] at h;exact absurd h.1 (by decide))⟩) λhh=>?_
  rw [if_pos ⟨hh,heq⟩] at aa
  rw [zNM ai I.g aa] at J
  exact ah r' q N' U J ab Y
theorem zJg {g:Tm->Tm} {l:List Tm} {i:Nat} {y:Tm} (h:l[i]?=some y):(l.map g)[i]?=some (g y):=by rw [oE,h];rfl
theorem zD7:∀ f,zSH 101 f
 | 0=>λe d x b db _ _ ae=>absurd (Tm.dp_pos e) (by omega)
 | f + 1=>λe d x b db he hb ae hc U N Q J=>by
   have ih:=zD7 f
   have hG:=hc.g
   have au:=U.g
   have ba:=U.c
   cases e with
   | mk k nm ot n0 ty re l=>
   simp only [Tm.dp] at ae
   have hp:∀ y∈l,y.dp<=f/\y.Z:=λy O=>⟨va.1 (mL ae) y O,hc.mem y O⟩
   obtain ⟨t0,t1,r0,r1,a,es,c,rfl,hh,bv,aw⟩:=Tm.is_mk.1 he
   have hl:=aw.len
   have ab:=hG.2.2.1
   have b5:=zCf k nm ot l.length
   have b6:=zS (bdN k nm ot l.length)
   refine zBe N _ x db Q λ_ _=>⟨_,rfl,?_⟩
   have ax:¬(k=1/\nm=x)->(Tm.mk k nm ot n0 ty re l).sub (f+1) x b=if ze k l.length<0 then .mk k nm ot n0 ty re (l.map λt=>Tm.sub f t x b)
     else if x∈bdN k nm ot l.length\/x∉(l.getD (ze k l.length).toNat tm0).fv then
      .mk k nm ot n0 ty re ((l.map λt=>Tm.sub f t x b).set (ze k l.length).toNat (l.getD (ze k l.length).toNat tm0))
     else
      .mk k (rns (Tm.sub f) k l.length b.fv x (bdN k nm ot l.length) (nm,ot,l.getD (ze k l.length).toNat tm0)).1
       (rns (Tm.sub f) k l.length b.fv x (bdN k nm ot l.length) (nm,ot,l.getD (ze k l.length).toNat tm0)).2.1 n0 ty re
       ((l.map λt=>Tm.sub f t x b).set (ze k l.length).toNat (Tm.sub f (rns (Tm.sub f) k l.length b.fv x (bdN k nm ot l.length) (nm,ot,l.getD (ze k l.length).toNat tm0)).2.2 x b)):=λhn=>by
    simp only [Tm.sub]
    by_cases hk:k=1
    ·rw [if_pos hk,if_neg (λh=>hn ⟨hk,h⟩)]
     have:l=[]:=hc.v.1 hk
     subst this
     subst hk
     rw [if_pos (by decide)]
     rfl
    ·rw [if_neg hk]
   refine Br.beq (λh1=>⟨_,rfl,Br.str (λh2 N1 ah=>?_) λh2=>?_⟩) λh1=>?_
   ·simp only [Tm.sub] at J
    rw [if_pos h1,if_pos h2] at J
    refine s5 b db hb au N1 _ ?_
    cases b with
    | mk k2 b7 b8 n2 b9 ca l2=>
    simp only [zDh]
    intro x4 x5 x6 x7 ay c' N2 bb aa I ai _ _
    have bc:=I.len
    have cc:=au.2.2.1
    exact ⟨⟨trivial,trivial⟩,⟨trivial,trivial⟩,λa2 N3 az hf N4 a3=>J _ _ (by omega) (Tm.is_mk.2 ⟨_,_,_,_,_,_,_,rfl,aa,by omega,I⟩) ((zFR (ai.mono ah (oD _)) hf az).mono (oD _) a3)⟩
   all_goals
    rw [ax (λh=>by first | exact h2 h.2 | exact h1 h.1)] at J
    intro N1 ah
    refine s5 _ _ he hG N1 _ ?_
    simp only [zDh]
    intro x4 x5 x6 x7 ay c' N2 bb aa I ai _ _ N3 az
    have bc:=I.len
    refine pW (n:=l.length) (by omega) N3 _ λa1 c1 N4 a3 _ _ _ N5 cd=>?_
    refine yp _ (by omega) a1 c1 x N5 _ λN6 ce _=>?_
    rw [zJn]
    have aj:OwnL N N6 ([x4,x5,x6,x7]++ay):=ai.mono ah (by omega)
    refine Br.dec (λcf=>?_) λcg=>?_
    ·rw [if_neg (by omega)] at J
     obtain ⟨g1,g2⟩:=xT (k:=k) (n:=l.length) (by omega)
     obtain ⟨j,a4⟩:∃ j:Nat,ze k l.length=(j:Int):=⟨_,g2.symm⟩
     rw [a4] at g1 J ⊢
     rw [oK] at g1 J ⊢
     generalize ak:l.getD j tm0=p at J
     have al:l[j]?=some p:=ak ▸ zN g1
     obtain ⟨am,ao⟩:=hp p (oB al)
     have a5:=ao.c
     have a6:=v6 aw g1
     rw [ak] at a6
     refine Br.ndec (λhx=>⟨_,_,_,rfl,⟨by omega,by omega⟩,λN7 ch=>?_⟩) λhx=>?_
     ·have cj:=Tm.fv_wd p
      refine vI p _ a6 a5 N7 _ λa8 c8 N8 ck _ _ _ N9 cm=>yp _ (by omega) a8 c8 x N9 _ λbg bw _=>?_
      rw [zJn]
      rw [mg hx]
      refine Br.dec (λac bh bz=>?_) λac=>?_
      ·rw [if_neg (by rintro (h | h);exact hx h;exact h ac)] at J
       have b1:=Tm.fv_wd b
       refine vI b _ hb ba bh _ λbi bj cn b2 _ _ _ bm b3=>?_
       generalize hT:rns (Tm.sub f) k l.length b.fv x (bdN k nm ot l.length) (nm,ot,p)=T at J
       have aq:=zIg (qV f) k l.length b.fv x (bdN k nm ot l.length) (nm,ot,p) am
       rw [hT] at aq
       have a7:=aq.le.d
       refine zL5 ih he hG a4 ak am ao x b.fv (by omega) bi bj bm hT _ ?_
       simp only [zDh]
       intro z4 z5 z6 z7 co c9 bp b4 bq a9 bt _ _
       refine pG ih hb U (L:=l.set j T.2.2) (Lf:=(l.map λt=>t.sub f x b).set j (T.2.2.sub f x b)) (λy O=>?_) (by simpa using ab) (by simp) (λi y O=>?_) bq a9 c9 N bp (by omega) (bt.mono (by omega) (oD _)) Q J
       ·rcases nF O with O | rfl
        ·exact hp y O
        ·exact ⟨oN a7 am,aq.z ao⟩
       ·rw [if_neg (λh=>by simp at h)]
        rw [<-List.map_set]
        exact zJg O
      ·rw [if_pos (.inr ac)] at J
       refine pG ih hb U hp ab (by simp) (λi y O=>?_) aa I c' N bg (by omega) (aj.mono (oD _) (by omega)) Q J
       rw [if_neg (λh=>by simp at h)]
       by_cases Y:j=i
       ·subst Y
        have:y=p:=oW (O.symm.trans al)
        rw [nC (by simpa using g1),this,zKl f p x b ac]
       ·rw [ow Y];exact zJg O
     ·rw [if_pos (.inl hx)] at J
      rw [mQ hx]
      refine pG ih hb U hp ab (by simp) (λi y O=>?_) aa I c' N N6 (by omega) aj Q J
      by_cases Y:j=i
      ·subst Y
       have:y=p:=oW (O.symm.trans al)
       rw [if_pos ⟨rfl,rfl⟩,nC (by simpa using g1),this]
      ·rw [if_neg (λh=>Y (by omega)),ow Y];exact zJg O
    ·rw [if_pos (by omega)] at J
     refine pG ih hb U hp ab (by simp) (λi y O=>?_) aa I c' N N6 (by omega) aj Q J
     rw [if_neg (λh=>by have:=h.2;omega)]
     exact zJg O
end Go.Proofs.YtnmnahkkcfghjaaGreat
