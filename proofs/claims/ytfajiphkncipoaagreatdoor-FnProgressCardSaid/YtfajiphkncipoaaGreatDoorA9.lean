/- Substitution: how deep, how great (no program in sight). -/
import Derived.Test.YtfajiphkncipoaaGreatDoorA7
import Derived.Test.YtfajiphkncipoaaGreatDoorA8
import Derived.Test.YtfajiphkncipoaaGreatDoorKf
set_option linter.unusedVariables false
set_option linter.unusedSimpArgs false
namespace Go.Proofs.YtfajiphkncipoaaGreatDoor
open Go Go.Proofs Go.Proofs.Tryz Go.IntWalk
mutual
/-- variables have no parts -/
def Tm.V:Tm->Prop
 | .mk k _ _ _ _ _ l=>(k=1->l=[])/\zPl l
def zPl:List Tm->Prop
 | []=>True
 | t::I=>t.V/\zPl I
end
theorem t7:∀ {l:List Tm},zPl l↔∀ x∈l,x.V
 | []=>by simp [zPl]
 | t::I=>by simp only [zPl,t7 (l:=I),oF,mH]
theorem r9:∀ {l:List Tm} {n:Nat},wr l<=n↔∀ x∈l,x.dp<=n
 | [],n=>by simp [wr]
 | t::I,n=>by simp only [wr,Nat.max_le,r9 (l:=I),oF,mH]
/-- no greater, no deeper -/
structure LeT (t' t:Tm):Prop where
 c:t'.vc<=t.vc
 d:t'.dp<=t.dp
 v:t.V->t'.V
 g:t.G->t'.G
 s:t'.sz<=t.sz
 n:t'.cnt<=t.cnt
theorem LeT.rfl {t:Tm}:LeT t t:=⟨oD _,oD _,id,id,oD _,oD _⟩
theorem LeT.trans {a b c:Tm} (h:LeT a b) (I:LeT b c):LeT a c:=⟨oS h.c I.c,oS h.d I.d,λJ=>h.v (I.v J),λJ=>h.g (I.g J),oS h.s I.s,oS h.n I.n⟩
theorem zKm:∀ {l' l:List Tm},l'.length=l.length->(∀ (i:Nat) (t' t:Tm),l'[i]?=some t'->l[i]?=some t->LeT t' t)->zAK l'<=zAK l/\wr l'<=wr l/\(zPl l->zPl l')/\(zK1 l->zK1 l')/\rC l'<=rC l/\zM l'<=zM l
 | [],[],_,_=>⟨oD _,oD _,id,id,oD _,oD _⟩
 | [],_::_,h,_=>by simp at h
 | _::_,[],h,_=>by simp at h
 | t'::O,t::Y,h,U=>by
   obtain ⟨h1,h2,h3,h4,h5,h6⟩:=zKm (l':=O) (l:=Y) (by simpa using h) λi a b ha hb=>U (i+1) a b (by simpa using ha) (by simpa using hb)
   have I:=U 0 t' t (by simp) (by simp)
   have:=I.c
   have:=I.d
   have:=I.s
   have:=I.n
   refine ⟨by simp only [zAK];omega,by simp only [wr];omega,λJ=>⟨I.v J.1,h3 J.2⟩,λJ=>⟨I.g J.1,h4 J.2⟩,by simp only [rC];omega,by simp only [zM];omega⟩
theorem zBW {l:List Tm} {g:Tm->Tm} {j:Nat} {v t' t:Tm} {i:Nat} (h:((l.map g).set j v)[i]?=some t') (J:l[i]?=some t):(i=j/\t'=v)\/(i≠j/\t'=g t):=by
 rw [nJ] at h
 split at h
 ·rename_i I
  split at h
  ·exact .inl ⟨I.symm,(oW h).symm⟩
  ·cases h
 ·rename_i I
  rw [oE,J] at h
  exact .inr ⟨λhc=>I hc.symm,(oW h).symm⟩
theorem zMw {k:Int} {nm ot J O:ByteArray} {n:Int} {ty re:Ty} {l l':List Tm} (U:k≠1) (h:l'.length=l.length) (Y:∀ (i:Nat) (t' t:Tm),l'[i]?=some t'->l[i]?=some t->LeT t' t):LeT (.mk k J O n ty re l') (.mk k nm ot n ty re l):=by
 obtain ⟨h1,h2,h3,h4,h5,h6⟩:=zKm h Y
 exact ⟨by simp only [Tm.vc,if_neg U];omega,by simp only [Tm.dp];omega,λI=>⟨λhc=>absurd hc U,h3 I.2⟩,λI=>⟨I.1,I.2.1,h ▸ I.2.2.1,h4 I.2.2.2⟩,by simp only [Tm.sz];omega,by simp only [Tm.cnt];omega⟩
theorem zMV {S:Tm->ByteArray->Tm->Tm} (I:∀ t x y,LeT (S t x (tw y)) t) (k:Int) (n:Nat) (fb:List ByteArray) (x old:ByteArray) (s:ByteArray × ByteArray × Tm):LeT (rn1 S k n fb x old s).2.2 s.2.2:=by
 unfold rn1
 split
 ·split
  ·exact I _ _ _
  ·exact I _ _ _
 ·exact LeT.rfl
theorem zD2 {S:Tm->ByteArray->Tm->Tm} (I:∀ t x y,LeT (S t x (tw y)) t) (k:Int) (n:Nat) (fb:List ByteArray) (x:ByteArray):∀ (l:List ByteArray) (s:ByteArray × ByteArray × Tm),LeT (rns S k n fb x l s).2.2 s.2.2
 | [],s=>LeT.rfl
 | old::l,s=>(zD2 I k n fb x l _).trans (zMV I k n fb x old s)
/-- a name put for a name -/
theorem zA0:∀ (f:Nat) (t:Tm) (x y:ByteArray),LeT (t.sub f x (tw y)) t
 | 0,t,x,y=>by simp only [Tm.sub];exact LeT.rfl
 | f + 1,.mk k nm ot n ty re l,x,y=>by
   have U:=zA0 f
   simp only [Tm.sub]
   split
   ·rename_i Y
    split
    ·exact ⟨by simp only [tw,Tm.vc,if_pos Y,mm];exact oD _,by simp only [tw,Tm.dp,wr];omega,λ_=>⟨λ_=>rfl,trivial⟩,λ_=>by simp [tw,Tm.G,zK1,Ty.cnt,zK],by simp only [tw,Tm.sz,rC];omega,by have:=Ty.cnt_pos ty;have:=Ty.cnt_pos re;simp only [tw,Tm.cnt,zM,Ty.cnt,zK];omega⟩
    ·exact LeT.rfl
   ·rename_i Y
    split
    ·refine zMw Y (by simp) λi t' t I J=>?_
     rw [oE,J] at I
     cases I
     exact U t x y
    ·rename_i hb
     obtain ⟨g1,g2⟩:=vQ hb
     split
     ·refine zMw Y (by simp) λi t' t I J=>?_
      rcases zBW I J with ⟨h1,O⟩ | ⟨h1,O⟩
      ·rw [h1,zw g1] at J
       rw [O,<-oW J]
       exact LeT.rfl
      ·rw [O];exact U t x y
     ·refine zMw Y (by simp) λi t' t I J=>?_
      rcases zBW I J with ⟨h1,O⟩ | ⟨h1,O⟩
      ·rw [h1,zw g1] at J
       rw [O,<-oW J]
       exact (U _ x y).trans (zD2 U _ _ _ _ _ _)
      ·rw [O];exact U t x y
/-- what holds of each node of what is put in -/
theorem zOC:∀ (f:Nat) (t:Tm) (x:ByteArray) (b:Tm),t.G->b.G->(t.sub f x b).G
 | 0,t,x,b,h,_=>by simp only [Tm.sub];exact h
 | f + 1,.mk k nm ot n ty re l,x,b,h,U=>by
   have I:=zOC f
   obtain ⟨Y,h2,h3,h4⟩:=h
   have vG:∀ y,(tw y).G:=λy=>by simp [tw,Tm.G,zK1,Ty.cnt,zK]
   simp only [Tm.sub]
   split
   ·split
    ·exact U
    ·exact ⟨Y,h2,h3,h4⟩
   ·split
    ·refine ⟨Y,h2,by simpa using h3,zBE λy J=>?_⟩
     obtain ⟨z,hz,rfl⟩:=oR.1 J
     exact I z x b (zj h4 hz) U
    ·rename_i aa
     obtain ⟨g1,g2⟩:=vQ aa
     have O:=zj h4 (oB (zw g1))
     have key:∀ v:Tm,v.G->zK1 ((l.map λt=>Tm.sub f t x b).set (yG k l.length).toNat v):=λv hv=>zBE λy J=>by
      rcases nE J with J | rfl
      ·obtain ⟨z,hz,rfl⟩:=oR.1 J
       exact I z x b (zj h4 hz) U
      ·exact hv
     split
     ·exact ⟨Y,h2,by simpa using h3,key _ O⟩
     ·refine ⟨Y,h2,by simpa using h3,key _ (I _ x b ?_ U)⟩
      have r1:∀ (old:ByteArray) (s:ByteArray × ByteArray × Tm),s.2.2.G->(rn1 (Tm.sub f) k l.length b.fv x old s).2.2.G:=λold s hs=>by
       unfold rn1
       split
       ·split
        ·exact I _ _ _ hs (vG _)
        ·exact I _ _ _ hs (vG _)
       ·exact hs
      have rs:∀ (ns:List ByteArray) (s:ByteArray × ByteArray × Tm),s.2.2.G->(rns (Tm.sub f) k l.length b.fv x ns s).2.2.G:=by
       intro ns
       induction ns with
       | nil=>exact λs hs=>hs
       | cons o os ab=>exact λs hs=>ab _ (r1 o s hs)
      exact rs _ _ O
theorem zRP:∀ (f:Nat) (t:Tm) (x:ByteArray) (b:Tm),t.V->b.V->(t.sub f x b).V
 | 0,t,x,b,h,_=>by simp only [Tm.sub];exact h
 | f + 1,.mk k nm ot n ty re l,x,b,h,Y=>by
   have ih:=zRP f
   obtain ⟨h1,J⟩:=h
   have J:=t7.1 J
   simp only [Tm.sub]
   split
   ·split
    ·exact Y
    ·exact ⟨h1,t7.2 J⟩
   ·rename_i hk
    have I:∀ l':List Tm,k=1->l'=[]:=λ_ hc=>absurd hc hk
    split
    ·refine ⟨I _,t7.2 λy O=>?_⟩
     obtain ⟨z,hz,rfl⟩:=oR.1 O
     exact ih z x b (J z hz) Y
    ·rename_i aa
     obtain ⟨g1,g2⟩:=vQ aa
     have U:=J _ (oB (zw g1))
     have key:∀ v:Tm,v.V->zPl ((l.map λt=>Tm.sub f t x b).set (yG k l.length).toNat v):=λv hv=>t7.2 λy O=>by
      rcases nE O with O | rfl
      ·obtain ⟨z,hz,rfl⟩:=oR.1 O
       exact ih z x b (J z hz) Y
      ·exact hv
     split
     ·exact ⟨I _,key _ U⟩
     ·exact ⟨I _,key _ (ih _ x b ((zD2 (zA0 f) _ _ _ _ _ _).v U) Y)⟩
theorem zBF {k:Int} {nm ot:ByteArray} {n:Nat} {z:ByteArray}:z∈bdN k nm ot n↔(k=6/\n=1\/k=8/\n=2\/k=9/\n=1)/\z=nm\/(k=9/\n=1)/\z=ot:=by
 unfold bdN
 by_cases I:k=6/\n=1
 ·rw [if_pos I];simp [I.1,I.2]
 ·rw [if_neg I]
  by_cases J:k=8/\n=2
  ·rw [if_pos J];simp [J.1,J.2]
  ·rw [if_neg J]
   by_cases O:k=9/\n=1
   ·rw [if_pos O];simp [O.1,O.2]
   ·rw [if_neg O];simp [I,J,O]
/-- what is free in what is put together -/
def FvS (f:Nat):Prop:=∀ (t:Tm) (x:ByteArray) (b:Tm),t.dp<=f->∀ s∈(t.sub f x b).fv,(s∈t.fv/\s≠x)\/(s∈b.fv/\x∈t.fv)
theorem zNT {f:Nat} (Y:FvS f) {k:Int} {n:Nat} {fb:List ByteArray} {x old:ByteArray} {s:ByteArray × ByteArray × Tm} (hd:s.2.2.dp<=f) (hk:k=6/\n=1\/k=8/\n=2\/k=9/\n=1) (J:old=s.1\/(k=9/\n=1)/\old=s.2.1) :
  ∀ z∈(rn1 (Tm.sub f) k n fb x old s).2.2.fv,z∉bdN k (rn1 (Tm.sub f) k n fb x old s).1 (rn1 (Tm.sub f) k n fb x old s).2.1 n->z∈s.2.2.fv/\z∉bdN k s.1 s.2.1 n:=by
 intro z
 unfold rn1
 by_cases h1:old∈fb
 ·rw [if_pos h1]
  by_cases U:s.1=old
  ·rw [if_pos U]
   simp only
   intro O I
   rcases Y _ _ _ hd z O with ⟨a1,a2⟩ | ⟨a1,_⟩
   ·refine ⟨a1,λhc=>?_⟩
    rcases zBF.1 hc with ⟨_,c1⟩ | ⟨c0,c1⟩
    ·exact a2 (c1.trans U)
    ·exact I (zBF.2 (.inr ⟨c0,c1⟩))
   ·rw [zJp,oY] at a1
    exact absurd (zBF.2 (.inl ⟨hk,a1⟩)) I
  ·rw [if_neg U]
   simp only
   intro O I
   rcases J with J | ⟨h9,J⟩
   ·exact absurd J.symm U
   ·rcases Y _ _ _ hd z O with ⟨a1,a2⟩ | ⟨a1,_⟩
    ·refine ⟨a1,λhc=>?_⟩
     rcases zBF.1 hc with ⟨c0,c1⟩ | ⟨_,c1⟩
     ·exact I (zBF.2 (.inl ⟨c0,c1⟩))
     ·exact a2 (c1.trans J.symm)
    ·rw [zJp,oY] at a1
     exact absurd (zBF.2 (.inr ⟨h9,a1⟩)) I
 ·rw [if_neg h1]
  exact λO I=>⟨O,I⟩
theorem zQR {S:Tm->ByteArray->Tm->Tm} {k:Int} {n:Nat} {fb:List ByteArray} {x:ByteArray} {s:ByteArray × ByteArray × Tm}:(rn1 S k n fb x s.1 s).2.1=s.2.1:=by
 unfold rn1
 split
 ·rw [if_pos rfl]
 ·rfl
theorem zQh {f:Nat} (hS:FvS f) {k:Int} {n:Nat} {fb:List ByteArray} {x nm ot:ByteArray} {p:Tm} (hd:p.dp<=f) (J:k=6/\n=1\/k=8/\n=2\/k=9/\n=1) :
  ∀ z∈(rns (Tm.sub f) k n fb x (bdN k nm ot n) (nm,ot,p)).2.2.fv,z∉bdN k (rns (Tm.sub f) k n fb x (bdN k nm ot n) (nm,ot,p)).1 (rns (Tm.sub f) k n fb x (bdN k nm ot n) (nm,ot,p)).2.1 n->z∈p.fv/\z∉bdN k nm ot n:=by
 have one:=zNT hS (fb:=fb) (x:=x) (old:=nm) (s:=(nm,ot,p)) hd J (.inl rfl)
 by_cases I:k=9/\n=1
 ·have e:bdN k nm ot n=[nm,ot]:=by rw [I.1,I.2];rfl
  intro z
  rw [e]
  simp only [rns]
  have O:(rn1 (Tm.sub f) k n fb x nm (nm,ot,p)).2.2.dp<=f:=oS (zMV (zA0 f) k n fb x nm (nm,ot,p)).d hd
  have U:=zNT hS (fb:=fb) (x:=x) (old:=ot) (s:=rn1 (Tm.sub f) k n fb x nm (nm,ot,p)) O J (.inr ⟨I,(zQR (s:=(nm,ot,p))).symm⟩)
  intro Y hn
  obtain ⟨a1,a2⟩:=U z Y hn
  have:=one z a1 a2
  rwa [e] at this
 ·have e:bdN k nm ot n=[nm]:=by
   unfold bdN
   by_cases h6:k=6/\n=1
   ·rw [if_pos h6]
   ·rw [if_neg h6,if_pos (by rcases J with h | h | h;exact absurd h h6;exact h;exact absurd h I)]
  intro z
  rw [e]
  simp only [rns]
  intro Y hn
  have:=one z Y hn
  rwa [e] at this
theorem zMg {k:Int} {n:Nat} (h:¬yG k n<0):k=6/\n=1\/k=8/\n=2\/k=9/\n=1:=by
 rcases zA2 k n with J | ⟨J,I,h3 | h3⟩ | ⟨J,I,h3⟩
 ·omega
 ·exact .inl ⟨h3,I⟩
 ·exact .inr (.inr ⟨h3,I⟩)
 ·exact .inr (.inl ⟨h3,I⟩)
theorem zEn {k:Int} (I:k≠1) {nm ot:ByteArray} {n:Int} {ty re:Ty} {l:List Tm} {j:Nat} {p:Tm} {s:ByteArray} (J:l[j]?=some p) (hs:s∈fvI (yG k l.length) (bdN k nm ot l.length) j p):s∈(Tm.mk k nm ot n ty re l).fv:=
 Tm.fv_mem.2 (.inr ⟨I,j,p,J,hs⟩)
theorem rG {at_:Int} {ns:List ByteArray} {i:Nat} {x:Tm} (h:(i:Int)≠at_):fvI at_ ns i x=x.fv:=if_neg h
theorem zIJ {at_:Int} {ns:List ByteArray} {i:Nat} {x:Tm} (h:(i:Int)=at_):fvI at_ ns i x=tM ns x.fv:=if_pos h
theorem zKK:∀ f,FvS f
 | 0=>λt x b hd=>absurd (Tm.dp_pos t) (by omega)
 | f + 1 => λt x b hd s=>by
   have ih:=zKK f
   cases t with
   | mk k nm ot n ty re l=>
   simp only [Tm.dp] at hd
   have hp:∀ y∈l,y.dp<=f:=λy I=>oS (wE I) (by omega)
   simp only [Tm.sub]
   split
   ·rename_i J
    split
    ·rename_i hn
     intro hs
     exact .inr ⟨hs,by simp [Tm.fv,J,hn]⟩
    ·rename_i hn
     intro hs
     simp only [Tm.fv,if_pos J,oY] at hs ⊢
     exact .inl ⟨hs,λhc=>hn (hs ▸ hc)⟩
   ·rename_i J
    split
    ·rename_i hb
     intro hs
     rcases Tm.fv_mem.1 hs with ⟨h,_⟩ | ⟨_,j,y,O,I⟩
     ·exact absurd h J
     ·rw [nC,rG (by omega)] at I
      rw [oE] at O
      obtain ⟨z,hz,rfl⟩:=me.1 O
      have hm:=oB hz
      rcases ih z x b (hp z hm) s I with ⟨a1,a2⟩ | ⟨a1,a2⟩
      ·exact .inl ⟨zEn J hz (by rw [rG (by omega)];exact a1),a2⟩
      ·exact .inr ⟨a1,zEn J hz (by rw [rG (by omega)];exact a2)⟩
    ·rename_i hb
     obtain ⟨g1,g2⟩:=vQ hb
     have U:=zw g1
     have ah:=zMg hb
     -- a part that is not under the names
     have aa:∀ (v:Tm) (j:Nat) (y:Tm),j≠(yG k l.length).toNat->((l.map λt=>Tm.sub f t x b).set (yG k l.length).toNat v)[j]?=some y->s∈y.fv->(s∈(Tm.mk k nm ot n ty re l).fv/\s≠x)\/(s∈b.fv/\x∈(Tm.mk k nm ot n ty re l).fv):=by
      intro v j y ak O I
      rw [nB (by omega),oE] at O
      obtain ⟨z,hz,rfl⟩:=me.1 O
      have hm:=oB hz
      rcases ih z x b (hp z hm) s I with ⟨a1,a2⟩ | ⟨a1,a2⟩
      ·exact .inl ⟨zEn J hz (by rw [rG (by omega)];exact a1),a2⟩
      ·exact .inr ⟨a1,zEn J hz (by rw [rG (by omega)];exact a2)⟩
     split
     ·rename_i hx
      intro hs
      rcases Tm.fv_mem.1 hs with ⟨h,_⟩ | ⟨_,j,y,O,I⟩
      ·exact absurd h J
      ·rw [nc,nC] at I
       by_cases Y:j=(yG k l.length).toNat
       ·subst Y
        rw [nI (by simpa using g1)] at O
        cases O
        refine .inl ⟨zEn J U I,?_⟩
        rw [zIJ g2,ue] at I
        rintro rfl
        rcases hx with hx | hx
        ·exact I.2 hx
        ·exact hx I.1
       ·rw [rG (by omega)] at I
        exact aa _ j y Y O I
     ·rename_i hx
      have ai:x∉bdN k nm ot l.length:=λh=>hx (.inl h)
      have ab:x∈(l.getD (yG k l.length).toNat tm0).fv:=mK.1 λh=>hx (.inr h)
      generalize l.getD (yG k l.length).toNat tm0=p at U ab
      have ac:=hp p (oB U)
      have hR:=zQh ih (fb:=b.fv) (x:=x) (nm:=nm) (ot:=ot) ac ah
      have ae:=zD2 (zA0 f) k l.length b.fv x (bdN k nm ot l.length) (nm,ot,p)
      generalize rns (Tm.sub f) k l.length b.fv x (bdN k nm ot l.length) (nm,ot,p)=T at hR ae
      have aj:T.2.2.dp<=f:=oS ae.d ac
      intro hs
      rcases Tm.fv_mem.1 hs with ⟨h,_⟩ | ⟨_,j,y,O,I⟩
      ·exact absurd h J
      ·rw [nc,nC] at I
       by_cases Y:j=(yG k l.length).toNat
       ·subst Y
        rw [nI (by simpa using g1)] at O
        cases O
        rw [zIJ g2,ue] at I
        rcases ih T.2.2 x b aj s I.1 with ⟨a1,a2⟩ | ⟨a1,_⟩
        ·obtain ⟨c1,c2⟩:=hR s a1 I.2
         exact .inl ⟨zEn J U (by rw [zIJ g2];exact ue.2 ⟨c1,c2⟩),a2⟩
        ·exact .inr ⟨a1,zEn J U (by rw [zIJ g2];exact ue.2 ⟨ab,ai⟩)⟩
       ·rw [rG (by omega)] at I
        exact aa _ j y Y O I
theorem zQH {f:Nat} {t:Tm} {x y:ByteArray} (hd:t.dp<=f):(t.sub f x (tw y)).fv.length<=t.fv.length:=by
 by_cases I:x∈t.fv
 ·have J:=zDf (Tm.fv_nodup (t.sub f x (tw y))) (m:=y::t.fv.filter λz=>decide (z≠x)) λs hs=>by
   rcases zKK f t x (tw y) hd s hs with ⟨a1,a2⟩ | ⟨a1,_⟩
   ·exact nY _ (ny.2 ⟨a1,by simp [a2]⟩)
   ·rw [zJp,oY] at a1
    rw [a1];exact nZ
  have O:=mi (p:=λz=>decide (z≠x)).2 ⟨x,I,by simp⟩
  simp only [oM] at J
  omega
 ·rw [zL8 f t x _ I];exact oD _
theorem zQy {f:Nat} {t:Tm} {x:ByteArray} {b:Tm} (hd:t.dp<=f):(t.sub f x b).fv.length<=t.fv.length+b.fv.length:=by
 have I:=zDf (Tm.fv_nodup (t.sub f x b)) (m:=t.fv++b.fv) λs hs=>by
  rcases zKK f t x b hd s hs with ⟨a1,_⟩ | ⟨a1,_⟩
  ·exact od _ a1
  ·exact nF _ a1
 simpa using I
/-- no greater, no deeper, no wider -/
structure LeW (t' t:Tm):Prop where
 le:LeT t' t
 w:t'.wd<=t.wd
 l:t'.fv.length<=t.fv.length
theorem LeW.rfl {t:Tm}:LeW t t:=⟨LeT.rfl,oD _,oD _⟩
theorem LeW.trans {a b c:Tm} (h:LeW a b) (I:LeW b c):LeW a c:=⟨h.le.trans I.le,oS h.w I.w,oS h.l I.l⟩
theorem zMi {m n:Nat}:∀ {l' l:List Tm},l'.length=l.length->(∀ (i:Nat) (t' t:Tm),l'[i]?=some t'->l[i]?=some t->t'.wd<=t.wd+n/\t'.fv.length<=t.fv.length+m)->sf l'<=sf l+n/\wy l'<=wy l+l.length*m
 | [],[],_,_=>⟨by simp [sf],by simp [wy]⟩
 | [],_::_,h,_=>by simp at h
 | _::_,[],h,_=>by simp at h
 | t'::I,t::O,h,J=>by
   obtain ⟨h1,h2⟩:=zMi (m:=m) (n:=n) (l':=I) (l:=O) (by simpa using h) λi a b U Y=>J (i+1) a b (by simpa using U) (by simpa using Y)
   obtain ⟨h3,h4⟩:=J 0 t' t (by simp) (by simp)
   refine ⟨by simp only [sf];omega,?_⟩
   simp only [wy,oM,nR]
   omega
theorem zQ1 {f:Nat} (I:∀ t x y,t.dp<=f->LeW (t.sub f x (tw y)) t) (k:Int) (n:Nat) (fb:List ByteArray) (x old:ByteArray) (s:ByteArray × ByteArray × Tm) (hd:s.2.2.dp<=f):LeW (rn1 (Tm.sub f) k n fb x old s).2.2 s.2.2:=by
 unfold rn1
 split
 ·split
  ·exact I _ _ _ hd
  ·exact I _ _ _ hd
 ·exact LeW.rfl
theorem zJ4 {f:Nat} (I:∀ t x y,t.dp<=f->LeW (t.sub f x (tw y)) t) (k:Int) (n:Nat) (fb:List ByteArray) (x:ByteArray):∀ (l:List ByteArray) (s:ByteArray × ByteArray × Tm),s.2.2.dp<=f->LeW (rns (Tm.sub f) k n fb x l s).2.2 s.2.2
 | [],s,_=>LeW.rfl
 | old::l,s,hd=>by
   have J:=zQ1 I k n fb x old s hd
   exact (zJ4 I k n fb x l _ (oS J.le.d hd)).trans J
theorem zSD {P:Tm->Prop} {f:Nat} (I:∀ t x y,P t->P (t.sub f x (tw y))) (k:Int) (n:Nat) (fb:List ByteArray) (x:ByteArray):∀ (l:List ByteArray) (s:ByteArray × ByteArray × Tm),P s.2.2->P (rns (Tm.sub f) k n fb x l s).2.2
 | [],s,h=>h
 | old::l,s,h=>by
   refine zSD I k n fb x l _ ?_
   unfold rn1
   split
   ·split
    ·exact I _ _ _ h
    ·exact I _ _ _ h
   ·exact h
/-- at most so many are added, anywhere -/
theorem zMm {P:Tm->Prop} {f:Nat} (hP:∀ t x y,P t->P (t.sub f x (tw y))) {x:ByteArray} {b:Tm} {m n:Nat} (ab:∀ t:Tm,t.dp<=f->P t->(t.sub f x b).wd<=t.wd+n/\(t.sub f x b).fv.length<=t.fv.length+m) (hv:∀ t x y,t.dp<=f->LeW (t.sub f x (tw y)) t)
  {k:Int} {nm ot:ByteArray} {n0:Int} {ty re:Ty} {l:List Tm} (hk:k≠1) (hd:∀ y∈l,y.dp<=f) (hp:∀ y∈l,P y):((Tm.mk k nm ot n0 ty re l).sub (f+1) x b).wd<=max (wy l+l.length*m) (sf l+n):=by
 have fin:∀ (ac ae:ByteArray) (l':List Tm),l'.length=l.length->(∀ (i:Nat) (t' t:Tm),l'[i]?=some t'->l[i]?=some t->t'.wd<=t.wd+n/\t'.fv.length<=t.fv.length+m)->(Tm.mk k ac ae n0 ty re l').wd<=max (wy l+l.length*m) (sf l+n):=λac ae l' Y O=>by
  obtain ⟨a1,a2⟩:=zMi Y O
  simp only [Tm.wd,if_neg hk]
  omega
 have at_:∀ {i:Nat} {t:Tm},l[i]?=some t->(t.sub f x b).wd<=t.wd+n/\(t.sub f x b).fv.length<=t.fv.length+m:=λh=>ab _ (hd _ (oB h)) (hp _ (oB h))
 simp only [Tm.sub]
 rw [if_neg hk]
 split
 ·refine fin _ _ _ (by simp) λi t' t I J=>?_
  rw [oE,J] at I
  cases I
  exact at_ J
 ·rename_i hb
  obtain ⟨g1,g2⟩:=vQ hb
  have U:=zw g1
  split
  ·refine fin _ _ _ (by simp) λi t' t I J=>?_
   rcases zBW I J with ⟨Y,O⟩ | ⟨Y,O⟩
   ·rw [Y,U] at J
    rw [O,<-oW J]
    exact ⟨by omega,by omega⟩
   ·rw [O];exact at_ J
  ·have ah:=hd _ (oB U)
   have aa:=zJ4 hv k l.length b.fv x (bdN k nm ot l.length) (nm,ot,l.getD (yG k l.length).toNat tm0) ah
   refine fin _ _ _ (by simp) λi t' t I J=>?_
   rcases zBW I J with ⟨Y,O⟩ | ⟨Y,O⟩
   ·rw [Y,U] at J
    rw [O,<-oW J]
    obtain ⟨c1,c2⟩:=ab _ (oS aa.le.d ah) (zSD hP _ _ _ _ _ _ (hp _ (oB U)))
    have w1:(rns (Tm.sub f) k l.length b.fv x (bdN k nm ot l.length) (nm,ot,l.getD (yG k l.length).toNat tm0)).2.2.wd<=(l.getD (yG k l.length).toNat tm0).wd:=aa.w
    have w2:(rns (Tm.sub f) k l.length b.fv x (bdN k nm ot l.length) (nm,ot,l.getD (yG k l.length).toNat tm0)).2.2.fv.length<=(l.getD (yG k l.length).toNat tm0).fv.length:=aa.l
    exact ⟨by omega,by omega⟩
   ·rw [O];exact at_ J
theorem rj:∀ (f:Nat) (t:Tm) (x y:ByteArray),t.dp<=f->LeW (t.sub f x (tw y)) t
 | 0,t,x,y,h=>absurd (Tm.dp_pos t) (by omega)
 | f+1,.mk k nm ot n ty re l,x,y,h=>by
   refine ⟨zA0 _ _ _ _,?_,zQH h⟩
   simp only [Tm.dp] at h
   have J:wr l<=f:=by omega
   by_cases I:k=1
   ·simp only [Tm.sub,if_pos I]
    split
    ·simp [tw,Tm.wd,I]
    ·exact oD _
   ·have:=zMm (P:=λ_=>True) (λ_ _ _ _=>trivial) (m:=0) (n:=0) (λt O _=>⟨(rj f t x y O).w,(rj f t x y O).l⟩) (rj f) (nm:=nm) (ot:=ot) (n0:=n) (ty:=ty) (re:=re) I (λz U=>oS (wE U) J) λ_ _=>trivial
    simp only [Tm.wd,if_neg I]
    omega
mutual
/-- at most three parts -/
def Tm.A3:Tm->Prop
 | .mk _ _ _ _ _ _ l=>l.length<=3/\zIQ l
def zIQ:List Tm->Prop
 | []=>True
 | t::I=>t.A3/\zIQ I
end
theorem uT:∀ {l:List Tm},zIQ l↔∀ x∈l,x.A3
 | []=>by simp [zIQ]
 | t::I=>by simp only [zIQ,uT (l:=I),oF,mH]
theorem zMv:∀ (f:Nat) (t:Tm) (x:ByteArray) (b:Tm),t.A3->b.A3->(t.sub f x b).A3
 | 0,t,x,b,h,_=>by simp only [Tm.sub];exact h
 | f + 1,.mk k nm ot n ty re l,x,b,h,Y=>by
   have J:=zMv f
   obtain ⟨h1,I⟩:=h
   have I:=uT.1 I
   have vA:∀ y,(tw y).A3:=λy=>by simp [tw,Tm.A3,zIQ]
   simp only [Tm.sub]
   split
   ·split
    ·exact Y
    ·exact ⟨h1,uT.2 I⟩
   ·split
    ·refine ⟨by simpa using h1,uT.2 λy O=>?_⟩
     obtain ⟨z,hz,rfl⟩:=oR.1 O
     exact J z x b (I z hz) Y
    ·rename_i aa
     obtain ⟨g1,g2⟩:=vQ aa
     have U:=I _ (oB (zw g1))
     have key:∀ v:Tm,v.A3->zIQ ((l.map λt=>Tm.sub f t x b).set (yG k l.length).toNat v):=λv hv=>uT.2 λy O=>by
      rcases nE O with O | rfl
      ·obtain ⟨z,hz,rfl⟩:=oR.1 O
       exact J z x b (I z hz) Y
      ·exact hv
     split
     ·exact ⟨by simpa using h1,key _ U⟩
     ·refine ⟨by simpa using h1,key _ (J _ x b ?_ Y)⟩
      have r1:∀ (old:ByteArray) (s:ByteArray × ByteArray × Tm),s.2.2.A3->(rn1 (Tm.sub f) k l.length b.fv x old s).2.2.A3:=λold s hs=>by
       unfold rn1
       split
       ·split
        ·exact J _ _ _ hs (vA _)
        ·exact J _ _ _ hs (vA _)
       ·exact hs
      have rs:∀ (ns:List ByteArray) (s:ByteArray × ByteArray × Tm),s.2.2.A3->(rns (Tm.sub f) k l.length b.fv x ns s).2.2.A3:=by
       intro ns
       induction ns with
       | nil=>exact λs hs=>hs
       | cons o os ab=>exact λs hs=>ab _ (r1 o s hs)
      exact rs _ _ U
/-- each name may be joined by those of what is put in -/
theorem zNe:∀ (f:Nat) (t:Tm) (x:ByteArray) (b:Tm),t.dp<=f->t.A3->(t.sub f x b).wd<=t.wd+(3*b.fv.length+b.wd)
 | 0,t,x,b,h,_=>absurd (Tm.dp_pos t) (by omega)
 | f+1,.mk k nm ot n ty re l,x,b,h,ha=>by
   obtain ⟨h1,J⟩:=ha
   have J:=uT.1 J
   simp only [Tm.dp] at h
   have O:wr l<=f:=by omega
   by_cases U:k=1
   ·simp only [Tm.sub,if_pos U]
    split
    ·omega
    ·omega
   ·have:=zMm (P:=Tm.A3) (λt x y I=>zMv f t x _ I (by simp [tw,Tm.A3,zIQ])) (m:=b.fv.length) (n:=3*b.fv.length+b.wd) (λt I Y=>⟨zNe f t x b I Y,zQy I⟩) (rj f) (nm:=nm) (ot:=ot) (n0:=n) (ty:=ty) (re:=re) U (λz hz=>oS (wE hz) O) J
    have h3:l.length*b.fv.length<=3*b.fv.length:=oh _ h1
    simp only [Tm.wd,if_neg U]
    omega
/-- how deep -/
theorem zFI {m:Nat}:∀ {l' l:List Tm},l'.length=l.length->(∀ (i:Nat) (t' t:Tm),l'[i]?=some t'->l[i]?=some t->t'.dp<=t.dp+m)->wr l'<=wr l+m
 | [],[],_,_=>by simp [wr]
 | [],_::_,h,_=>by simp at h
 | _::_,[],h,_=>by simp at h
 | t'::I,t::O,h,J=>by
   have h1:=zFI (m:=m) (l':=I) (l:=O) (by simpa using h) λi a b U Y=>J (i+1) a b (by simpa using U) (by simpa using Y)
   have h3:=J 0 t' t (by simp) (by simp)
   simp only [wr];omega
theorem zPk:∀ (f:Nat) (t:Tm) (x:ByteArray) (b:Tm),(t.sub f x b).dp<=t.dp+b.dp
 | 0,t,x,b=>by simp only [Tm.sub];omega
 | f + 1,.mk k nm ot n ty re l,x,b=>by
   have ih:=zPk f
   have fin:∀ (Y aa:ByteArray) (l':List Tm),l'.length=l.length->(∀ (i:Nat) (t' t:Tm),l'[i]?=some t'->l[i]?=some t->t'.dp<=t.dp+b.dp)->(Tm.mk k Y aa n ty re l').dp<=(Tm.mk k nm ot n ty re l).dp+b.dp:=λY aa l' U J=>by
    have:=zFI U J
    simp only [Tm.dp];omega
   simp only [Tm.sub]
   split
   ·split
    ·omega
    ·omega
   ·split
    ·refine fin _ _ _ (by simp) λi t' t I O=>?_
     rw [oE,O] at I
     cases I
     exact ih t x b
    ·rename_i hb
     obtain ⟨g1,g2⟩:=vQ hb
     have ab:=zw g1
     split
     ·refine fin _ _ _ (by simp) λi t' t I O=>?_
      rcases zBW I O with ⟨U,J⟩ | ⟨U,J⟩
      ·rw [U,ab] at O
       rw [J,<-oW O]
       omega
      ·rw [J];exact ih t x b
     ·refine fin _ _ _ (by simp) λi t' t I O=>?_
      rcases zBW I O with ⟨U,J⟩ | ⟨U,J⟩
      ·rw [U,ab] at O
       rw [J,<-oW O]
       have h3:=(zD2 (zA0 f) k l.length b.fv x (bdN k nm ot l.length) (nm,ot,l.getD (yG k l.length).toNat tm0)).d
       have h4:=ih (rns (Tm.sub f) k l.length b.fv x (bdN k nm ot l.length) (nm,ot,l.getD (yG k l.length).toNat tm0)).2.2 x b
       simp only at h3
       omega
      ·rw [J];exact ih t x b
/-- not too great to be copied, its free names to be listed -/
structure Tm.Z (t:Tm):Prop where
 g:t.G
 c:t.wd<=2199023255552
 v:t.V
theorem Tm.Z.mem {k:Int} {nm ot:ByteArray} {n:Int} {ty re:Ty} {l:List Tm} (h:(Tm.mk k nm ot n ty re l).Z):∀ y∈l,y.Z:=λy I=>by
 have hc:=h.c
 have:=zx I
 simp only [Tm.wd] at hc
 split at hc
 ·rename_i J
  rw [h.v.1 J] at I
  simp at I
 ·exact ⟨zj h.g.2.2.2 I,by omega,t7.1 h.v.2 y I⟩
theorem LeW.z {t' t:Tm} (h:LeW t' t) (I:t.Z):t'.Z:=⟨h.le.g I.g,oS h.w I.c,h.le.v I.v⟩
theorem zPu (s:ByteArray):(tw s).Z:=⟨by simp [tw,Tm.G,zK1,Ty.cnt,zK],by simp only [tw,Tm.wd,mm];omega,λ_=>rfl,trivial⟩
theorem zIF:∀ {l:List D} {j:Nat} {x:D} {b:Nat},b∈zF (l.set j x)->b∈zF l\/b∈x.foot
 | [],j,x,b,h=>by simp [zF] at h
 | a::l,0,x,b,h=>by
   simp only [md,zF,oK] at h ⊢
   rcases h with h | h
   ·exact .inr h
   ·exact .inl (.inr h)
 | a::l,j+1,x,b,h=>by
   simp only [mu,zF,oK] at h ⊢
   rcases h with h | h
   ·exact .inl (.inl h)
   ·rcases zIF h with h | h
    ·exact .inl (.inr h)
    ·exact .inr h
theorem zKz {N N1 N2 N3:Nat} {x:D} (I:Own N2 N3 x) (h1:N<=N2) (h2:N1<=N2) (h3:N2<=N3):∀ {l:List D} {j:Nat},OwnL N N1 l->OwnL N N3 (l.set j x)
 | [],j,h=>by simp only [List.set_nil];exact h.mono (oD _) (by omega)
 | a::l,0,h=>by
   have J:=h.nd
   simp only [zF,nK] at J
   simp only [md]
   refine ⟨?_,⟨I.fl,h.fl.2⟩,λb hb=>?_,λb hb=>?_⟩
   ·simp only [zF,nK]
    refine ⟨I.nd,J.2.1,λu U v hv O=>?_⟩
    have:=I.lo u U
    have:=h.hi v (by simp only [zF,oK];exact .inr hv)
    omega
   ·simp only [zF,oK] at hb
    rcases hb with hb | hb
    ·have:=I.lo b hb;omega
    ·exact h.lo b (by simp only [zF,oK];exact .inr hb)
   ·simp only [zF,oK] at hb
    rcases hb with hb | hb
    ·exact I.hi b hb
    ·have:=h.hi b (by simp only [zF,oK];exact .inr hb);omega
 | a :: l,j+1,h=>by
   have J:=h.nd
   simp only [zF,nK] at J
   have hl:OwnL N N1 l:=⟨J.2.1,h.fl.2,λb hb=>h.lo b (by simp only [zF,oK];exact .inr hb),λb hb=>h.hi b (by simp only [zF,oK];exact .inr hb)⟩
   have Y:=zKz I h1 h2 h3 (l:=l) (j:=j) hl
   simp only [mu]
   refine ⟨?_,⟨h.fl.1,Y.fl⟩,λb hb=>?_,λb hb=>?_⟩
   ·simp only [zF,nK]
    refine ⟨J.1,Y.nd,λu U v hv O=>?_⟩
    rcases zIF hv with hv | hv
    ·exact J.2.2 u U v hv O
    ·have:=I.lo v hv
     have:=h.hi u (by simp only [zF,oK];exact .inl U)
     omega
   ·simp only [zF,oK] at hb
    rcases hb with hb | hb
    ·exact h.lo b (by simp only [zF,oK];exact .inl hb)
    ·exact Y.lo b hb
   ·simp only [zF,oK] at hb
    rcases hb with hb | hb
    ·have:=h.hi b (by simp only [zF,oK];exact .inl hb);omega
    ·exact Y.hi b hb
/-- behind four cells -/
theorem rJ {N N1 N2 N3:Nat} {x I J O U:D} {es:List D} {j:Nat} (h:OwnL N N1 ([I,J,O,U]++es)) (Y:Own N2 N3 x) (h1:N<=N2) (h2:N1<=N2) (h3:N2<=N3):OwnL N N3 ([I,J,O,U]++es.set j x):=
 zKz Y h1 h2 h3 (l:=[I,J,O,U]++es) (j:=j+4) h
theorem zAz:∀ {u v:List D},xf (u++v)->xf u/\xf v
 | [],v,h=>⟨trivial,h⟩
 | x::u,v,h=>⟨⟨h.1,(zAz h.2).1⟩,(zAz h.2).2⟩
theorem zOP {N0 N1 N3:Nat} {hd es ds:List D} {a:Option Addr} {z c:Nat} (h:OwnL N0 N1 (hd++es)) (J:Fresh N0 N3 a (.ag es::(hd++ds))) (hN:N1<=N3):OwnL N0 N3 (hd++[.sl a z es c]):=by
 obtain ⟨Y,aa⟩:=zAz h.fl
 have U:=h.nd
 rw [zG,nK] at U
 have e:zF (hd++[D.sl a z es c])=zF hd++(D.sl a z es c).foot:=by simp only [zG,zF,nD]
 have hE:∀ ad,a=some ad->ad.block∉zF es:=λad h=>J.ap ad h (.ag es) (by simp)
 have hH:∀ ad,a=some ad->ad.block∉zF hd:=λad h hc=>by
  obtain ⟨d,ab,hb⟩:=zI.1 hc
  exact J.ap ad h d (by simp [ab]) hb
 refine ⟨?_,yp Y ⟨⟨λad h=>J.off ad h,aa⟩,trivial⟩,λb hb=>?_,λb hb=>?_⟩
 ·rw [e,nK]
  refine ⟨U.1,zKA U.2.1 hE,λx hx y hy ac=>?_⟩
  subst ac
  rcases uM x hy with I | ⟨ad,I,O⟩
  ·exact U.2.2 x hx x I rfl
  ·subst O;exact hH ad I hx
 ·rw [e] at hb
  rcases oK.1 hb with hb | hb
  ·exact h.lo b (by rw [zG];exact od _ hb)
  ·rcases uM b hb with I | ⟨ad,I,O⟩
   ·exact h.lo b (by rw [zG];exact nF _ I)
   ·subst O;exact J.lo ad I
 ·rw [e] at hb
  rcases oK.1 hb with hb | hb
  ·have:=h.hi b (by rw [zG];exact od _ hb);omega
  ·rcases uM b hb with I | ⟨ad,I,O⟩
   ·have:=h.hi b (by rw [zG];exact nF _ I);omega
   ·subst O;exact J.hi ad I
theorem tj {N N1 N2:Nat} {v0 v1 v2 v3:Value} {I J O U:D} {es:List D} {a:Option Addr} {c:Nat} (h:OwnL N N1 ([I,J,O,U]++es)) (Y:Fresh N N2 a [.ag es,I,J,O,U]) (hN:N1<=N2):Own N N2 (.ag [.lit v0,.lit v1,.lit v2,.lit v3,I,J,O,U,.sl a 9 es c]):=
 zFn (y8 (y8 (y8 (y8 (zOP (hd:=[I,J,O,U]) (ds:=[]) h Y hN)))))
theorem tZ {α:Type} {R:α->D->Prop}:∀ {l:List α} {es:List D} {t:α} {d:D} {j:Nat},All2 R l es->R t d->All2 R (l.set j t) (es.set j d)
 | [],es,t,d,j,h,_=>by cases h;exact rfl
 | x::l,es,t,d,0,h,I=>by
   obtain ⟨y,ys,rfl,O,J⟩:=h
   exact ⟨_,_,rfl,I,J⟩
 | x::l,es,t,d,j+1,h,I=>by
   obtain ⟨y,ys,rfl,O,J⟩:=h
   exact ⟨_,_,rfl,O,tZ J I⟩
theorem zNM {α:Type} {T l:List α} {i:Nat} {t:α} (O:T.length=l.length) (hi:i<l.length) (I:T[i]?=some t):(T.take i++l.drop i).set i t=T.take (i+1)++l.drop (i+1):=by
 have J:(T.take i).length=i:=by rw [nA];omega
 rw [lA _ _ (by omega),J,Nat.sub_self,mV hi,md,wK I,nX]
 rfl
theorem zKP {α:Type} {T l:List α} {i:Nat} {t:α} (hi:i<l.length) (I:l[i]?=some t) (J:T[i]?=some t):T.take i++l.drop i=T.take (i+1)++l.drop (i+1):=by
 rw [mV hi,wK J,nX]
 rw [oG hi] at I
 rw [oW I]
 rfl
theorem yK {l:List Tm} {es:List D} (h:All2 Tm.Is l es) {j:Nat} (I:j<l.length):(l.getD j tm0).Is (es.getD j default):=by
 have:=h.get (zw I)
 exact this
def zQO (f:FuncId) (args:List PV) (t:Tm):Prop:=∀ (N:Nat) (Q:QT [.ag 9]),(∀ d N',N<=N'->t.Is d->Own N N' d->Q d N')->ACalls prog f [.ag 9] args N Q
/-- puts b for x, at terms of some depth -/
def zQ8 (F:FuncId) (f:Nat):Prop:=∀ (e:Tm) (d:D) (x:ByteArray) (b:Tm) (I:D),e.Is d->b.Is I->e.dp<=f->e.Z->b.Z->zQO F [.dg 9 d,.str x,.dg 9 I] (e.sub f x b)
theorem zMD {s:ByteArray} (hs:s.size<=4611686018427387904):(tw s).Is (.ag [.j 1,.t s,.t (bytes []),.j 0,.j 0,.sl none 2 [] 0,.j 0,.sl none 2 [] 0,.sl none 9 [] 0]):=
 Tm.is_mk.2 ⟨_,_,_,_,_,_,_,rfl,⟨hs,by decide,Ty.is_mk.2 ⟨_,_,_,rfl,by simp,rfl⟩,Ty.is_mk.2 ⟨_,_,_,rfl,by simp,rfl⟩⟩,by simp,rfl⟩
theorem zFj {l:List ByteArray} (h:l.length<=8796093022208):(fresh l).size<=4611686018427387904:=by
 obtain ⟨k,e,_,I,_,_⟩:=qC l
 rw [e]
 have:=zLj k (by omega)
 omega
theorem zNw {f:Nat} (hS:zQ8 105 f) {k n0:Int} {nm ot:ByteArray} {ty re:Ty} {l:List Tm} {d:D} (hd:(Tm.mk k nm ot n0 ty re l).Is d) (hG:(Tm.mk k nm ot n0 ty re l).G) {n j:Nat} (hn:l.length=n) (am:yG k n=(j:Int))
  {p:Tm} (hp:l.getD j tm0=p) (ao:p.dp<=f) (hc:p.Z) (old x:ByteArray) (fb:List ByteArray) (bp:fb.length<=2199023255552) (a:Option Addr) (c:Nat) {I:ByteArray} (Y:fresh (fb++(p.fv++([x]++bdN k nm ot n)))=I) (N:Nat)
  (Q:QT [.pk,.i,.str,.str,.i,.dc,.dc,.dc,.dc,.row 29 9]) (hQ:u7 (.mk k (if nm=old then I else nm) (if nm=old then ot else I) n0 ty re (l.set j (p.sub f old (tw I)))) N Q) :
  ACalls prog 149 [.pk,.i,.str,.str,.i,.dc,.dc,.dc,.dc,.row 29 9] [.dg 9 d,.j (j:Int),.str old,.sv a 0 (zA fb) c,.str x] N Q:=by
 subst hn
 obtain ⟨t0,t1,r0,r1,a8,es,c8,rfl,hh,bc,aj⟩:=Tm.is_mk.1 hd
 have hl:=aj.len
 obtain ⟨g1,_⟩:=vQ (k:=k) (n:=l.length) (by omega)
 rw [am,oH] at g1
 have ah:=yK aj g1
 rw [hp] at ah
 have bq:=Tm.fv_wd p
 have aq:=hc.c
 have bt:=qt k nm ot l.length
 have ai:(fb++(p.fv++([x]++bdN k nm ot l.length))).length<=8796093022208:=by simp only [oI,oM,oQ];omega
 have aa:zI5 [fb,p.fv,[x],bdN k nm ot l.length]=fb++(p.fv++([x]++bdN k nm ot l.length)):=by simp [zI5]
 have O:I.size<=4611686018427387904:=Y ▸ zFj ai
 refine zEy N _ _ old a _ c x Q λ_ _ N1 bv=>zJo (n:=l.length) (by omega) N1 _ λa1 c1 N2 bw _ _ _=>⟨_,_,_,rfl,⟨by omega,by omega⟩,λN3 bz=>?_⟩
 rw [oH]
 refine vT p _ ah aq N3 _ λc2 N4 b1 _ _=>⟨⟨rfl,rfl⟩,λa2 N5 b2 _=>⟨⟨rfl,rfl⟩,λa3 N6 b3 _=>⟨⟨rfl,rfl⟩,λa4 _ N7 b4 ak=>?_⟩⟩⟩
 have au:All2 IsW [fb,p.fv,[x],bdN k nm ot l.length] [.sl a 0 (zA fb) c,.sl a2 0 (zA p.fv) c2,.sl a3 0 [.t x] 1,.sl a1 0 (zA (bdN k nm ot l.length)) c1]:=
  ⟨_,_,rfl,⟨_,_,rfl⟩,_,_,rfl,⟨_,_,rfl⟩,_,_,rfl,⟨_,_,rfl⟩,_,_,rfl,⟨_,_,rfl⟩,rfl⟩
 refine zKb au (by simp) (by rw [aa];exact ai) a4 4 N7 _ λa5 c5 N8 b5 aw _=>⟨w9 ak aw,λ_ N9 b6=>?_⟩
 rw [aa]
 refine zCV _ ai a5 c5 N9 _ λb7 bd _ ax bg=>?_
 rw [Y]
 refine sY _ _ hd hG ax _ ?_
 simp only [u7] at hQ ⊢
 intro x4 x5 x6 x7 al c' b8 bh J ab ay _ _
 have b9:=ab.len
 refine ⟨_,_,_,rfl,⟨by omega,by omega⟩,λaz bi=>zI1 az I _ λca bj _ _ a6 bm=>?_⟩
 refine hS p _ old (tw I) _ ah (zMD O) ao hc (zPu _) a6 _ λdx a7 bn hx ba _ _=>⟨⟨by omega,by omega,by omega⟩,by omega,_,rfl,?_⟩
 have ac:All2 Tm.Is (l.set j (p.sub f old (tw I))) (al.set (0+j) dx):=by rw [o6];exact tZ ab hx
 have ae:OwnL N a7 ([x4,x5,x6,x7]++al.set (0+j) dx):=rJ (ay.mono (by omega) (oD _)) ba (by omega) (by omega) (by omega)
 refine Br.str (λh=>⟨⟨by simp,trivial⟩,λbb U=>?_⟩) λh=>⟨⟨by simp,trivial⟩,λbb U=>?_⟩
 ·rw [if_pos h,if_pos h] at hQ
  exact hQ _ _ _ _ _ _ _ (by omega) ⟨O,J.ot,J.ty,J.re⟩ ac (ae.mono (oD _) U)
 ·rw [if_neg h,if_neg h] at hQ
  exact hQ _ _ _ _ _ _ _ (by omega) ⟨J.nm,O,J.ty,J.re⟩ ac (ae.mono (oD _) U)
/-- a node's parts, each put through; the node anew -/
theorem zNz {f:Nat} (hS:zQ8 105 f) {k n0:Int} {nm ot:ByteArray} {ty re:Ty} {l:List Tm} {d:D} (hd:(Tm.mk k nm ot n0 ty re l).Is d) (hc:(Tm.mk k nm ot n0 ty re l).Z) (hp:∀ y∈l,y.dp<=f)
  (x:ByteArray) {b:Tm} {O:D} (hb:b.Is O) (ah:b.Z) (ad J:Addr) (N:Nat) (Q:QT [.pk,.i,.str,.str,.i,.dc,.dc,.dc,.dc,.row 29 9])
  (hQ:u7 (.mk k nm ot n0 ty re (l.map λt=>t.sub f x b)) N Q) :
  ACalls prog 61 [.pk,.i,.str,.str,.i,.dc,.dc,.dc,.dc,.row 29 9] [.dg 9 d,.fn 146 [.pd ad 0 (.t x),.pd J 9 O]] N Q:=by
 obtain ⟨t0,t1,r0,r1,a,es,c,rfl,hh,U,Y⟩:=Tm.is_mk.1 hd
 have hl:=Y.len
 obtain ⟨q1,q2,q3,_⟩:=hc.g
 simp only [u7] at hQ
 refine si N _ ad _ J _ Q λ_=>⟨_,_,_,rfl,?_⟩
 refine up Y U (λi xs=>∀ (done:List D) (q N':Nat),N<=N'->All2 Tm.Is ((l.map λt=>t.sub f x b).take i) done->done.length=i->OwnL N N' done ->
  yV Q N ad (.t x) J O done.length q a es c es.length i (.ag [.j k,.t nm,.t ot,.j n0,t0,t1,r0,r1,.sl a 9 es c]) 0 (bytes []) (bytes []) 0 0 none [] 0 0 none [] 0 none [] 0 done q N') ?_ ?_ [] 0 N (oD _) rfl rfl zGQ
 ·intro i ai hi done q N' aj hd aa ho
  refine vK _ _ _ _ _ _ _ _ _ _ _ _ _ _ _ _ _ _ _ _ _ _ _ _ _ _ _ _ _ _ _ _ ?_
  rw [oq (by simp;omega)] at hd
  rw [ai]
  refine ⟨⟨rfl,rfl⟩,λa1 a6 _ N4 ak ab=>?_⟩
  refine zJE hh q1 q2 a1 done q N4 _ λx4 x5 x6 x7 N5 al am ac _=>⟨rfl,?_⟩
  have off:∀ y∈[x4,x5,x6,x7],Off [a1] y:=λy hy a' ao ad aq hc=>by
   have h1:=ab a' ao ad aq
   have h2:=ac.lo _ (zI.2 ⟨y,hy,hc⟩)
   omega
  refine ⟨off x4 (by simp),off x5 (by simp),off x6 (by simp),off x7 (by simp),⟨rfl,rfl⟩,λN6 au=>?_⟩
  exact hQ _ _ _ _ _ _ _ (by omega) am hd (zBg (N1:=N4) (ac.mono (oD _) (by omega)) (ho.mono (oD _) ak) (by omega) (by omega))
 ·intro i y xs I _ aw done q N' aj hd aa ho
  have a7:=I.b
  have ax:=hp y I.m
  have ay:=hc.mem y I.m
  have ae:(l.map λt=>t.sub f x b)[i]?=some (y.sub f x b):=by rw [oE,I.g];rfl
  refine vK _ _ _ _ _ _ _ _ _ _ _ _ _ _ _ _ _ _ _ _ _ _ _ _ _ _ _ _ _ _ _ _ ?_
  rw [I.lt,oH,I.w]
  refine ⟨⟨by omega,by omega⟩,λN5 al=>rg N5 _ ad _ J O _ λ_=>⟨_,rfl,λN6 au=>hS y _ x b O I.r hb ax ay ah N6 _ λdx N7 a8 hx az _ _ N8 ba _ _=>⟨⟨rfl,rfl⟩,by unfold zB;rw [oI];simp only [oM,oQ];omega,λc3=>?_⟩⟩⟩
  refine aw _ _ _ (by omega) (by rw [wK ae];exact hd.snoc hx) (by simp [aa]) ?_
  exact (xz ho (xR (az.mono (by omega) (oD _))) (N1:=N') (by omega) (by omega)).mono (oD _) (by omega)
theorem zFV:∀ f,zQ8 105 f
 | 0=>λe d x b db _ _ bj=>absurd (Tm.dp_pos e) (by omega)
 | f + 1 => λe d x b db he hb bj hc ak N Q U=>by
   have ih:=zFV f
   have hG:=hc.g
   have bm:=ak.g
   have cx:=ak.c
   cases e with
   | mk k nm ot n0 ty re l=>
   have cy:=hc
   simp only [Tm.dp] at bj
   have hp:∀ y∈l,y.dp<=f:=λy hy=>r9.1 (m8 bj) y hy
   have b7:=hc.mem
   obtain ⟨t0,t1,r0,r1,a,es,c,rfl,hh,b8,bn⟩:=Tm.is_mk.1 he
   have hl:=bn.len
   have dl:=hG.2.2.1
   simp only [Tm.sub] at U
   refine zB4 N _ x db Q λ_ _=>⟨_,rfl,Br.beq (λh1=>⟨_,rfl,Br.str (λh2 N1 a7=>?_) λh2 N1 a7=>?_⟩) λh1 N1 a7=>zJo (n:=l.length) (by omega) N1 _ λa1 c1 N2 b9 _ _ _=>Br.dec (λal=>?_) λca N3 am=>?_⟩
   ·rw [if_pos h1,if_pos h2] at U
    refine sY b db hb bm N1 _ ?_
    cases b with
    | mk k2 dm dn n2 dq dr l2=>
    simp only [u7]
    intro x4 x5 x6 x7 ao c' N2 b9 Y J aa _ _
    have aq:=J.len
    have dt:=bm.2.2.1
    exact ⟨⟨trivial,trivial⟩,⟨trivial,trivial⟩,λa2 N3 am hf N4 au=>U _ _ (by omega) (Tm.is_mk.2 ⟨_,_,_,_,_,_,_,rfl,Y,by omega,J⟩) ((tj (aa.mono a7 (oD _)) hf am).mono (oD _) au)⟩
   ·rw [if_pos h1,if_neg h2] at U
    refine sY _ _ he hG N1 _ ?_
    simp only [u7]
    intro x4 x5 x6 x7 ao c' N2 b9 Y J aa _ _
    have aq:=J.len
    exact ⟨⟨trivial,trivial⟩,⟨trivial,trivial⟩,λa2 N3 am hf N4 au=>U _ _ (by omega) (Tm.is_mk.2 ⟨_,_,_,_,_,_,_,rfl,Y,by omega,J⟩) ((tj (aa.mono a7 (oD _)) hf am).mono (oD _) au)⟩
   ·rw [if_neg h1,if_pos al] at U
    refine λad _ _ bp _ _ N3 am ac=>zNz ih he cy hp x hb ak ad bp N3 _ ?_
    simp only [u7]
    intro x4 x5 x6 x7 ao c' N4 au Y J aa _
    have aq:=J.len
    simp only [nC] at aq
    have off:∀ y∈[x4,x5,x6,x7],Off [some ad,some bp] y:=λy hy a' ah ab ai hc=>by
     have h1:=ac a' ah ab ai
     have h2:=aa.lo _ (zI.2 ⟨y,od _ hy,hc⟩)
     omega
    have aw:Off [some ad,some bp] (.ag ao):=λa' ah ab ai hc=>by
     have h1:=ac a' ah ab ai
     have h2:=aa.lo ab.block (by rw [zG];exact nF _ (by simpa only [D.foot] using hc))
     omega
    refine ⟨off x4 (by simp),off x5 (by simp),off x6 (by simp),off x7 (by simp),aw,λ_=>⟨⟨trivial,trivial⟩,⟨trivial,trivial⟩,λa2 N5 ax hf N6 ay=>U _ _ (by omega) (Tm.is_mk.2 ⟨_,_,_,_,_,_,_,rfl,Y,by omega,J⟩) ((tj (aa.mono (by omega) (oD _)) hf ax).mono (oD _) ay)⟩⟩
   ·rw [if_neg h1,if_neg ca] at U
    refine sY _ _ he hG N3 _ ?_
    simp only [u7]
    intro x4 x5 x6 x7 ao c' N4 au Y J aa _ _
    have aq:=J.len
    obtain ⟨g1,g2⟩:=vQ ca
    have du:=qt k nm ot l.length
    obtain ⟨j,cc⟩:∃ j:Nat,yG k l.length=(j:Int):=⟨_,g2.symm⟩
    rw [cc] at g1 U ⊢
    rw [oH] at g1 U
    generalize cd:l.getD j tm0=p at U
    have bq:l[j]?=some p:=cd ▸ zw g1
    have dv:=hp p (oB bq)
    have a8:=b7 p (oB bq)
    have ce:=a8.c
    have cf:=yK bn g1
    rw [cd] at cf
    generalize hg:(λt:Tm=>t.sub f x b)=g at U
    have cz:∀ y∈l,(g y).G:=λy hy=>by rw [<-hg];exact zOC f y x b (zj hG.2.2.2 hy) bm
    have dw:=zE (bdN k nm ot l.length)
    refine ⟨_,_,_,rfl,?_⟩
    have fin:∀ (ba bb:ByteArray) (y4 y5 y6 y7:D) (L:List Tm) (r:List D) (q N':Nat),N<=N'->L.length=l.length->Tm.Hd ba bb ty re y4 y5 y6 y7->All2 Tm.Is L r->OwnL N N' ([y4,y5,y6,y7]++r) ->
      (∀ d' N'',N<=N''->(Tm.mk k ba bb n0 ty re L).Is d'->Own N N'' d'->Q d' N'')->∀ a2 N5,N'<=N5->Fresh N N5 a2 [.ag r,y4,y5,y6,y7]->∀ N6,N5<=N6->Q (.ag [.j k,.t ba,.t bb,.j n0,y4,y5,y6,y7,.sl a2 9 r q]) N6:=
     λba bb y4 y5 y6 y7 L r q N' aj hL hH hA hO hq a2 N5 ax hf N6 ay=>by
      have ae:=hA.len
      exact hq _ _ (by omega) (Tm.is_mk.2 ⟨_,_,_,_,_,_,_,rfl,hH,by omega,hA⟩) ((tj hO hf ax).mono (oD _) ay)
    refine up bn b8 (λi xs=>∀ (r:List D) (q N':Nat),N<=N'->All2 Tm.Is (((l.map g).set j p).take i++l.drop i) r->r.length=l.length->OwnL N N' ([x4,x5,x6,x7]++r) ->
     yJ Q N a1 (zA (bdN k nm ot l.length)) c1 (j:Int) a es c es.length i (.ag [.j k,.t nm,.t ot,.j n0,t0,t1,r0,r1,.sl a 9 es c]) x db 0 (bytes []) (bytes []) 0 0 none [] 0 0 none [] 0 none [] 0 k nm ot n0 x4 x5 x6 x7 r.length q r q N') ?_ ?_ ao c' N4 (by omega) (by simpa using J) aq (aa.mono (by omega) (oD _))
    ·intro i al hi r q N' aj hA ae hO
     rw [oq (by simp;omega),mA (by omega),nD] at hA
     refine v8 _ _ _ _ _ _ _ _ _ _ _ _ _ _ _ _ _ _ _ _ _ _ _ _ _ _ _ _ _ _ _ _ _ _ _ _ _ _ _ _ _ _ ?_
     rw [al]
     refine λN5 ax=>ya _ (by omega) a1 c1 x N5 _ λN6 ay _=>?_
     rw [zBK]
     refine Br.dec (λhx=>⟨⟨rfl,rfl⟩,⟨rfl,rfl⟩,⟨rfl,rfl⟩,λa2 N7 c2 hf N8 cg=>?_⟩) λhx=>⟨_,_,_,rfl,⟨by omega,by omega⟩,λN7 c2=>?_⟩
     ·rw [if_pos (.inl hx)] at U
      exact fin _ _ _ _ _ _ _ _ _ N' aj (by simp) Y hA hO U a2 N7 (by omega) hf N8 cg
     ·rw [oH]
      have dz:=Tm.fv_wd p
      refine vT p _ cf ce N7 _ λc8 N8 cg _ _=>⟨⟨rfl,rfl⟩,λa9 _ N9 d3 _=>ya _ (by omega) a9 c8 x N9 _ λd4 di _=>?_⟩
      rw [zBK]
      refine Br.ndec (λbt=>⟨⟨rfl,rfl⟩,⟨rfl,rfl⟩,⟨rfl,rfl⟩,λa2 bv ch hf bw bd=>?_⟩) λbt bv ch=>?_
      ·rw [if_pos (.inr bt)] at U
       exact fin _ _ _ _ _ _ _ _ _ N' aj (by simp) Y hA hO U a2 bv (by omega) hf bw bd
      ·rw [if_neg (by rintro (h | h);exact hx h;exact h bt)] at U
       have dj:=Tm.fv_wd b
       refine vT b _ hb cx bv _ λbc bw bd _ _=>?_
       have d5:=zE b.fv
       generalize hT:rns (Tm.sub f) k l.length b.fv x (bdN k nm ot l.length) (nm,ot,p)=T at U
       refine up (yu (bdN k nm ot l.length)) (by omega) (λi xs=>∀ (s:ByteArray × ByteArray × Tm) (y4 y5 y6 y7:D) (r:List D) (q N':Nat),N<=N'->Tm.Hd s.1 s.2.1 ty re y4 y5 y6 y7->All2 Tm.Is ((l.map g).set j s.2.2) r->r.length=l.length->OwnL N N' ([y4,y5,y6,y7]++r)->LeW s.2.2 p->rns (Tm.sub f) k l.length b.fv x xs s=T ->
        yM Q N (j:Int) (zA b.fv).length bc a1 (zA (bdN k nm ot l.length)) c1 ((zA (bdN k nm ot l.length)).length:Int) i x db 0 (bytes []) (bytes []) 0 0 none [] 0 0 none [] 0 none [] 0 k s.1 s.2.1 n0 y4 y5 y6 y7 r.length q (zA b.fv) bc r q N') ?_ ?_ (nm,ot,p) x4 x5 x6 x7 r q bw (by omega) Y hA ae (hO.mono (oD _) (by omega)) LeW.rfl hT
       ·intro i al hi s y4 y5 y6 y7 r q N' aj hH hA ae hO O hs
        simp only [rns] at hs
        subst hs
        refine uV _ _ _ _ _ _ _ _ _ _ _ _ _ _ _ _ _ _ _ _ _ _ _ _ _ _ _ _ _ _ _ _ _ _ _ _ _ _ _ _ _ _ ?_
        rw [al]
        refine ⟨⟨by omega,by omega,by omega⟩,by omega,λbz cj=>?_⟩
        have bg:=yK hA (j:=j) (by simpa using g1)
        have b1:((l.map g).set j s.2.2).getD j tm0=s.2.2:=by rw [oA,nI (by simpa using g1)];rfl
        rw [b1] at bg
        have ck:=O.le.c
        have cm:=O.le.d
        rw [oH,o6]
        refine ih s.2.2 _ x b db bg hb (by omega) (O.z a8) ak bz _ λdx b2 cn hx b3 _ _=>?_
        have co:All2 Tm.Is ((l.map g).set j (s.2.2.sub f x b)) (r.set j dx):=by have:=tZ (j:=j) hA hx;rwa [List.set_set] at this
        have cp:OwnL N b2 ([y4,y5,y6,y7]++r.set j dx):=rJ hO b3 (by omega) (by omega) (by omega)
        exact ⟨⟨by omega,by omega,by omega⟩,by omega,⟨by simp,rfl⟩,⟨by simp,rfl⟩,⟨by simp,rfl⟩,⟨by simp,rfl⟩,⟨by simp,rfl⟩,λa2 cq bh hf b4 bi=>fin _ _ _ _ _ _ _ _ _ b2 (by omega) (by simp) hH co cp U a2 cq bh hf b4 bi⟩
       ·intro i old xs I _ az s y4 y5 y6 y7 r q N' aj hH hA ae hO O hs
        have c3:=I.b
        have hr:=I.r
        simp only [rns] at hs
        refine uV _ _ _ _ _ _ _ _ _ _ _ _ _ _ _ _ _ _ _ _ _ _ _ _ _ _ _ _ _ _ _ _ _ _ _ _ _ _ _ _ _ _ ?_
        rw [I.lt,oH,I.w,hr]
        refine ⟨⟨by omega,by omega⟩,old,rfl,⟨rfl,rfl⟩,λc4 _ bz cj _=>ya _ (by omega) c4 bc old bz _ λb2 cn _=>?_⟩
        rw [zBK]
        refine Br.dec (λho=>⟨⟨rfl,rfl⟩,⟨rfl,rfl⟩,λc5 cq bh _=>⟨⟨rfl,rfl⟩,λb5 _ b4 bi ac=>?_⟩⟩) λho=>?_
        ·have ck:=O.le.c
         have cm:=O.le.d
         have c6:(Tm.mk k s.1 s.2.1 n0 ty re ((l.map g).set j s.2.2)).Is (.ag [.j k,.t s.1,.t s.2.1,.j n0,y4,y5,y6,y7,.sl c5 9 r q]):=Tm.is_mk.2 ⟨_,_,_,_,_,_,_,rfl,hH,by omega,hA⟩
         have b1:((l.map g).set j s.2.2).getD j tm0=s.2.2:=by rw [oA,nI (by simpa using g1)];rfl
         have c7:(Tm.mk k s.1 s.2.1 n0 ty re ((l.map g).set j s.2.2)).G:=⟨hG.1,hG.2.1,by simpa using hG.2.2.1,zBE λy hy=>by
          rcases nE hy with hy | rfl
          ·obtain ⟨z,hz,rfl⟩:=oR.1 hy
           exact cz z hz
          ·exact O.le.g a8.g⟩
         refine zNw ih c6 c7 (n:=l.length) (by simp) cc b1 (by omega) (O.z a8) old x b.fv (by omega) b5 bc rfl b4 _ ?_
         simp only [u7]
         intro z4 z5 z6 z7 da c9 d6 dk de a6 b6 _
         have off:∀ y∈[z4,z5,z6,z7],Off [b5] y:=λy hy a' ah ab ai hc=>by
          have h1:=ac a' ah ab ai
          have h2:=b6.lo _ (zI.2 ⟨y,od _ hy,hc⟩)
          omega
         have aw:Off [b5] (.ag da):=λa' ah ab ai hc=>by
          have h1:=ac a' ah ab ai
          have h2:=b6.lo ab.block (by rw [zG];exact nF _ (by simpa only [D.foot] using hc))
          omega
         rw [List.set_set] at a6
         have cr:=a6.len
         simp only [nc,nC] at cr
         refine ⟨off z4 (by simp),off z5 (by simp),off z6 (by simp),off z7 (by simp),aw,λ_=>?_⟩
         have e1:rn1 (Tm.sub f) k l.length b.fv x old s=(if s.1=old then fresh (b.fv++(s.2.2.fv++([x]++bdN k s.1 s.2.1 l.length))) else s.1,if s.1=old then s.2.1 else fresh (b.fv++(s.2.2.fv++([x]++bdN k s.1 s.2.1 l.length))),s.2.2.sub f old (tw (fresh (b.fv++(s.2.2.fv++([x]++bdN k s.1 s.2.1 l.length)))))):=by
          unfold rn1
          rw [if_pos ho]
          split<;>rfl
         rw [e1] at hs
         exact az _ _ _ _ _ _ _ _ (by omega) de a6 cr (b6.mono (by omega) (oD _)) ((rj f _ _ _ (by omega)).trans O) hs
        ·have e1:rn1 (Tm.sub f) k l.length b.fv x old s=s:=by unfold rn1;rw [if_neg ho]
         rw [e1] at hs
         exact az _ _ _ _ _ _ _ _ (by omega) hH hA ae (hO.mono (oD _) (by omega)) O hs
    ·intro i y xs I _ az r q N' aj hA ae hO
     have c3:=I.b
     have df:=hp y I.m
     have dh:=b7 y I.m
     have ct:i<l.length:=(oC.1 I.g).1
     refine v8 _ _ _ _ _ _ _ _ _ _ _ _ _ _ _ _ _ _ _ _ _ _ _ _ _ _ _ _ _ _ _ _ _ _ _ _ _ _ _ _ _ _ ?_
     rw [I.lt,oH,I.w]
     refine ⟨⟨by omega,by omega⟩,Br.bne (λd7 N5 ax=>ih y _ x b db I.r hb df dh ak N5 _ λdx N6 ay hx b3 _ _=>⟨⟨by omega,by omega,by omega⟩,by omega,?_⟩) λheq=>?_⟩
     ·have hT:((l.map g).set j p)[i]?=some (y.sub f x b):=by
       rw [nB (by omega),oE,I.g,<-hg];rfl
      rw [o6]
      have h2:=tZ (j:=i) hA hx
      rw [zNM (by simp) ct hT] at h2
      have h3:=az (r.set i dx) q N6 (by omega) h2 (by simpa using ae) (rJ hO b3 (by omega) (by omega) (by omega))
      simpa using h3
     ·have cw:i=j:=by omega
      have hyp:y=p:=by
       have:=I.g
       rw [cw,bq] at this
       exact (oW this).symm
      have hT:((l.map g).set j p)[i]?=some y:=by rw [cw,hyp,nI (by simpa using g1)]
      rw [zKP ct I.g hT] at hA
      exact az r q N' aj hA ae hO
theorem zLD (s:ByteArray) (l:List ByteArray):decide (zBl (λx=>decide (x=s)) l 0≥0)=decide (s∈l):=by
 have h:=zDH s l
 rw [mM,mG,mG] at h ⊢
 constructor
 ·intro J;exact mK.1 λI=>by have:=h.2 I;omega
 ·intro J;exact Int.not_lt.1 λI=>h.1 I J
/-- what a node binds, away from some names -/
theorem zNA {f:Nat} (hS:zQ8 122 f) {k n0:Int} {nm ot:ByteArray} {ty re:Ty} {l:List Tm} {d:D} (hd:(Tm.mk k nm ot n0 ty re l).Is d) (hG:(Tm.mk k nm ot n0 ty re l).G) {j:Nat} (bd:yG k l.length=(j:Int))
  {p:Tm} (hp:l.getD j tm0=p) (cr:p.dp<=f) (hc:p.Z) (x:ByteArray) (fb:List ByteArray) (ct:fb.length<=2199023255552) (a:Option Addr) (c:Nat) (N:Nat) {T:ByteArray × ByteArray × Tm} (hT:rns (Tm.sub f) k l.length fb x (bdN k nm ot l.length) (nm,ot,p)=T)
  (Q:QT [.pk,.i,.str,.str,.i,.dc,.dc,.dc,.dc,.row 29 9]) (hQ:u7 (.mk k T.1 T.2.1 n0 ty re (l.set j T.2.2)) N Q) :
  ACalls prog 156 [.pk,.i,.str,.str,.i,.dc,.dc,.dc,.dc,.row 29 9] [.dg 9 d,.j (j:Int),.str x,.sv a 0 (zA fb) c] N Q:=by
 obtain ⟨t0,t1,r0,r1,a8,es,c8,rfl,hh,cc,bg⟩:=Tm.is_mk.1 hd
 have hl:=bg.len
 obtain ⟨g1,_⟩:=vQ (k:=k) (n:=l.length) (by omega)
 rw [bd,oH] at g1
 have cw:=qt k nm ot l.length
 have cx:=zE (bdN k nm ot l.length)
 have cy:=hG.2.2.1
 refine zEa N _ _ x a _ c Q λ_ _ N1 bh=>tB _ _ hd hG N1 _ ?_
 simp only [u7] at hQ ⊢
 intro x4 x5 x6 x7 bi c' N2 cz bj ai bm _ _ N3 c2
 refine zAM (n:=l.length) (by omega) N3 _ λa1 c1 N4 c3 _ _ _=>?_
 have c4:=ai.len
 have al:l.set j p=l:=by
  apply o8
  intro i
  rw [nJ]
  split
  ·rename_i hi
   subst hi
   rw [zw g1,hp]
  ·rfl
 refine up (yu (bdN k nm ot l.length)) (by omega) (λi xs=>∀ (s:ByteArray × ByteArray × Tm) (y4 y5 y6 y7:D) (r:List D) (q N':Nat),N<=N'->Tm.Hd s.1 s.2.1 ty re y4 y5 y6 y7->All2 Tm.Is (l.set j s.2.2) r->OwnL N N' ([y4,y5,y6,y7]++r)->LeW s.2.2 p->rns (Tm.sub f) k l.length fb x xs s=T ->
  (i=0->s=(nm,ot,p))->(0<i->∀ o∈xs,o∈fb->s.1≠o) ->
  yR Q N j x a (zA fb) c a1 (zA (bdN k nm ot l.length)) c1 i 0 (bytes []) (bytes []) 0 0 none [] 0 0 none [] 0 none [] 0 k s.1 s.2.1 n0 y4 y5 y6 y7 r.length q r q N') ?_ ?_ (nm,ot,p) x4 x5 x6 x7 bi c' N4 (by omega) bj (by rw [al];exact ai) (bm.mono bh (by omega)) LeW.rfl hT (λ_=>rfl) (λh=>absurd h (by omega))
 ·intro i bn hi s y4 y5 y6 y7 r q N' bp hH hA hO U hs _ _
  simp only [rns] at hs
  subst hs
  refine sQ _ _ _ _ _ _ _ _ _ _ _ _ _ _ _ _ _ _ _ _ _ _ _ _ _ _ _ _ _ _ _ _ _ _ _ _ _ _ _ ?_
  rw [bn]
  exact ⟨⟨rfl,rfl⟩,λN5 aq=>hQ _ _ _ _ _ _ _ (by omega) hH hA (hO.mono (oD _) aq)⟩
 ·intro i old xs I au am s y4 y5 y6 y7 r q N' bp hH hA hO U hs h0 h1
  have c5:=I.b
  have hr:=I.r
  have bq:=hA.len
  simp only [nc] at bq
  simp only [rns] at hs
  refine sQ _ _ _ _ _ _ _ _ _ _ _ _ _ _ _ _ _ _ _ _ _ _ _ _ _ _ _ _ _ _ _ _ _ _ _ _ _ _ _ ?_
  rw [I.lt,oH,I.w,hr]
  refine ⟨⟨by omega,by omega⟩,old,rfl,λN5 aq=>yx fb (by omega) a c old N5 _ λN6 da _=>?_⟩
  show Br (decide (zBl (λx=>decide (x=old)) fb 0<0)) _ _
  rw [zDH]
  have hold:i=0->s.1=old:=λhi=>by
   subst hi
   have h2:=I.g
   rw [h0 rfl]
   unfold bdN at h2
   (repeat' split at h2)<;>simp at h2<;>exact h2
  have aw:0<i->old∈fb->s.1≠old:=λhi Y=>h1 hi old (by simp) Y
  have aa:∀ s':ByteArray × ByteArray × Tm,rn1 (Tm.sub f) k l.length fb x old s=s'->0<i+1->∀ o∈xs,o∈fb->s'.1≠o:=λs' bt _ o Y bv=>by
   have ax:i=0:=by
    have h3:=oO.1 Y
    obtain ⟨m,hm⟩:=h3
    rw [<-au,nH] at hm
    have:=(oC.1 hm).1
    omega
   have bw:=h0 ax
   subst ax
   have bz:o∈bdN k nm ot l.length:=by rw [<-au] at Y;exact om Y
   have ab:=hold rfl
   subst bt
   unfold rn1
   by_cases ac:old∈fb
   ·have b1:=zNH (fb++(s.2.2.fv++([x]++bdN k s.1 s.2.1 l.length)))
    rw [if_pos ac,if_pos ab]
    intro hc
    refine b1 ?_
    simp only at hc
    rw [hc,bw]
    simp [bz]
   ·rw [if_neg ac]
    intro hc
    exact ac (by rw [<-ab,hc];exact bv)
  refine Br.dec (λY=>?_) λY=>?_
  ·have e1:rn1 (Tm.sub f) k l.length fb x old s=s:=by unfold rn1;rw [if_neg Y]
   have J:=aa s e1
   rw [e1] at hs
   exact am _ _ _ _ _ _ _ _ (by omega) hH hA (hO.mono (oD _) (by omega)) U hs (λh=>absurd h (by omega)) J
  ·have Y:old∈fb:=mK.1 Y
   have ae:=yK hA (j:=j) (by simpa using g1)
   have b2:(l.set j s.2.2).getD j tm0=s.2.2:=by rw [oA,nI (by simpa using g1)];rfl
   rw [b2] at ae
   have ay:=U.z hc
   have db:=ay.c
   have de:=Tm.fv_wd s.2.2
   have df:=zEL fb s.2.2.fv
   have cd:=qt k s.1 s.2.1 l.length
   have ce:=zE (bdN k s.1 s.2.1 l.length)
   have cf:=U.le.d
   refine ⟨⟨rfl,rfl⟩,λa5 _ N7 dh az=>zAM (n:=l.length) (by omega) N7 _ λa6 c6 N8 di b3 _=>⟨w9 az b3,λ_=>⟨⟨by omega,by omega,by omega⟩,by omega,λN9 dj=>?_⟩⟩⟩
   rw [oH,o6]
   refine vS s.2.2 _ ae (by omega) N9 _ λa7 c7 dk cg _ _ _ b4 ch=>?_
   refine tH fb s.2.2.fv (by omega) (by omega) a a7 c c7 b4 _ λc8 dl cj _ _=>?_
   rw [vB,zFk]
   have ba:(u6 fb s.2.2.fv++[x]++bdN k s.1 s.2.1 l.length).length<=8796093022208:=by simp only [oI,oM,oQ];omega
   have bb:fresh (u6 fb s.2.2.fv++[x]++bdN k s.1 s.2.1 l.length)=fresh (fb++(s.2.2.fv++([x]++bdN k s.1 s.2.1 l.length))):=zOQ λy=>by simp [zHk,or_assoc]
   refine ⟨⟨rfl,rfl⟩,pA (by omega),λc9=>⟨⟨rfl,rfl⟩,by unfold zB;rw [oI,zE,zE,oI,oM,oQ];omega,λb5=>⟨⟨rfl,rfl⟩,λb6 _ b7 ck _=>?_⟩⟩⟩
   refine zCF _ ba b6 b5 b7 _ λdm cm _=>⟨⟨by omega,by omega,by omega⟩,by omega,⟨by omega,by omega⟩,old,rfl,λb8 cn=>?_⟩
   have ah:=zFj ba
   rw [bb] at ah ⊢
   have e1:rn1 (Tm.sub f) k l.length fb x old s=(if s.1=old then fresh (fb++(s.2.2.fv++([x]++bdN k s.1 s.2.1 l.length))) else s.1,if s.1=old then s.2.1 else fresh (fb++(s.2.2.fv++([x]++bdN k s.1 s.2.1 l.length))),s.2.2.sub f old (tw (fresh (fb++(s.2.2.fv++([x]++bdN k s.1 s.2.1 l.length)))))):=by
    unfold rn1
    rw [if_pos Y]
    split<;>rfl
   have J:=aa _ e1
   rw [e1] at hs
   generalize fresh (fb++(s.2.2.fv++([x]++bdN k s.1 s.2.1 l.length)))=O at ah hs J ⊢
   refine zBm b8 O _ λdn co _ _ b9 cp=>?_
   refine hS s.2.2 _ old (tw O) _ ae (zMD ah) (by omega) ay (zPu _) b9 _ λdx ao cq hx ca _ _=>⟨⟨by omega,by omega,by omega⟩,by omega,?_⟩
   have aj:All2 Tm.Is (l.set j (s.2.2.sub f old (tw O))) (r.set j dx):=by have:=tZ (j:=j) hA hx;rwa [List.set_set] at this
   have ak:OwnL N ao ([y4,y5,y6,y7]++r.set j dx):=rJ hO ca (by omega) (by omega) (by omega)
   have bc:(r.set j dx).length=r.length:=nc
   refine Br.beq (λhi=>?_) λhi=>?_
   ·have hi:i=0:=by omega
    rw [if_pos (hold hi),if_pos (hold hi)] at hs J
    have:=am (O,s.2.1,s.2.2.sub f old (tw O)) y4 y5 y6 y7 (r.set j dx) q ao (by omega) ⟨ah,hH.ot,hH.ty,hH.re⟩ aj ak ((rj f _ _ _ (by omega)).trans U) hs (λh=>absurd h (by omega)) J
    rwa [bc] at this
   ·have hi:0<i:=by omega
    rw [if_neg (aw hi Y),if_neg (aw hi Y)] at hs J
    have:=am (s.1,O,s.2.2.sub f old (tw O)) y4 y5 y6 y7 (r.set j dx) q ao (by omega) ⟨hH.nm,ah,hH.ty,hH.re⟩ aj ak ((rj f _ _ _ (by omega)).trans U) hs (λh=>absurd h (by omega)) J
    rwa [bc] at this
/-- the parts, each put through, but for one -/
theorem pz {f:Nat} (hS:zQ8 122 f) {k n0:Int} {nm ot:ByteArray} {ty re:Ty} {L Lf:List Tm} {x:ByteArray} {b:Tm} {db:D} (hb:b.Is db) (ak:b.Z) (hL:∀ y∈L,y.dp<=f/\y.Z) (ay:L.length<=1073741824) {at_:Int} {hid:Bool}
  (al:Lf.length=L.length) (hf:∀ (i:Nat) (y:Tm),L[i]?=some y->Lf[i]?=some (if hid=true/\(i:Int)=at_ then y else y.sub f x b)) {y4 y5 y6 y7:D} (hH:Tm.Hd nm ot ty re y4 y5 y6 y7) {r:List D} (hA:All2 Tm.Is L r) (q N N':Nat) (U:N<=N') (hO:OwnL N N' ([y4,y5,y6,y7]++r))
  (Q:QT [.ag 9]) (hQ:∀ d' N'',N<=N''->(Tm.mk k nm ot n0 ty re Lf).Is d'->Own N N'' d'->Q d' N'') :
  zC Q N x at_ hid 0 db 0 (bytes []) (bytes []) 0 0 none [] 0 0 none [] 0 none [] 0 k nm ot n0 y4 y5 y6 y7 r.length q r q N':=by
 have az:=hA.len
 refine up hA (by omega) (λi xs=>∀ (O:List D) (q N':Nat),N<=N'->All2 Tm.Is (Lf.take i++L.drop i) O->O.length=r.length->OwnL N N' ([y4,y5,y6,y7]++O) ->
  zC Q N x at_ hid i db 0 (bytes []) (bytes []) 0 0 none [] 0 0 none [] 0 none [] 0 k nm ot n0 y4 y5 y6 y7 r.length q O q N') ?_ ?_ r q N' U (by simpa using hA) rfl hO
 ·intro i am hi O q N' U J ab Y
  rw [oq (by omega),mA (by omega),nD] at J
  refine um _ _ _ _ _ _ _ _ _ _ _ _ _ _ _ _ _ _ _ _ _ _ _ _ _ _ _ _ _ _ _ _ _ _ _ ?_
  rw [am]
  exact ⟨⟨by omega,rfl⟩,⟨by omega,rfl⟩,⟨by omega,rfl⟩,⟨by omega,rfl⟩,λa2 N5 ac hf N6 ae=>hQ _ _ (by omega) (Tm.is_mk.2 ⟨_,_,_,_,_,_,_,rfl,hH,by omega,J⟩) ((tj Y hf ac).mono (oD _) ae)⟩
 ·intro i y xs I _ ah O q N' U J ab Y
  have a6:=I.b
  obtain ⟨ao,aq⟩:=hL y I.m
  have ai:i<L.length:=(oC.1 I.g).1
  have aa:=hf i y I.g
  have au:y.Is (O.getD i default):=by
   refine J.get ?_
   rw [oP (by rw [nA];omega),nA,show i - min i Lf.length=0 by omega,nH]
   exact I.g
  have put:(if hid=true/\(i:Int)=at_ then y else y.sub f x b)=y.sub f x b->∀ N5,N'<=N5->ACalls prog 122 [.ag 9] [.dg 9 (List.getD O i default),.str x,.dg 9 db] N5 (λaj N6=>N5<=N6->Bel N6 aj->((0:Int)<=(i:Int)/\(i:Int)<(r.length:Int)/\i<O.length)/\i<O.length /\
    zC Q N x at_ hid ((i+1:Nat):Int) db 0 (bytes []) (bytes []) 0 0 none [] 0 0 none [] 0 none [] 0 k nm ot n0 y4 y5 y6 y7 r.length q (List.set O i aj) q N6):=λe N5 ac=>
   hS y _ x b db au hb ao aq ak N5 _ λdx N6 ae hx aw _ _=>⟨⟨by omega,by omega,by omega⟩,by omega,by
    rw [e] at aa
    have h2:=tZ (j:=i) J hx
    rw [zNM al ai aa] at h2
    exact ah (O.set i dx) q N6 (by omega) h2 (by simpa using ab) (rJ Y aw (by omega) (by omega) (by omega))⟩
  refine um _ _ _ _ _ _ _ _ _ _ _ _ _ _ _ _ _ _ _ _ _ _ _ _ _ _ _ _ _ _ _ _ _ _ _ ?_
  rw [I.lt,oH,I.w,o6]
  refine Br.bne (λax=>⟨⟨by omega,by omega,by omega⟩,by omega,put (if_neg λh=>ax h.2)⟩) λheq=>?_
  refine Br.not (λhh=>⟨⟨by omega,by omega,by omega⟩,by omega,put (if_neg λh=>by rw [hh] at h;exact absurd h.1 (by decide))⟩) λhh=>?_
  rw [if_pos ⟨hh,heq⟩] at aa
  rw [zKP ai I.g aa] at J
  exact ah O q N' U J ab Y
theorem zK6 {g:Tm->Tm} {l:List Tm} {i:Nat} {y:Tm} (h:l[i]?=some y):(l.map g)[i]?=some (g y):=by rw [oE,h];rfl
theorem zFL:∀ f,zQ8 122 f
 | 0=>λe d x b db _ _ ae=>absurd (Tm.dp_pos e) (by omega)
 | f + 1=>λe d x b db he hb ae hc U N Q J=>by
   have ih:=zFL f
   have hG:=hc.g
   have au:=U.g
   have bg:=U.c
   cases e with
   | mk k nm ot n0 ty re l=>
   simp only [Tm.dp] at ae
   have hp:∀ y∈l,y.dp<=f/\y.Z:=λy O=>⟨r9.1 (m8 ae) y O,hc.mem y O⟩
   obtain ⟨t0,t1,r0,r1,a,es,c,rfl,hh,bz,aw⟩:=Tm.is_mk.1 he
   have hl:=aw.len
   have ab:=hG.2.2.1
   have b7:=qt k nm ot l.length
   have b8:=zE (bdN k nm ot l.length)
   refine zCN N _ x db Q λ_ _=>⟨_,rfl,?_⟩
   have ax:¬(k=1/\nm=x)->(Tm.mk k nm ot n0 ty re l).sub (f+1) x b=if yG k l.length<0 then .mk k nm ot n0 ty re (l.map λt=>Tm.sub f t x b)
     else if x∈bdN k nm ot l.length\/x∉(l.getD (yG k l.length).toNat tm0).fv then
      .mk k nm ot n0 ty re ((l.map λt=>Tm.sub f t x b).set (yG k l.length).toNat (l.getD (yG k l.length).toNat tm0))
     else
      .mk k (rns (Tm.sub f) k l.length b.fv x (bdN k nm ot l.length) (nm,ot,l.getD (yG k l.length).toNat tm0)).1
       (rns (Tm.sub f) k l.length b.fv x (bdN k nm ot l.length) (nm,ot,l.getD (yG k l.length).toNat tm0)).2.1 n0 ty re
       ((l.map λt=>Tm.sub f t x b).set (yG k l.length).toNat (Tm.sub f (rns (Tm.sub f) k l.length b.fv x (bdN k nm ot l.length) (nm,ot,l.getD (yG k l.length).toNat tm0)).2.2 x b)):=λhn=>by
    simp only [Tm.sub]
    by_cases hk:k=1
    ·rw [if_pos hk,if_neg (λh=>hn ⟨hk,h⟩)]
     have:l=[]:=hc.v.1 hk
     subst this
     subst hk
     rw [if_pos (by decide)]
     rfl
    ·rw [if_neg hk]
   refine Br.beq (λh1=>⟨_,rfl,Br.str (λh2 N1 ah=>?_) λh2=>?_⟩) λh1=>?_
   ·simp only [Tm.sub] at J
    rw [if_pos h1,if_pos h2] at J
    refine tB b db hb au N1 _ ?_
    cases b with
    | mk k2 b9 ca n2 cc cd l2=>
    simp only [u7]
    intro x4 x5 x6 x7 ay c' N2 bh aa I ai _ _
    have bi:=I.len
    have ce:=au.2.2.1
    exact ⟨⟨trivial,trivial⟩,⟨trivial,trivial⟩,λa2 N3 az hf N4 a6=>J _ _ (by omega) (Tm.is_mk.2 ⟨_,_,_,_,_,_,_,rfl,aa,by omega,I⟩) ((tj (ai.mono ah (oD _)) hf az).mono (oD _) a6)⟩
   all_goals
    rw [ax (λh=>by first | exact h2 h.2 | exact h1 h.1)] at J
    intro N1 ah
    refine tB _ _ he hG N1 _ ?_
    simp only [u7]
    intro x4 x5 x6 x7 ay c' N2 bh aa I ai _ _ N3 az
    have bi:=I.len
    refine zAM (n:=l.length) (by omega) N3 _ λa1 c1 N4 a6 _ _ _ N5 cf=>?_
    refine yx _ (by omega) a1 c1 x N5 _ λN6 cg _=>?_
    rw [zLD]
    have aj:OwnL N N6 ([x4,x5,x6,x7]++ay):=ai.mono ah (by omega)
    refine Br.dec (λch=>?_) λcj=>?_
    ·rw [if_neg (by omega)] at J
     obtain ⟨g1,g2⟩:=vQ (k:=k) (n:=l.length) (by omega)
     obtain ⟨j,a7⟩:∃ j:Nat,yG k l.length=(j:Int):=⟨_,g2.symm⟩
     rw [a7] at g1 J ⊢
     rw [oH] at g1 J ⊢
     generalize ak:l.getD j tm0=p at J
     have al:l[j]?=some p:=ak ▸ zw g1
     obtain ⟨am,ao⟩:=hp p (oB al)
     have ba:=ao.c
     have bb:=yK aw g1
     rw [ak] at bb
     refine Br.ndec (λhx=>⟨_,_,_,rfl,⟨by omega,by omega⟩,λN7 ck=>?_⟩) λhx=>?_
     ·have cm:=Tm.fv_wd p
      refine vS p _ bb ba N7 _ λa8 c8 N8 cn _ _ _ N9 co=>yx _ (by omega) a8 c8 x N9 _ λbj b1 _=>?_
      rw [zLD]
      rw [mN hx]
      refine Br.dec (λac bm b2=>?_) λac=>?_
      ·rw [if_neg (by rintro (h | h);exact hx h;exact h ac)] at J
       have b3:=Tm.fv_wd b
       refine vS b _ hb bg bm _ λbn bp cp b4 _ _ _ bq b5=>?_
       generalize hT:rns (Tm.sub f) k l.length b.fv x (bdN k nm ot l.length) (nm,ot,p)=T at J
       have aq:=zJ4 (rj f) k l.length b.fv x (bdN k nm ot l.length) (nm,ot,p) am
       rw [hT] at aq
       have bc:=aq.le.d
       refine zNA ih he hG a7 ak am ao x b.fv (by omega) bn bp bq hT _ ?_
       simp only [u7]
       intro z4 z5 z6 z7 cq c9 bt b6 bv bd bw _ _
       refine pz ih hb U (L:=l.set j T.2.2) (Lf:=(l.map λt=>t.sub f x b).set j (T.2.2.sub f x b)) (λy O=>?_) (by simpa using ab) (by simp) (λi y O=>?_) bv bd c9 N bt (by omega) (bw.mono (by omega) (oD _)) Q J
       ·rcases nE O with O | rfl
        ·exact hp y O
        ·exact ⟨oS bc am,aq.z ao⟩
       ·rw [if_neg (λh=>by simp at h)]
        rw [<-List.map_set]
        exact zK6 O
      ·rw [if_pos (.inr ac)] at J
       refine pz ih hb U hp ab (by simp) (λi y O=>?_) aa I c' N bj (by omega) (aj.mono (oD _) (by omega)) Q J
       rw [if_neg (λh=>by simp at h)]
       by_cases Y:j=i
       ·subst Y
        have:y=p:=oW (O.symm.trans al)
        rw [nI (by simpa using g1),this,zL8 f p x b ac]
       ·rw [nB Y];exact zK6 O
     ·rw [if_pos (.inl hx)] at J
      rw [mJ hx]
      refine pz ih hb U hp ab (by simp) (λi y O=>?_) aa I c' N N6 (by omega) aj Q J
      by_cases Y:j=i
      ·subst Y
       have:y=p:=oW (O.symm.trans al)
       rw [if_pos ⟨rfl,rfl⟩,nI (by simpa using g1),this]
      ·rw [if_neg (λh=>Y (by omega)),nB Y];exact zK6 O
    ·rw [if_pos (by omega)] at J
     refine pz ih hb U hp ab (by simp) (λi y O=>?_) aa I c' N N6 (by omega) aj Q J
     rw [if_neg (λh=>by have:=h.2;omega)]
     exact zK6 O
end Go.Proofs.YtfajiphkncipoaaGreatDoor
