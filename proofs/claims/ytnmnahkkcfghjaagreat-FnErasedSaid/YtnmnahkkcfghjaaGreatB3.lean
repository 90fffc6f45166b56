/- Substitution and steps: sizes, and that terms stay terms (no program in sight). -/
import Derived.Test.YtnmnahkkcfghjaaGreatB1
set_option linter.unusedVariables false
set_option linter.unusedSimpArgs false
namespace Go.Proofs.YtnmnahkkcfghjaaGreat
open Go Go.Proofs Go.Proofs.Tryz Go.IntWalk
theorem wl:∀ {l:List Tm} {t:Tm},t∈l->t.sz<=zg l
 | u::us,t,h=>by
   simp only [zg]
   rcases oF.1 h with rfl | h
   ·omega
   ·have:=wl h;omega
theorem Tm.sz_pos (t:Tm):1<=t.sz:=by cases t;simp only [Tm.sz];omega
theorem zHr:∀ {l:List Tm},qR l=true↔∀ x∈l,x.ok=true
 | []=>by simp [qR]
 | t::I=>by simp only [qR,oG,zHr (l:=I),oF,nY]
theorem szL:∀ {l' l:List Tm},l'.length=l.length->(∀ (i:Nat) (t' t:Tm),l'[i]?=some t'->l[i]?=some t->t.sz<=t'.sz)->zg l<=zg l'
 | [],[],_,_=>oD _
 | [],_::_,h,_=>by simp at h
 | _::_,[],h,_=>by simp at h
 | t'::I,t::O,h,J=>by
   have h1:=szL (l':=I) (l:=O) (by simpa using h) λi a b U Y=>J (i+1) a b (by simpa using U) (by simpa using Y)
   have h0:=J 0 t' t (by simp) (by simp)
   simp only [zg];omega
theorem zLH {f:Nat} (I:∀ t x y,t.V->t.sz<=(Tm.sub f t x (vL y)).sz) (k:Int) (n:Nat) (fb:List ByteArray) (x:ByteArray):∀ (l:List ByteArray) (s:ByteArray × ByteArray × Tm),s.2.2.V->s.2.2.sz<=(rns (Tm.sub f) k n fb x l s).2.2.sz
 | [],s,_=>oD _
 | old::l,s,J=>by
   have O:=zLH I k n fb x l (rn1 (Tm.sub f) k n fb x old s) ((qP (yr f) k n fb x old s).v J)
   have U:s.2.2.sz<=(rn1 (Tm.sub f) k n fb x old s).2.2.sz:=by
    unfold rn1
    split
    ·split<;>exact I _ _ _ J
    ·exact oD _
   simp only [rns];omega
theorem zEF:∀ (f:Nat) (t:Tm) (x:ByteArray) (b:Tm),t.V->t.sz<=(t.sub f x b).sz
 | 0,t,x,b,_=>by simp only [Tm.sub];exact oD _
 | f + 1,.mk k nm ot n ty re l,x,b,hv=>by
   have Y:=zEF f
   have O:=uh.1 hv.2
   simp only [Tm.sub]
   split
   ·rename_i hk
    split
    ·rw [hv.1 (by assumption)]
     simp only [Tm.sz,zg];exact Tm.sz_pos b
    ·exact oD _
   ·split
    ·simp only [Tm.sz]
     have:=szL (l':=l.map λt=>Tm.sub f t x b) (l:=l) (by simp) λi t' t I J=>by
      rw [oE,J] at I
      cases I
      exact Y t x b (O t (oB J))
     omega
    ·rename_i hb
     obtain ⟨g1,g2⟩:=xT hb
     split
     ·simp only [Tm.sz]
      have:=szL (l':=(l.map λt=>Tm.sub f t x b).set (ze k l.length).toNat (l.getD (ze k l.length).toNat tm0)) (l:=l) (by simp) λi t' t I J=>by
       rcases zAr I J with ⟨h1,U⟩ | ⟨h1,U⟩
       ·rw [h1,zN g1] at J
        rw [U,<-oW J]
        exact oD _
       ·rw [U];exact Y t x b (O t (oB J))
      omega
     ·simp only [Tm.sz]
      have:=szL (l':=(l.map λt=>Tm.sub f t x b).set (ze k l.length).toNat (Tm.sub f (rns (Tm.sub f) k l.length b.fv x (bdN k nm ot l.length) (nm,ot,l.getD (ze k l.length).toNat tm0)).2.2 x b)) (l:=l) (by simp) λi t' t I J=>by
       rcases zAr I J with ⟨h1,U⟩ | ⟨h1,U⟩
       ·rw [h1,zN g1] at J
        rw [U,<-oW J]
        have aa:=O _ (oB (zN g1))
        exact oN (zLH (λt x y h=>Y t x _ h) k l.length b.fv x (bdN k nm ot l.length) (nm,ot,l.getD (ze k l.length).toNat tm0) aa) (Y _ x b ((sw (yr f) _ _ _ _ _ _).v aa))
       ·rw [U];exact Y t x b (O t (oB J))
      omega
theorem zPf {k:Int} {s w ot:ByteArray} {n:Nat} (v:ByteArray) (h:s∈bdN k w ot n):s=w\/s∈bdN k v ot n:=by
 unfold bdN at h ⊢
 split at h
 ·simp at h;exact .inl h
 ·rename_i I
  rw [if_neg I]
  split at h
  ·simp at h;exact .inl h
  ·rename_i J
   rw [if_neg J]
   split at h
   ·rename_i O
    rw [if_pos O]
    simp at h
    rcases h with h | h
    ·exact .inl h
    ·exact .inr (by simp [h])
   ·simp at h
theorem zPJ {k:Int} {s nm w:ByteArray} {n:Nat} (v:ByteArray) (h:s∈bdN k nm w n):s=w\/s∈bdN k nm v n:=by
 unfold bdN at h ⊢
 split at h
 ·rename_i I
  rw [if_pos I];exact .inr h
 ·rename_i I
  rw [if_neg I]
  split at h
  ·rename_i J
   rw [if_pos J];exact .inr h
  ·rename_i J
   rw [if_neg J]
   split at h
   ·rename_i O
    rw [if_pos O]
    simp at h
    rcases h with h | h
    ·exact .inr (by simp [h])
    ·exact .inl h
   ·simp at h
/-- a free name stays free where another is put in -/
theorem zMI:∀ (f:Nat) (t:Tm) (s x:ByteArray) (b:Tm),s∈t.fv->s≠x->s∈(t.sub f x b).fv
 | 0,t,s,x,b,h,_=>by simp only [Tm.sub];exact h
 | f + 1, .mk k nm ot n ty re l,s,x,b,h,J=>by
   have ih:=zMI f
   rw [Tm.fv_mem] at h
   simp only [Tm.sub]
   split
   ·rename_i O
    rcases h with ⟨_,h⟩ | ⟨h,_⟩
    ·rw [if_neg (λhc=>J (by rw [h,hc]))]
     rw [Tm.fv_mem]
     exact .inl ⟨O,h⟩
    ·exact absurd O h
   ·rename_i O
    obtain ⟨j,p,hj,hs⟩:∃ (j:Nat) (x:Tm),l[j]?=some x/\s∈fvI (ze k l.length) (bdN k nm ot l.length) j x:=by
     rcases h with ⟨h,_⟩ | ⟨_,h⟩
     ·exact absurd h O
     ·exact h
    unfold fvI at hs
    split
    ·rename_i hb
     rw [Tm.fv_mem]
     refine .inr ⟨O,j,p.sub f x b,by rw [oE,hj];rfl,?_⟩
     rw [if_neg (by omega)] at hs
     unfold fvI
     rw [oV,if_neg (by omega)]
     exact ih p s x b hs J
    ·rename_i hb
     obtain ⟨g1,g2⟩:=xT hb
     have aa:j<l.length:=(oC.1 hj).1
     have U:=zN g1
     split
     ·rw [Tm.fv_mem]
      by_cases I:(j:Int)=ze k l.length
      ·refine .inr ⟨O,j,p,?_,?_⟩
       ·have:(ze k l.length).toNat=j:=by omega
        rw [this] at U ⊢
        rw [nC (by simpa using aa),<-oW (U.symm.trans hj)]
       ·unfold fvI;simp only [nP,oV];exact hs
      ·refine .inr ⟨O,j,p.sub f x b,?_,?_⟩
       ·rw [ow (by omega),oE,hj];rfl
       ·rw [if_neg I] at hs
        unfold fvI
        simp only [nP,oV]
        rw [if_neg I]
        exact ih p s x b hs J
     ·rw [Tm.fv_mem]
      by_cases I:(j:Int)=ze k l.length
      ·have ae:(ze k l.length).toNat=j:=by omega
       rw [ae] at U ⊢
       have ah:l.getD j tm0=p:=oW (U.symm.trans hj)
       rw [ah]
       rw [if_pos I,xf] at hs
       obtain ⟨ai,ab⟩:=hs
       have r1:∀ (old:ByteArray) (st:ByteArray × ByteArray × Tm),s≠old->s∈st.2.2.fv->s∉bdN k st.1 st.2.1 l.length->s∈(rn1 (Tm.sub f) k l.length b.fv x old st).2.2.fv/\s∉bdN k (rn1 (Tm.sub f) k l.length b.fv x old st).1 (rn1 (Tm.sub f) k l.length b.fv x old st).2.1 l.length:=λold st h1 Y h3=>by
        unfold rn1
        have ac:=ym (b.fv++(st.2.2.fv++([x]++bdN k st.1 st.2.1 l.length)))
        generalize fresh (b.fv++(st.2.2.fv++([x]++bdN k st.1 st.2.1 l.length)))=w at ac
        have hw:s≠w:=λhc=>ac (by rw [<-hc];simp [Y])
        split
        ·split
         ·exact ⟨ih _ _ _ _ Y h1,λhc=>(zPf st.1 hc).elim hw h3⟩
         ·exact ⟨ih _ _ _ _ Y h1,λhc=>(zPJ st.2.1 hc).elim hw h3⟩
        ·exact ⟨Y,h3⟩
       have rs:∀ (ns:List ByteArray) (st:ByteArray × ByteArray × Tm),(∀ o∈ns,s≠o)->s∈st.2.2.fv->s∉bdN k st.1 st.2.1 l.length->s∈(rns (Tm.sub f) k l.length b.fv x ns st).2.2.fv/\s∉bdN k (rns (Tm.sub f) k l.length b.fv x ns st).1 (rns (Tm.sub f) k l.length b.fv x ns st).2.1 l.length:=by
        intro ns
        induction ns with
        | nil=>exact λst _ Y h3=>⟨Y,h3⟩
        | cons o os aj=>
          intro st h1 Y h3
          obtain ⟨a1,a2⟩:=r1 o st (h1 o (by simp)) Y h3
          exact aj _ (λo' ho=>h1 o' (by simp [ho])) a1 a2
       obtain ⟨a1,a2⟩:=rs (bdN k nm ot l.length) (nm,ot,p) (λo ho hc=>ab (hc ▸ ho)) ai ab
       refine .inr ⟨O,j,_,nC (by simpa using aa),?_⟩
       unfold fvI
       simp only [nP,oV]
       rw [if_pos I,xf]
       exact ⟨ih _ _ _ _ a1 J,a2⟩
      ·refine .inr ⟨O,j,p.sub f x b,?_,?_⟩
       ·rw [ow (by omega),oE,hj];rfl
       ·rw [if_neg I] at hs
        unfold fvI
        simp only [nP,oV]
        rw [if_neg I]
        exact ih p s x b hs J
/-- what is put in is there -/
theorem zK6 {f:Nat} (k:Int) (n:Nat) (fb:List ByteArray) (x:ByteArray):∀ (l:List ByteArray) (s:ByteArray × ByteArray × Tm),x∉l->x∈s.2.2.fv->x∈(rns (Tm.sub f) k n fb x l s).2.2.fv
 | [],s,_,h=>h
 | old::l,s,J,h=>by
   refine zK6 k n fb x l _ (λhc=>J (by simp [hc])) ?_
   unfold rn1
   have I:x≠old:=λhc=>J (by simp [hc])
   split
   ·split<;>exact zMI f _ _ _ _ h I
   ·exact h
theorem zMj:∀ (f:Nat) (t:Tm) (x:ByteArray) (b:Tm),t.dp<=f->x∈t.fv->b.sz<=(t.sub f x b).sz
 | 0,t,x,b,h,_=>absurd (Tm.dp_pos t) (by omega)
 | f + 1,.mk k nm ot n ty re l,x,b,hd,h=>by
   have ih:=zMj f
   rw [Tm.fv_mem] at h
   simp only [Tm.dp] at hd
   have ae:=λy hy=>va.1 (mL hd) y hy
   simp only [Tm.sub]
   split
   ·rename_i hk
    rcases h with ⟨_,h⟩ | ⟨h,_⟩
    ·rw [if_pos h.symm];exact oD _
    ·exact absurd hk h
   ·rename_i hk
    obtain ⟨j,p,U,hs⟩:∃ (j:Nat) (y:Tm),l[j]?=some y/\x∈fvI (ze k l.length) (bdN k nm ot l.length) j y:=by
     rcases h with ⟨h,_⟩ | ⟨_,h⟩
     ·exact absurd h hk
     ·exact h
    unfold fvI at hs
    have J:=ae p (oB U)
    have fin:∀ (aa ab:ByteArray) (l':List Tm) (y:Tm),l'[j]?=some y->b.sz<=y.sz->b.sz<=(Tm.mk k aa ab n ty re l').sz:=λaa ab l' y h1 h2=>by
     have:=wl (oB h1)
     simp only [Tm.sz];omega
    split
    ·rename_i hb
     rw [if_neg (by omega)] at hs
     exact fin _ _ _ (p.sub f x b) (by rw [oE,U];rfl) (ih p x b J hs)
    ·rename_i hb
     obtain ⟨g1,g2⟩:=xT hb
     have ah:j<l.length:=(oC.1 U).1
     have O:=zN g1
     split
     ·rename_i hc
      by_cases I:(j:Int)=ze k l.length
      ·exfalso
       have:(ze k l.length).toNat=j:=by omega
       rw [this] at O hc
       have Y:l.getD j tm0=p:=oW (O.symm.trans U)
       rw [if_pos I,xf] at hs
       rw [Y] at hc
       rcases hc with hc | hc
       ·exact hs.2 hc
       ·exact hc hs.1
      ·rw [if_neg I] at hs
       exact fin _ _ _ (p.sub f x b) (by rw [ow (by omega),oE,U];rfl) (ih p x b J hs)
     ·rename_i hc
      by_cases I:(j:Int)=ze k l.length
      ·have ai:(ze k l.length).toNat=j:=by omega
       rw [ai] at O ⊢
       have Y:l.getD j tm0=p:=oW (O.symm.trans U)
       rw [Y]
       rw [if_pos I,xf] at hs
       have aj:=sw (yr f) k l.length b.fv x (bdN k nm ot l.length) (nm,ot,p)
       have ac:=aj.d
       refine fin _ _ _ _ (nC (by simpa using ah)) (ih _ x b (oN ac J) (zK6 _ _ _ _ _ _ hs.2 hs.1))
      ·rw [if_neg I] at hs
       exact fin _ _ _ (p.sub f x b) (by rw [ow (by omega),oE,U];rfl) (ih p x b J hs)
theorem zMG {k:Nat} (h:k<=999):Lib.decDigits k=(if k<10 then [UInt8.ofNat (48+k)] else if k<100 then [UInt8.ofNat (48+k / 10),UInt8.ofNat (48+k % 10)] else [UInt8.ofNat (48+k / 10 / 10),UInt8.ofNat (48+k / 10 % 10),UInt8.ofNat (48+k % 10)]):=by
 have e1:∀ u,u<10->Lib.decDigits u=[UInt8.ofNat (48+u)]:=λu h=>by rw [Lib.decDigits,dif_pos h]
 have J:∀ u,¬u<10->Lib.decDigits u=Lib.decDigits (u / 10)++[UInt8.ofNat (48+u % 10)]:=λu h=>by rw [Lib.decDigits,dif_neg h]
 split
 ·rename_i I;exact e1 k I
 ·rename_i I
  rw [J k I]
  split
  ·rename_i O;rw [e1 _ (by omega)];rfl
  ·rename_i O
   rw [J (k / 10) (by omega),e1 _ (by omega)];rfl
theorem zMy:∀ a:_root_.Fin 10,xJ ⟨#[118,UInt8.ofNat (48+a.val)]⟩=true:=by decide +kernel
theorem zKx:∀ a b:_root_.Fin 10,xJ ⟨#[118,UInt8.ofNat (48+a.val),UInt8.ofNat (48+b.val)]⟩=true:=by decide +kernel
theorem zLY:∀ a b c:_root_.Fin 10,xJ ⟨#[118,UInt8.ofNat (48+a.val),UInt8.ofNat (48+b.val),UInt8.ofNat (48+c.val)]⟩=true:=by decide +kernel
theorem zNz {k:Nat} (h:k<=999):xJ (uG k)=true:=by
 unfold uG
 rw [zMG h]
 split
 ·rename_i I;exact zMy ⟨k,I⟩
 ·split
  ·rename_i I J;exact zKx ⟨k / 10,by omega⟩ ⟨k % 10,by omega⟩
  ·rename_i I J;exact zLY ⟨k / 10 / 10,by omega⟩ ⟨k / 10 % 10,by omega⟩ ⟨k % 10,by omega⟩
theorem zHI {l:List ByteArray} (h:l.length<=998):xJ (fresh l)=true:=by
 obtain ⟨k,e,_,I,_,_⟩:=tC l
 rw [e]
 exact zNz (by omega)
theorem Tm.vc_sz:∀ t:Tm,t.vc<=t.sz:=by
 refine Tm.ind λk nm ot n ty re l J=>?_
 have key:∀ l:List Tm,(∀ t∈l,t.vc<=t.sz)->rn l<=zg l:=by
  intro l
  induction l with
  | nil=>intro _;exact oD _
  | cons t U I=>
    intro h
    have Y:=h t (by simp)
    have h2:=I λx O=>h x (by simp [O])
    simp only [rn,zg];omega
 have:=key l J
 simp only [Tm.vc,Tm.sz]
 split<;>omega
theorem Tm.ok_mk {k:Int} {nm ot:ByteArray} {n:Int} {ty re:Ty} {l:List Tm}:(Tm.mk k nm ot n ty re l).ok=true↔(∀ x∈l,x.ok=true)/\zJ k nm ot n ty re=true/\(l.length:Int)=zIt k nm:=by
 simp only [Tm.ok,oG,zHr,nK]
theorem zKv {s:ByteArray} (h:xJ s=true):(vL s).ok=true:=by
 refine Tm.ok_mk.2 ⟨by simp,?_,rfl⟩
 have:(Ty.mk 0 []).valid=false:=by decide +kernel
 simp [zJ,sD,this,Ty.zero,Ty.k,Ty.as,inB,yu,h]
/-- the names of a form that binds can be others -/
theorem zLR {k:Int} {nm ot I J:ByteArray} {n:Int} {ty re:Ty} {m:Nat} (hb:¬ze k m<0) (h:zJ k nm ot n ty re=true) (U:xJ I=true) (Y:k=9->xJ J=true/\I≠J) (O:k≠9->J=ot):zJ k I J n ty re=true/\(zIt k I=zIt k nm):=by
 have hk:k=6\/k=8\/k=9:=by
  rcases xw k m with h | ⟨_,_,h | h⟩ | ⟨_,_,h⟩
  ·omega
  ·exact .inl h
  ·exact .inr (.inr h)
  ·exact .inr (.inl h)
 rcases hk with rfl | rfl | rfl
 ·have O:=O (by decide)
  subst O
  refine ⟨?_,rfl⟩
  simp only [zJ,yu,oG] at h ⊢
  simp [U] at h ⊢
  exact ⟨h.1,h.2.1,h.2.2.1,h.2.2.2.1,h.2.2.2.2.1,h.2.2.2.2.2.2⟩
 ·have O:=O (by decide)
  subst O
  refine ⟨?_,rfl⟩
  simp only [zJ,yu,oG] at h ⊢
  simp [U] at h ⊢
  exact ⟨h.1,h.2.1,h.2.2.1,h.2.2.2.1,h.2.2.2.2.1,h.2.2.2.2.2.2⟩
 ·obtain ⟨h4,h5⟩:=Y rfl
  refine ⟨?_,rfl⟩
  simp only [zJ,yu,oG] at h ⊢
  simp [U,h4,h5] at h ⊢
  exact ⟨h.1,h.2.1,h.2.2.1,h.2.2.2.1⟩
theorem zGP {k:Int} {nm ot:ByteArray} {n:Int} {ty re:Ty} {m:Nat} (J:¬ze k m<0) (h:zJ k nm ot n ty re=true):xJ nm=true/\(k=9->xJ ot=true/\nm≠ot):=by
 have I:k=6\/k=8\/k=9:=by
  rcases xw k m with h | ⟨_,_,h | h⟩ | ⟨_,_,h⟩
  ·omega
  ·exact .inl h
  ·exact .inr (.inr h)
  ·exact .inr (.inl h)
 rcases I with rfl | rfl | rfl
 ·simp only [zJ,yu,oG] at h
  refine ⟨?_,λh=>absurd h (by decide)⟩
  simp at h;exact h.2.2.2.2.2.1
 ·simp only [zJ,yu,oG] at h
  refine ⟨?_,λh=>absurd h (by decide)⟩
  simp at h;exact h.2.2.2.2.2.1
 ·simp only [zJ,yu,oG] at h
  simp at h
  exact ⟨h.2.2.2.2.1,λ_=>⟨h.2.2.2.2.2.1,h.2.2.2.2.2.2⟩⟩
/-- a term in which a small term is put for a name is a term, if it is small -/
theorem zO3:∀ (f:Nat) (e:Tm) (x:ByteArray) (b:Tm),e.dp<=f->e.ok=true->b.ok=true->(e.sub f x b).sz<=400->(e.sub f x b).ok=true
 | 0,e,x,b,h,_,_,_=>absurd (Tm.dp_pos e) (by omega)
 | f + 1, .mk k nm ot n ty re l,x,b,hd,he,hb,hs=>by
   have ih:=zO3 f
   obtain ⟨h1,h2,h3⟩:=Tm.ok_mk.1 he
   simp only [Tm.dp] at hd
   have ae:=λy hy=>va.1 (mL hd) y hy
   simp only [Tm.sub] at hs ⊢
   split
   ·rename_i hk
    rw [if_pos hk] at hs
    split
    ·exact hb
    ·exact he
   ·rename_i hk
    rw [if_neg hk] at hs
    split
    ·rename_i O
     rw [if_pos O] at hs
     refine Tm.ok_mk.2 ⟨λy hy=>?_,h2,by simpa using h3⟩
     obtain ⟨z,hz,rfl⟩:=oQ.1 hy
     have:=wl hy
     simp only [Tm.sz] at hs
     exact ih z x b (ae z hz) (h1 z hz) hb (by omega)
    ·rename_i O
     rw [if_neg O] at hs
     obtain ⟨g1,g2⟩:=xT O
     have ai:=zN g1
     have U:=oB ai
     generalize hp:l.getD (ze k l.length).toNat tm0=p at hs ai U ⊢
     have parts:∀ (v:Tm) (s:Nat),v.ok=true->zg ((l.map λt=>Tm.sub f t x b).set (ze k l.length).toNat v)<=400->∀ y∈(l.map λt=>Tm.sub f t x b).set (ze k l.length).toNat v,y.ok=true:=λv s hv hs y hy=>by
      have a7:=wl hy
      rcases nF hy with hy | rfl
      ·obtain ⟨z,hz,rfl⟩:=oQ.1 hy
       exact ih z x b (ae z hz) (h1 z hz) hb (by omega)
      ·exact hv
     split
     ·rename_i hc
      rw [if_pos hc] at hs
      simp only [Tm.sz] at hs
      exact Tm.ok_mk.2 ⟨parts _ 0 (h1 p U) (by omega),h2,by simpa using h3⟩
     ·rename_i hc
      rw [if_neg hc] at hs
      have ao:x∉bdN k nm ot l.length:=λh=>hc (.inl h)
      have aq:x∈p.fv:=mE.1 λh=>hc (.inr h)
      have aj:=zQd p (h1 p U)
      have Y:=ae p U
      obtain ⟨n1,n2⟩:=zGP O h2
      have ab:=sw (yr f) k l.length b.fv x (bdN k nm ot l.length) (nm,ot,p)
      have ac:=ab.d
      have au:=wl (oB (nC (l:=l.map λt=>Tm.sub f t x b) (i:=(ze k l.length).toNat) (a:=Tm.sub f (rns (Tm.sub f) k l.length b.fv x (bdN k nm ot l.length) (nm,ot,p)).2.2 x b) (by simpa using g1)))
      simp only [Tm.sz] at hs
      have aw:=zK6 (f:=f) k l.length b.fv x (bdN k nm ot l.length) (nm,ot,p) ao aq
      have a8:=zMj f _ x b (oN ac Y) aw
      have a9:=zEF f (rns (Tm.sub f) k l.length b.fv x (bdN k nm ot l.length) (nm,ot,p)).2.2 x b (ab.v aj)
      have ba:=Tm.fv_len b
      have bb:=Tm.vc_sz b
      have bc:b.fv.length<=400:=by omega
      -- one name
      have r1:∀ (old:ByteArray) (st:ByteArray × ByteArray × Tm),old∈bdN k st.1 st.2.1 l.length->st.2.2.ok=true->st.2.2.dp<=f->(rn1 (Tm.sub f) k l.length b.fv x old st).2.2.sz<=400->xJ st.1=true->(k=9->xJ st.2.1=true/\st.1≠st.2.1) ->
        (rn1 (Tm.sub f) k l.length b.fv x old st).2.2.ok=true/\xJ (rn1 (Tm.sub f) k l.length b.fv x old st).1=true/\(k=9->xJ (rn1 (Tm.sub f) k l.length b.fv x old st).2.1=true/\(rn1 (Tm.sub f) k l.length b.fv x old st).1≠(rn1 (Tm.sub f) k l.length b.fv x old st).2.1)/\(k≠9->(rn1 (Tm.sub f) k l.length b.fv x old st).2.1=st.2.1):=λold st ho a1 a2 a3 a4 a5=>by
       have ak:=ym (b.fv++(st.2.2.fv++([x]++bdN k st.1 st.2.1 l.length)))
       unfold rn1 at a3 ⊢
       split
       ·rename_i hold
        rw [if_pos hold] at a3
        have bg:st.2.2.sz<=400:=by
         split at a3
         ·exact oN (zEF f _ _ _ (zQd _ a1)) a3
         ·exact oN (zEF f _ _ _ (zQd _ a1)) a3
        have bh:=Tm.fv_len st.2.2
        have bi:=Tm.vc_sz st.2.2
        have bj:=zCf k st.1 st.2.1 l.length
        have aa:=zHI (l:=b.fv++(st.2.2.fv++([x]++bdN k st.1 st.2.1 l.length))) (by simp only [oI,oO,oX];omega)
        generalize fresh (b.fv++(st.2.2.fv++([x]++bdN k st.1 st.2.1 l.length)))=w at ak aa a3 ⊢
        have hw:w∉bdN k st.1 st.2.1 l.length:=λh=>ak (by simp [h])
        split
        ·rename_i hq
         rw [if_pos hq] at a3
         refine ⟨ih _ _ _ a2 a1 (zKv aa) a3,aa,λh9=>⟨(a5 h9).1,λJ=>hw ?_⟩,λ_=>rfl⟩
         subst h9
         have h9:l.length=1:=by rcases xw 9 l.length with h | ⟨_,h,_⟩ | ⟨_,_,h⟩<;>first | exact h | omega
         have J:w=st.2.1:=J
         rw [h9,J];simp [bdN]
        ·rename_i hq
         rw [if_neg hq] at a3
         have h9:k=9:=by
          unfold bdN at ho
          (repeat' split at ho)<;>simp_all
         subst h9
         have ah:l.length=1:=by rcases xw 9 l.length with h | ⟨_,h,_⟩ | ⟨_,_,h⟩<;>first | exact h | omega
         refine ⟨ih _ _ _ a2 a1 (zKv aa) a3,a4,λ_=>⟨aa,λJ=>hw ?_⟩,λh=>absurd rfl h⟩
         have J:st.1=w:=J
         rw [ah,<-J];simp [bdN]
       ·exact ⟨a1,a4,a5,λ_=>rfl⟩
      have al:∀ (os:List ByteArray) (st:ByteArray × ByteArray × Tm),st.2.2.V->(rns (Tm.sub f) k l.length b.fv x os st).2.2.sz<=400->st.2.2.sz<=400:=λos st hv h=>oN (zLH (λt x y h=>zEF f t x _ h) _ _ _ _ _ _ hv) h
      have fin:(rns (Tm.sub f) k l.length b.fv x (bdN k nm ot l.length) (nm,ot,p)).2.2.ok=true/\xJ (rns (Tm.sub f) k l.length b.fv x (bdN k nm ot l.length) (nm,ot,p)).1=true /\
        (k=9->xJ (rns (Tm.sub f) k l.length b.fv x (bdN k nm ot l.length) (nm,ot,p)).2.1=true/\(rns (Tm.sub f) k l.length b.fv x (bdN k nm ot l.length) (nm,ot,p)).1≠(rns (Tm.sub f) k l.length b.fv x (bdN k nm ot l.length) (nm,ot,p)).2.1) /\
        (k≠9->(rns (Tm.sub f) k l.length b.fv x (bdN k nm ot l.length) (nm,ot,p)).2.1=ot):=by
       have I:(rns (Tm.sub f) k l.length b.fv x (bdN k nm ot l.length) (nm,ot,p)).2.2.sz<=400:=by omega
       have ax:bdN k nm ot l.length=[nm]\/(k=9/\l.length=1/\bdN k nm ot l.length=[nm,ot]):=by
        rcases xw k l.length with h | ⟨_,h,h | h⟩ | ⟨_,h,h'⟩
        ·omega
        ·left;subst h;rw [show l.length=1 from ‹_›];simp [bdN]
        ·right;subst h;rw [show l.length=1 from ‹_›];simp [bdN]
        ·left;subst h';rw [h];simp [bdN]
       rcases ax with e | ⟨am,ah,e⟩
       ·rw [e] at I ⊢
        simp only [rns] at I ⊢
        exact r1 nm (nm,ot,p) (by rw [e];simp) (h1 p U) Y I n1 n2
       ·rw [e] at I ⊢
        simp only [rns] at I ⊢
        have q1:=qP (yr f) k l.length b.fv x nm (nm,ot,p)
        have q2:=al [ot] _ (q1.v aj) (by simpa only [rns] using I)
        obtain ⟨b1,b2,b3,b4⟩:=r1 nm (nm,ot,p) (by rw [e];simp) (h1 p U) Y q2 n1 n2
        have ay:=q1.d
        have az:ot∈bdN k (rn1 (Tm.sub f) k l.length b.fv x nm (nm,ot,p)).1 (rn1 (Tm.sub f) k l.length b.fv x nm (nm,ot,p)).2.1 l.length:=by
         have:(rn1 (Tm.sub f) k l.length b.fv x nm (nm,ot,p)).2.1=ot:=by
          unfold rn1
          simp only [mV]
          split<;>rfl
         rw [this,am,ah];simp [bdN]
        obtain ⟨d1,d2,d3,d4⟩:=r1 ot _ az b1 (oN ay Y) I b2 b3
        exact ⟨d1,d2,d3,λh=>absurd am h⟩
      obtain ⟨fa,a6,fc,fd⟩:=fin
      obtain ⟨u1,u2⟩:=zLR O h2 a6 fc fd
      exact Tm.ok_mk.2 ⟨parts _ 0 (ih _ x b (oN ac Y) fa hb (by omega)) (by omega),u1,by rw [u2];simpa using h3⟩
theorem Tm.dp_mem {k:Int} {nm ot:ByteArray} {n:Int} {ty re:Ty} {l:List Tm} {y:Tm} (h:y∈l):y.dp+1<=(Tm.mk k nm ot n ty re l).dp:=by
 have:=va.1 (oD (uq l)) y h
 simp only [Tm.dp];omega
theorem Tm.sz_mem {k:Int} {nm ot:ByteArray} {n:Int} {ty re:Ty} {l:List Tm} {y:Tm} (h:y∈l):y.sz+1<=(Tm.mk k nm ot n ty re l).sz:=by
 have:=wl h
 simp only [Tm.sz];omega
theorem zLl {e x:Tm} {i:Nat} (J:e.ok=true) (O:x.ok=true):(e.wth i x).ok=true:=by
 cases e with
 | mk k nm ot n ty re l=>
 obtain ⟨U,Y,h3⟩:=Tm.ok_mk.1 J
 refine Tm.ok_mk.2 ⟨λy I=>?_,Y,by simpa using h3⟩
 rcases nF I with I | rfl
 ·exact U y I
 ·exact O
theorem zME {k:Int} {nm ot:ByteArray} {n:Int} {ty re:Ty} {l:List Tm} {i:Nat} {x:Tm} (h:i<l.length):x.sz+1<=((Tm.mk k nm ot n ty re l).wth i x).sz:=by
 simp only [Tm.wth]
 exact Tm.sz_mem (oB (nC h))
theorem zPR {e:Tm} {i:Nat} (I:e.ok=true) (hi:i<e.as.length):(e.pt i).ok=true:=by
 cases e with
 | mk k nm ot n ty re l=>exact (Tm.ok_mk.1 I).1 _ (zU hi)
theorem zPs {k n:Int} (h:(k=2/\0<=n/\n<=10006)\/(k=3/\0<=n/\n<=1)):(zKO k n).ok=true:=by
 have I:(Ty.mk 0 []).valid=false:=by decide +kernel
 rcases h with ⟨rfl,h⟩ | ⟨rfl,h⟩
 ·refine Tm.ok_mk.2 ⟨by simp,?_,rfl⟩
  simp [zJ,sD,I,Ty.zero,Ty.k,Ty.as,inB,yu,h]
 ·refine Tm.ok_mk.2 ⟨by simp,?_,rfl⟩
  simp [zJ,sD,I,Ty.zero,Ty.k,Ty.as,inB,yu,h]
theorem zQz {x:Tm} (h:x.ok=true):(Tm.nod 10 [x]).ok=true:=by
 have I:(Ty.mk 0 []).valid=false:=by decide +kernel
 refine Tm.ok_mk.2 ⟨by simpa using h,?_,rfl⟩
 simp [zJ,sD,I,Ty.zero,Ty.k,Ty.as,inB,yu]
theorem zOR {e b:Tm} {x:ByteArray} (I:e.ok=true) (J:b.ok=true) (h:(e.sb x b).sz<=400):(e.sb x b).ok=true:=zO3 _ e x b (oD _) I J h
theorem zRA {e:Tm} (O:e.ok=true) (hs:e.apl.1.sz<=400):e.apl.1.ok=true:=by
 cases e with
 | mk k nm ot n ty re l=>
 obtain ⟨h1,h2,h3⟩:=Tm.ok_mk.1 O
 obtain ⟨a1,a2,a3,a4,a5⟩:=vp O
 have g:∀ i,i<l.length->(l.getD i tm0).ok=true:=λi hi=>h1 _ (zU hi)
 simp only [Tm.apl] at hs ⊢
 split
 ·rename_i I
  unfold Tm.opr
  split
  ·refine zPs ?_
   simp only [Tm.nm]
   have Y:=zJz nm (l.getD 0 tm0).no (l.getD 1 tm0).no
   unfold zAq
   by_cases U:zFb nm=true
   ·rw [if_pos U];exact .inl ⟨rfl,Y.1,Y.2⟩
   ·rw [if_neg U]
    simp only [zFb,mJ,o3,not_or] at U
    have:=zGc U.1 U.2.1 U.2.2 (l.getD 0 tm0).no (l.getD 1 tm0).no
    exact .inr ⟨rfl,this.1,this.2⟩
  ·exact O
 ·rename_i ab
  rw [if_neg ab] at hs
  split
  ·rename_i I
   split
   ·rename_i hb
    have:=zIS (g 0 (by have:=a3 I;omega)) hb
    refine g _ ?_
    have:=a3 I
    omega
   ·exact O
  ·rename_i ac
   rw [if_neg ac] at hs
   split
   ·rename_i I
    rw [if_pos I] at hs
    have hl:=a2 (.inl I)
    have J:=g 0 (by omega)
    have q1:=g 1 (by omega)
    generalize l.getD 0 tm0=p at hs J ⊢
    generalize l.getD 1 tm0=q at hs q1 ⊢
    have hp:(p.kd=6\/p.kd=9)->(p.pt 0).ok=true:=λh=>by
     refine zPR J ?_
     cases p with
     | mk pk pn po pm pt pr pl=>
     have:=(vp J).1 (by simp only [Tm.kd] at h;omega)
     simp only [Tm.as];omega
    split
    ·rename_i h6
     rw [if_pos h6] at hs
     exact zOR (hp (.inl h6)) q1 hs
    ·rename_i h6
     rw [if_neg h6] at hs
     split
     ·rename_i h9
      rw [if_pos h9] at hs
      have hV:=zPG (p.pt 0).dp (p.pt 0) p.nm p (zQd _ (hp (.inr h9))) (zQd _ J)
      have ae:=zEF ((p.pt 0).sb p.nm p).dp ((p.pt 0).sb p.nm p) p.ot q hV
      exact zOR (zOR (hp (.inr h9)) J (oN ae hs)) q1 hs
     ·exact O
   ·rename_i ah
    rw [if_neg ah] at hs
    split
    ·rename_i I
     rw [if_pos I] at hs
     have hl:=a2 (.inr I)
     exact zOR (g 1 (by omega)) (g 0 (by omega)) hs
    ·rename_i ai
     split
     ·rename_i I
      split
      ·rename_i aa
       have J:=g 0 (by have:=a1 (by omega);omega)
       refine zPR J ?_
       generalize l.getD 0 tm0=p at J aa ⊢
       cases p with
       | mk pk pn po pm pt pr pl=>
       have:=(vp J).1 (by simp only [Tm.kd] at aa;omega)
       simp only [Tm.as];omega
      ·exact O
     ·split
      ·rename_i I
       split
       ·exact zQz (g 0 (by have:=a1 (by omega);omega))
       ·exact O
      ·exact O
/-- the splice's part, and what comes in its place -/
theorem zQk {S:Tm->Tm × Int} {f:Nat} (hS:∀ x:Tm,x.dp<=f->x.ok=true->(S x).1.sz<=400->(S x).1.ok=true):∀ (t:Tm) (m:Int),t.dp<=f+1->t.ok=true->(t.cod S m).1.sz<=400->(t.cod S m).1.ok=true:=by
 refine Tm.ind λk nm ot n ty re l ih m hd J hs=>?_
 obtain ⟨O,Y,h3⟩:=Tm.ok_mk.1 J
 simp only [Tm.cod] at hs ⊢
 split
 ·rename_i hk
  rw [if_pos hk] at hs
  have hl:=(vp J).1 (by omega)
  unfold zQY at hs ⊢
  have U:((Tm.mk k nm ot n ty re l).pt 0).ok=true:=O _ (zU (by omega))
  have d0:((Tm.mk k nm ot n ty re l).pt 0).dp<=f:=by
   have:=Tm.dp_mem (k:=k) (nm:=nm) (ot:=ot) (n:=n) (ty:=ty) (re:=re) (zU (l:=l) (i:=0) (by omega))
   simp only [Tm.pt];omega
  generalize hp:(Tm.mk k nm ot n ty re l).pt 0=p at hs U d0 ⊢
  split
  ·split
   ·rename_i aa
    refine zPR U ?_
    cases p with
    | mk pk pn po pm pt pr pl=>
    have:=(vp U).1 (by simp only [Tm.kd] at aa;omega)
    simp only [Tm.as];omega
   ·exact J
  ·rename_i hr
   rw [if_neg hr] at hs
   have:=zME (k:=k) (nm:=nm) (ot:=ot) (n:=n) (ty:=ty) (re:=re) (l:=l) (i:=0) (x:=(S p).1) (by omega)
   exact zLl J (hS p d0 U (by simp only at hs;omega))
 ·rename_i hk
  rw [if_neg hk] at hs
  have key:∀ (xs:List Tm),(∀ x∈xs,x∈l)->∀ l' r,yG S xs (zW k m)=some (l',r)->zg l'<=400->l'.length=xs.length/\∀ x∈l',x.ok=true:=by
   intro xs
   induction xs with
   | nil=>intro _ l' r h;simp [yG] at h
   | cons x xs ab=>
     intro hm l' r h hs
     have I:=hm x (by simp)
     simp only [yG] at h
     split at h
     ·cases h
      simp only [zg] at hs
      refine ⟨by simp,λy hy=>?_⟩
      rcases oF.1 hy with rfl | hy
      ·have ac:=Tm.dp_mem (k:=k) (nm:=nm) (ot:=ot) (n:=n) (ty:=ty) (re:=re) I
       exact ih x I _ (by omega) (O x I) (by omega)
      ·exact O y (hm y (by simp [hy]))
     ·split at h
      ·cases h
      ·rename_i l2 r2 Y
       cases h
       simp only [zg] at hs
       obtain ⟨b1,b2⟩:=ab (λy hy=>hm y (by simp [hy])) _ _ Y (by omega)
       refine ⟨by simp [b1],λy hy=>?_⟩
       rcases oF.1 hy with rfl | hy
       ·exact O y I
       ·exact b2 y hy
  cases hc:yG S l (zW k m) with
  | none=>exact J
  | some p=>
    obtain ⟨l',r⟩:=p
    rw [hc] at hs
    simp only [Tm.sz] at hs
    obtain ⟨b1,b2⟩:=key l (λx I=>I) l' r hc (by omega)
    exact Tm.ok_mk.2 ⟨b2,Y,by rw [b1];exact h3⟩
theorem zFX:∀ (f:Nat) (e:Tm),e.dp<=f->e.ok=true->(e.stp f).1.sz<=400->(e.stp f).1.ok=true
 | 0,e,h,_,_=>absurd (Tm.dp_pos e) (by omega)
 | f + 1,.mk k nm ot n ty re l,hd,I,hs=>by
   have ih:=zFX f
   obtain ⟨h1,h2,h3⟩:=Tm.ok_mk.1 I
   simp only [Tm.stp] at hs ⊢
   split
   ·exact I
   ·rename_i hr
    rw [if_neg hr] at hs
    split
    ·rename_i J
     rw [if_pos J] at hs
     have J:k=10:=J
     have hl:=(vp I).1 (by omega)
     have O:=zU (l:=l) (i:=0) (by omega)
     have aa:=Tm.dp_mem (k:=k) (nm:=nm) (ot:=ot) (n:=n) (ty:=ty) (re:=re) O
     have:=zME (k:=k) (nm:=nm) (ot:=ot) (n:=n) (ty:=ty) (re:=re) (l:=l) (i:=0) (x:=(Tm.cod (Tm.stp f) ((Tm.mk k nm ot n ty re l).pt 0) 1).1) (by omega)
     exact zLl I (zQk ih _ 1 (by simp only [Tm.pt];omega) (h1 _ O) (by simp only at hs;omega))
    ·rename_i J
     rw [if_neg J] at hs
     cases hg:goS (Tm.stp f) (Tm.mk k nm ot n ty re l) (l.take (qQ k l.length)) 0 with
     | none=>
       rw [hg] at hs
       exact zRA I hs
     | some r=>
       rw [hg] at hs
       obtain ⟨j,x,Y,g2,rfl⟩:=rI hg
       have U:l[j]?=some x:=by
        rw [oa] at Y
        split at Y
        ·exact Y
        ·cases Y
       have O:=oB U
       have aa:=Tm.dp_mem (k:=k) (nm:=nm) (ot:=ot) (n:=n) (ty:=ty) (re:=re) O
       simp only [nJ] at hs ⊢
       have:=zME (k:=k) (nm:=nm) (ot:=ot) (n:=n) (ty:=ty) (re:=re) (l:=l) (i:=j) (x:=(Tm.stp f x).1) (oC.1 U).1
       exact zLl I (ih x (by omega) (h1 x O) (by omega))
theorem zCJ {g:Tm->Tm} {m:Nat}:∀ {l:List Tm},(∀ t∈l,(g t).sz<=t.sz*m)->zg (l.map g)<=zg l*m
 | [],_=>by simp [zg]
 | t::l,h=>by
   have J:=zCJ (l:=l) λx I=>h x (by simp [I])
   have O:=h t (by simp)
   simp only [ol,zg,o8]
   omega
theorem zAW {g:Tm->Tm} {m:Nat} {v:Tm}:∀ {l:List Tm} {j:Nat},(∀ t∈l,(g t).sz<=t.sz*m)->(∀ t,l[j]?=some t->v.sz<=t.sz*m)->zg ((l.map g).set j v)<=zg l*m
 | [],_,_,_=>by simp [zg]
 | t::l,0,h,J=>by
   have O:=zCJ (l:=l) λx I=>h x (by simp [I])
   have U:=J t rfl
   simp only [ol,mO,zg,o8]
   omega
 | t::l,j+1,h,J=>by
   have O:=zAW (l:=l) (j:=j) (v:=v) (λx I=>h x (by simp [I])) λx I=>J x (by simpa using I)
   have U:=h t (by simp)
   simp only [ol,me,zg,o8]
   omega
theorem zK3:∀ (f:Nat) (t:Tm) (x:ByteArray) (b:Tm),(t.sub f x b).sz<=t.sz*(b.sz+1)
 | 0,t,x,b=>by simp only [Tm.sub];exact m8 _ (by omega)
 | f + 1,.mk k nm ot n ty re l,x,b=>by
   have J:=zK3 f
   have one:∀ m:Nat,m<=zg l*(b.sz+1)->1+m<=(1+zg l)*(b.sz+1):=λm h=>by rw [o8];omega
   simp only [Tm.sub]
   split
   ·split
    ·simp only [Tm.sz];rw [o8];omega
    ·exact m8 _ (by omega)
   ·split
    ·simp only [Tm.sz]
     exact one _ (zCJ λt _=>J t x b)
    ·rename_i O
     obtain ⟨U,Y⟩:=xT O
     split
     ·simp only [Tm.sz]
      refine one _ (zAW (λt _=>J t x b) λt I=>?_)
      rw [zN U] at I
      rw [<-oW I]
      exact m8 _ (by omega)
     ·simp only [Tm.sz]
      refine one _ (zAW (λt _=>J t x b) λt I=>?_)
      rw [zN U] at I
      rw [<-oW I]
      exact oN (J _ x b) (oe _ (sw (yr f) _ _ _ _ _ _).s)
theorem qu {x:Tm}:∀ {l:List Tm} {i:Nat},i<l.length->zg (l.set i x)+(l.getD i tm0).sz=zg l+x.sz
 | t::l,0,_=>by simp only [mO,zg,mu];omega
 | t::l,i+1,h=>by
   have:=qu (x:=x) (l:=l) (i:=i) (by simpa using h)
   simp only [me,zg,mv];omega
theorem zJ0 {e:Tm} {i:Nat}:(e.pt i).sz<=e.sz:=by
 cases e with
 | mk k nm ot n ty re l=>
 simp only [Tm.pt]
 by_cases h:i<l.length
 ·have:=Tm.sz_mem (k:=k) (nm:=nm) (ot:=ot) (n:=n) (ty:=ty) (re:=re) (zU h);omega
 ·rw [oA,oT (by omega)]
  simp only [Option.getD_none,tm0,Tm.sz,zg];omega
theorem zRN (e:Tm) (h:e.sz<=400):e.apl.1.sz<=e.sz+64481600:=by
 have I:∀ (t b:Tm) (x:ByteArray) (m:Nat),t.sz<=m->b.sz<=400->(t.sb x b).sz<=m*401:=λt b x m Y h2=>
  oN (zK3 _ t x b) (Nat.mul_le_mul Y (by omega))
 cases e with
 | mk k nm ot n ty re l=>
 have g:∀ i,(l.getD i tm0).sz<=400:=λi=>oN (zJ0 (e:=.mk k nm ot n ty re l)) h
 have gp:∀ i j,((l.getD i tm0).pt j).sz<=400:=λi j=>oN zJ0 (g i)
 have U:=g 0
 have O:=g 1
 have J:=gp 0 0
 simp only [Tm.apl,Tm.opr]
 have k1:=I ((l.getD 0 tm0).pt 0) (l.getD 1 tm0) (l.getD 0 tm0).nm 400 J O
 have k2:=I ((l.getD 0 tm0).pt 0) (l.getD 0 tm0) (l.getD 0 tm0).nm 400 J U
 have k3:=I _ (l.getD 1 tm0) (l.getD 0 tm0).ot _ k2 O
 have k4:=I (l.getD 1 tm0) (l.getD 0 tm0) nm 400 O U
 have k5:=g (2 - (l.getD 0 tm0).no).toNat
 (repeat' split)<;>first | (simp only;omega) | (simp only [zKO,Tm.nod,Tm.sz,zg];omega)
theorem zR5 {S:Tm->Tm × Int} (Y:∀ x:Tm,x.sz<=400->(S x).1.sz<=x.sz+64481600):∀ (t:Tm) (m:Int),t.sz<=400->(t.cod S m).1.sz<=t.sz+64481600:=by
 refine Tm.ind λk nm ot n ty re l ih m hs=>?_
 simp only [Tm.cod]
 split
 ·unfold zQY
  split
  ·split
   ·have h1:=zJ0 (e:=(Tm.mk k nm ot n ty re l).pt 0) (i:=0)
    have I:=zJ0 (e:=Tm.mk k nm ot n ty re l) (i:=0)
    simp only;omega
   ·simp only;omega
  ·have I:=zJ0 (e:=Tm.mk k nm ot n ty re l) (i:=0)
   have h3:=Y _ (oN I hs)
   simp only [Tm.wth,Tm.pt] at h3 ⊢
   by_cases h:0<l.length
   ·have:=qu (x:=(S (l.getD 0 tm0)).1) h
    simp only [Tm.sz] at hs ⊢
    omega
   ·rw [mw (by omega)];omega
 ·have key:∀ (xs:List Tm),(∀ x∈xs,x∈l)->∀ l' r,yG S xs (zW k m)=some (l',r)->zg l'<=zg xs+64481600:=by
   intro xs
   induction xs with
   | nil=>intro _ l' r h;simp [yG] at h
   | cons x xs O=>
     intro U l' r h
     have J:=U x (by simp)
     simp only [yG] at h
     split at h
     ·cases h
      have:=ih x J (zW k m) (by have:=Tm.sz_mem (k:=k) (nm:=nm) (ot:=ot) (n:=n) (ty:=ty) (re:=re) J;omega)
      simp only [zg];omega
     ·split at h
      ·cases h
      ·rename_i l2 r2 I
       cases h
       have:=O (λy hy=>U y (by simp [hy])) _ _ I
       simp only [zg];omega
  cases hc:yG S l (zW k m) with
  | none=>simp only;omega
  | some p=>
    obtain ⟨l',r⟩:=p
    have:=key l (λx J=>J) l' r hc
    simp only [Tm.sz];omega
/-- a step of a small term is not great -/
theorem zOx:∀ (f:Nat) (e:Tm),e.sz<=400->(e.stp f).1.sz<=e.sz+64481600
 | 0,e,_=>by simp only [Tm.stp];omega
 | f + 1,.mk k nm ot n ty re l,hs=>by
   have O:=zOx f
   simp only [Tm.stp]
   split
   ·simp only;omega
   ·by_cases U:(Tm.mk k nm ot n ty re l).kd=10
    ·rw [if_pos U]
     have h2:=zJ0 (e:=Tm.mk k nm ot n ty re l) (i:=0)
     have Y:=zR5 O ((Tm.mk k nm ot n ty re l).pt 0) 1 (oN h2 hs)
     simp only [Tm.wth,Tm.pt] at Y ⊢
     by_cases h:0<l.length
     ·have:=qu (x:=((l.getD 0 tm0).cod (Tm.stp f) 1).1) h
      simp only [Tm.sz] at hs ⊢
      omega
     ·rw [mw (by omega)];omega
    ·rw [if_neg U]
     cases hg:goS (Tm.stp f) (Tm.mk k nm ot n ty re l) (l.take (qQ k l.length)) 0 with
     | none=>exact zRN _ hs
     | some r=>
       obtain ⟨j,x,J,g2,rfl⟩:=rI hg
       have I:l[j]?=some x:=by
        rw [oa] at J
        split at J
        ·exact J
        ·cases J
       have hj:=(oC.1 I).1
       have Y:=O x (by have:=Tm.sz_mem (k:=k) (nm:=nm) (ot:=ot) (n:=n) (ty:=ty) (re:=re) (oB I);omega)
       have h4:=qu (x:=(Tm.stp f x).1) hj
       have h5:l.getD j tm0=x:=by rw [oA,I];rfl
       rw [h5] at h4
       simp only [nJ,Tm.wth,Tm.sz] at hs ⊢
       omega
/-- a run of a term: how it ends, and the rules of its steps -/
def zBC:Nat->Nat->Tm->(Int × Tm × Nat) × List Int
 | 0,n,x=>if x.sz>400 then ((3,tm0,n),[]) else if x.res then ((1,x,n),[]) else ((2,x,n),[])
 | m+1,n,x=>if x.sz>400 then ((3,tm0,n),[]) else if x.res then ((1,x,n),[]) else if (x.stp x.dp).2=0 then ((4,x,n),[])
   else ((zBC m (n+1) (x.stp x.dp).1).1,(x.stp x.dp).2::(zBC m (n+1) (x.stp x.dp).1).2)
def vM (e:Tm) (I:Int):Int × Tm × Nat:=if (zAw e 0&&inB I 0 200)=true then (zBC I.toNat 0 e).1 else (0,tm0,0)
end Go.Proofs.YtnmnahkkcfghjaaGreat
