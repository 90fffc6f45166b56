/- Substitution and steps: sizes, and that terms stay terms (no program in sight). -/
import Derived.Test.YtkdjhkfiolhkiaaGreatYa
import Derived.Test.YtkdjhkfiolhkiaaGreatYe
import Derived.Test.YtkdjhkfiolhkiaaGreatKi
import Derived.Test.YtkdjhkfiolhkiaaGreatKh
set_option linter.unusedVariables false
set_option linter.unusedSimpArgs false
namespace Go.Proofs.YtkdjhkfiolhkiaaGreat
open Go Go.Proofs Go.Proofs.Tryz Go.IntWalk
theorem wW:∀ {l:List Tm} {t:Tm},t∈l->t.sz<=za l
 | u::us,t,h=>by
   simp only [za]
   rcases oG.1 h with rfl | h
   ·omega
   ·have:=wW h;omega
theorem Tm.sz_pos (t:Tm):1<=t.sz:=by cases t;simp only [Tm.sz];omega
theorem zHr:∀ {l:List Tm},ut l=true↔∀ x∈l,x.ok=true
 | []=>by simp [ut]
 | t::ts=>by simp only [ut,oL,zHr (l:=ts),oG,mn]
theorem szL:∀ {l' l:List Tm},l'.length=l.length->(∀ (i:Nat) (t' t:Tm),l'[i]?=some t'->l[i]?=some t->t.sz<=t'.sz)->za l<=za l'
 | [],[],_,_=>oD _
 | [],_::_,h,_=>by simp at h
 | _::_,[],h,_=>by simp at h
 | t'::ts',t::ts,h,hr=>by
   have h1:=szL (l':=ts') (l:=ts) (by simpa using h) fun i a b ha hb=>hr (i+1) a b (by simpa using ha) (by simpa using hb)
   have h0:=hr 0 t' t (by simp) (by simp)
   simp only [za];omega
theorem zLb {f:Nat} (hS:∀ t x y,t.V->t.sz<=(Tm.sub f t x (zCX y)).sz) (k:Int) (n:Nat) (fb:List ByteArray) (x:ByteArray):∀ (l:List ByteArray) (s:ByteArray × ByteArray × Tm),s.2.2.V->s.2.2.sz<=(rns (Tm.sub f) k n fb x l s).2.2.sz
 | [],s,_=>oD _
 | old::l,s,hv=>by
   have h1:=zLb hS k n fb x l (rn1 (Tm.sub f) k n fb x old s) ((zIP (wy f) k n fb x old s).v hv)
   have h2:s.2.2.sz<=(rn1 (Tm.sub f) k n fb x old s).2.2.sz:=by
    unfold rn1
    split
    ·split<;>exact hS _ _ _ hv
    ·exact oD _
   simp only [rns];omega
theorem zEF:∀ (f:Nat) (t:Tm) (x:ByteArray) (b:Tm),t.V->t.sz<=(t.sub f x b).sz
 | 0,t,x,b,_=>by simp only [Tm.sub];exact oD _
 | f + 1,.mk k nm ot n ty re l,x,b,hv=>by
   have ih:=zEF f
   have hvm:=vv.1 hv.2
   simp only [Tm.sub]
   split
   ·rename_i hk
    split
    ·rw [hv.1 (by assumption)]
     simp only [Tm.sz,za];exact Tm.sz_pos b
    ·exact oD _
   ·split
    ·simp only [Tm.sz]
     have:=szL (l':=l.map fun t=>Tm.sub f t x b) (l:=l) (by simp) fun i t' t ht' ht=>by
      rw [oE,ht] at ht'
      cases ht'
      exact ih t x b (hvm t (oB ht))
     omega
    ·rename_i hb
     obtain ⟨g1,g2⟩:=wx hb
     split
     ·simp only [Tm.sz]
      have:=szL (l':=(l.map fun t=>Tm.sub f t x b).set (yZ k l.length).toNat (l.getD (yZ k l.length).toNat tm0)) (l:=l) (by simp) fun i t' t ht' ht=>by
       rcases zF1 ht' ht with ⟨h1,h2⟩ | ⟨h1,h2⟩
       ·rw [h1,zo g1] at ht
        rw [h2,<-oT ht]
        exact oD _
       ·rw [h2];exact ih t x b (hvm t (oB ht))
      omega
     ·simp only [Tm.sz]
      have:=szL (l':=(l.map fun t=>Tm.sub f t x b).set (yZ k l.length).toNat (Tm.sub f (rns (Tm.sub f) k l.length b.fv x (bdN k nm ot l.length) (nm,ot,l.getD (yZ k l.length).toNat tm0)).2.2 x b)) (l:=l) (by simp) fun i t' t ht' ht=>by
       rcases zF1 ht' ht with ⟨h1,h2⟩ | ⟨h1,h2⟩
       ·rw [h1,zo g1] at ht
        rw [h2,<-oT ht]
        have hpv:=hvm _ (oB (zo g1))
        exact oS (zLb (fun t x y h=>ih t x _ h) k l.length b.fv x (bdN k nm ot l.length) (nm,ot,l.getD (yZ k l.length).toNat tm0) hpv) (ih _ x b ((u5 (wy f) _ _ _ _ _ _).v hpv))
       ·rw [h2];exact ih t x b (hvm t (oB ht))
      omega
theorem zPm {k:Int} {s w ot:ByteArray} {n:Nat} (v:ByteArray) (h:s∈bdN k w ot n):s=w\/s∈bdN k v ot n:=by
 unfold bdN at h ⊢
 split at h
 ·simp at h;exact .inl h
 ·rename_i h6
  rw [if_neg h6]
  split at h
  ·simp at h;exact .inl h
  ·rename_i h8
   rw [if_neg h8]
   split at h
   ·rename_i h9
    rw [if_pos h9]
    simp at h
    rcases h with h | h
    ·exact .inl h
    ·exact .inr (by simp [h])
   ·simp at h
theorem zO6 {k:Int} {s nm w:ByteArray} {n:Nat} (v:ByteArray) (h:s∈bdN k nm w n):s=w\/s∈bdN k nm v n:=by
 unfold bdN at h ⊢
 split at h
 ·rename_i h6
  rw [if_pos h6];exact .inr h
 ·rename_i h6
  rw [if_neg h6]
  split at h
  ·rename_i h8
   rw [if_pos h8];exact .inr h
  ·rename_i h8
   rw [if_neg h8]
   split at h
   ·rename_i h9
    rw [if_pos h9]
    simp at h
    rcases h with h | h
    ·exact .inr (by simp [h])
    ·exact .inl h
   ·simp at h
/-- a free name stays free where another is put in -/
theorem zLu:∀ (f:Nat) (t:Tm) (s x:ByteArray) (b:Tm),s∈t.fv->s≠x->s∈(t.sub f x b).fv
 | 0,t,s,x,b,h,_=>by simp only [Tm.sub];exact h
 | f + 1, .mk k nm ot n ty re l,s,x,b,h,hne=>by
   have ih:=zLu f
   rw [Tm.fv_mem] at h
   simp only [Tm.sub]
   split
   ·rename_i hk
    rcases h with ⟨_,h⟩ | ⟨h,_⟩
    ·rw [if_neg (fun hc=>hne (by rw [h,hc]))]
     rw [Tm.fv_mem]
     exact .inl ⟨hk,h⟩
    ·exact absurd hk h
   ·rename_i hk
    obtain ⟨j,p,hj,hs⟩:∃ (j:Nat) (x:Tm),l[j]?=some x/\s∈fvI (yZ k l.length) (bdN k nm ot l.length) j x:=by
     rcases h with ⟨h,_⟩ | ⟨_,h⟩
     ·exact absurd h hk
     ·exact h
    unfold fvI at hs
    split
    ·rename_i hb
     rw [Tm.fv_mem]
     refine .inr ⟨hk,j,p.sub f x b,by rw [oE,hj];rfl,?_⟩
     rw [if_neg (by omega)] at hs
     unfold fvI
     rw [nD,if_neg (by omega)]
     exact ih p s x b hs hne
    ·rename_i hb
     obtain ⟨g1,g2⟩:=wx hb
     have hjl:j<l.length:=(oC.1 hj).1
     have hgd:=zo g1
     split
     ·rw [Tm.fv_mem]
      by_cases hjb:(j:Int)=yZ k l.length
      ·refine .inr ⟨hk,j,p,?_,?_⟩
       ·have:(yZ k l.length).toNat=j:=by omega
        rw [this] at hgd ⊢
        rw [nL (by simpa using hjl),<-oT (hgd.symm.trans hj)]
       ·unfold fvI;simp only [nY,nD];exact hs
      ·refine .inr ⟨hk,j,p.sub f x b,?_,?_⟩
       ·rw [o9 (by omega),oE,hj];rfl
       ·rw [if_neg hjb] at hs
        unfold fvI
        simp only [nY,nD]
        rw [if_neg hjb]
        exact ih p s x b hs hne
     ·rw [Tm.fv_mem]
      by_cases hjb:(j:Int)=yZ k l.length
      ·have hj2:(yZ k l.length).toNat=j:=by omega
       rw [hj2] at hgd ⊢
       have hpe:l.getD j tm0=p:=oT (hgd.symm.trans hj)
       rw [hpe]
       rw [if_pos hjb,pM] at hs
       obtain ⟨hs1,hs2⟩:=hs
       have r1:∀ (old:ByteArray) (st:ByteArray × ByteArray × Tm),s≠old->s∈st.2.2.fv->s∉bdN k st.1 st.2.1 l.length->s∈(rn1 (Tm.sub f) k l.length b.fv x old st).2.2.fv/\s∉bdN k (rn1 (Tm.sub f) k l.length b.fv x old st).1 (rn1 (Tm.sub f) k l.length b.fv x old st).2.1 l.length:=fun old st h1 h2 h3=>by
        unfold rn1
        have hfr:=zCH (b.fv++(st.2.2.fv++([x]++bdN k st.1 st.2.1 l.length)))
        generalize fresh (b.fv++(st.2.2.fv++([x]++bdN k st.1 st.2.1 l.length)))=w at hfr
        have hw:s≠w:=fun hc=>hfr (by rw [<-hc];simp [h2])
        split
        ·split
         ·exact ⟨ih _ _ _ _ h2 h1,fun hc=>(zPm st.1 hc).elim hw h3⟩
         ·exact ⟨ih _ _ _ _ h2 h1,fun hc=>(zO6 st.2.1 hc).elim hw h3⟩
        ·exact ⟨h2,h3⟩
       have rs:∀ (ns:List ByteArray) (st:ByteArray × ByteArray × Tm),(∀ o∈ns,s≠o)->s∈st.2.2.fv->s∉bdN k st.1 st.2.1 l.length->s∈(rns (Tm.sub f) k l.length b.fv x ns st).2.2.fv/\s∉bdN k (rns (Tm.sub f) k l.length b.fv x ns st).1 (rns (Tm.sub f) k l.length b.fv x ns st).2.1 l.length:=by
        intro ns
        induction ns with
        | nil=>exact fun st _ h2 h3=>⟨h2,h3⟩
        | cons o os ih2=>
          intro st h1 h2 h3
          obtain ⟨a1,a2⟩:=r1 o st (h1 o (by simp)) h2 h3
          exact ih2 _ (fun o' ho=>h1 o' (by simp [ho])) a1 a2
       obtain ⟨a1,a2⟩:=rs (bdN k nm ot l.length) (nm,ot,p) (fun o ho hc=>hs2 (hc ▸ ho)) hs1 hs2
       refine .inr ⟨hk,j,_,nL (by simpa using hjl),?_⟩
       unfold fvI
       simp only [nY,nD]
       rw [if_pos hjb,pM]
       exact ⟨ih _ _ _ _ a1 hne,a2⟩
      ·refine .inr ⟨hk,j,p.sub f x b,?_,?_⟩
       ·rw [o9 (by omega),oE,hj];rfl
       ·rw [if_neg hjb] at hs
        unfold fvI
        simp only [nY,nD]
        rw [if_neg hjb]
        exact ih p s x b hs hne
/-- what is put in is there -/
theorem zMT {f:Nat} (k:Int) (n:Nat) (fb:List ByteArray) (x:ByteArray):∀ (l:List ByteArray) (s:ByteArray × ByteArray × Tm),x∉l->x∈s.2.2.fv->x∈(rns (Tm.sub f) k n fb x l s).2.2.fv
 | [],s,_,h=>h
 | old::l,s,hx,h=>by
   refine zMT k n fb x l _ (fun hc=>hx (by simp [hc])) ?_
   unfold rn1
   have hne:x≠old:=fun hc=>hx (by simp [hc])
   split
   ·split<;>exact zLu f _ _ _ _ h hne
   ·exact h
theorem zKu:∀ (f:Nat) (t:Tm) (x:ByteArray) (b:Tm),t.dp<=f->x∈t.fv->b.sz<=(t.sub f x b).sz
 | 0,t,x,b,h,_=>absurd (Tm.dp_pos t) (by omega)
 | f + 1,.mk k nm ot n ty re l,x,b,hd,h=>by
   have ih:=zKu f
   rw [Tm.fv_mem] at h
   simp only [Tm.dp] at hd
   have hdp:=fun y hy=>uz.1 (ma hd) y hy
   simp only [Tm.sub]
   split
   ·rename_i hk
    rcases h with ⟨_,h⟩ | ⟨h,_⟩
    ·rw [if_pos h.symm];exact oD _
    ·exact absurd hk h
   ·rename_i hk
    obtain ⟨j,p,hj,hs⟩:∃ (j:Nat) (y:Tm),l[j]?=some y/\x∈fvI (yZ k l.length) (bdN k nm ot l.length) j y:=by
     rcases h with ⟨h,_⟩ | ⟨_,h⟩
     ·exact absurd h hk
     ·exact h
    unfold fvI at hs
    have hpd:=hdp p (oB hj)
    have fin:∀ (nm' ot':ByteArray) (l':List Tm) (y:Tm),l'[j]?=some y->b.sz<=y.sz->b.sz<=(Tm.mk k nm' ot' n ty re l').sz:=fun nm' ot' l' y h1 h2=>by
     have:=wW (oB h1)
     simp only [Tm.sz];omega
    split
    ·rename_i hb
     rw [if_neg (by omega)] at hs
     exact fin _ _ _ (p.sub f x b) (by rw [oE,hj];rfl) (ih p x b hpd hs)
    ·rename_i hb
     obtain ⟨g1,g2⟩:=wx hb
     have hjl:j<l.length:=(oC.1 hj).1
     have hgd:=zo g1
     split
     ·rename_i hc
      by_cases hjb:(j:Int)=yZ k l.length
      ·exfalso
       have:(yZ k l.length).toNat=j:=by omega
       rw [this] at hgd hc
       have hpe:l.getD j tm0=p:=oT (hgd.symm.trans hj)
       rw [if_pos hjb,pM] at hs
       rw [hpe] at hc
       rcases hc with hc | hc
       ·exact hs.2 hc
       ·exact hc hs.1
      ·rw [if_neg hjb] at hs
       exact fin _ _ _ (p.sub f x b) (by rw [o9 (by omega),oE,hj];rfl) (ih p x b hpd hs)
     ·rename_i hc
      by_cases hjb:(j:Int)=yZ k l.length
      ·have hj2:(yZ k l.length).toNat=j:=by omega
       rw [hj2] at hgd ⊢
       have hpe:l.getD j tm0=p:=oT (hgd.symm.trans hj)
       rw [hpe]
       rw [if_pos hjb,pM] at hs
       have hle:=u5 (wy f) k l.length b.fv x (bdN k nm ot l.length) (nm,ot,p)
       have hled:=hle.d
       refine fin _ _ _ _ (nL (by simpa using hjl)) (ih _ x b (oS hled hpd) (zMT _ _ _ _ _ _ hs.2 hs.1))
      ·rw [if_neg hjb] at hs
       exact fin _ _ _ (p.sub f x b) (by rw [o9 (by omega),oE,hj];rfl) (ih p x b hpd hs)
theorem zK6 {k:Nat} (h:k<=999):Lib.decDigits k=(if k<10 then [UInt8.ofNat (48+k)] else if k<100 then [UInt8.ofNat (48+k / 10),UInt8.ofNat (48+k % 10)] else [UInt8.ofNat (48+k / 10 / 10),UInt8.ofNat (48+k / 10 % 10),UInt8.ofNat (48+k % 10)]):=by
 have e1:∀ u,u<10->Lib.decDigits u=[UInt8.ofNat (48+u)]:=fun u h=>by rw [Lib.decDigits,dif_pos h]
 have e2:∀ u,¬u<10->Lib.decDigits u=Lib.decDigits (u / 10)++[UInt8.ofNat (48+u % 10)]:=fun u h=>by rw [Lib.decDigits,dif_neg h]
 split
 ·rename_i h1;exact e1 k h1
 ·rename_i h1
  rw [e2 k h1]
  split
  ·rename_i h2;rw [e1 _ (by omega)];rfl
  ·rename_i h2
   rw [e2 (k / 10) (by omega),e1 _ (by omega)];rfl
theorem zMD:∀ a:_root_.Fin 10,yL ⟨#[118,UInt8.ofNat (48+a.val)]⟩=true:=by decide +kernel
theorem zL4:∀ a b:_root_.Fin 10,yL ⟨#[118,UInt8.ofNat (48+a.val),UInt8.ofNat (48+b.val)]⟩=true:=by decide +kernel
theorem zK9:∀ a b c:_root_.Fin 10,yL ⟨#[118,UInt8.ofNat (48+a.val),UInt8.ofNat (48+b.val),UInt8.ofNat (48+c.val)]⟩=true:=by decide +kernel
theorem zN7 {k:Nat} (h:k<=999):yL (vg k)=true:=by
 unfold vg
 rw [zK6 h]
 split
 ·rename_i h1;exact zMD ⟨k,h1⟩
 ·split
  ·rename_i h1 h2;exact zL4 ⟨k / 10,by omega⟩ ⟨k % 10,by omega⟩
  ·rename_i h1 h2;exact zK9 ⟨k / 10 / 10,by omega⟩ ⟨k / 10 % 10,by omega⟩ ⟨k % 10,by omega⟩
theorem zHb {l:List ByteArray} (h:l.length<=998):yL (fresh l)=true:=by
 obtain ⟨k,e,_,h2,_,_⟩:=uT l
 rw [e]
 exact zN7 (by omega)
theorem Tm.vc_sz:∀ t:Tm,t.vc<=t.sz:=by
 refine Tm.ind fun k nm ot n ty re l ih=>?_
 have key:∀ l:List Tm,(∀ t∈l,t.vc<=t.sz)->wT l<=za l:=by
  intro l
  induction l with
  | nil=>intro _;exact oD _
  | cons t ts ih2=>
    intro h
    have h1:=h t (by simp)
    have h2:=ih2 fun x hx=>h x (by simp [hx])
    simp only [wT,za];omega
 have:=key l ih
 simp only [Tm.vc,Tm.sz]
 split<;>omega
theorem Tm.ok_mk {k:Int} {nm ot:ByteArray} {n:Int} {ty re:Ty} {l:List Tm}:(Tm.mk k nm ot n ty re l).ok=true↔(∀ x∈l,x.ok=true)/\zJ k nm ot n ty re=true/\(l.length:Int)=zDY k nm:=by
 simp only [Tm.ok,oL,zHr,nz]
theorem zLQ {s:ByteArray} (h:yL s=true):(zCX s).ok=true:=by
 refine Tm.ok_mk.2 ⟨by simp,?_,rfl⟩
 have:(Ty.mk 0 []).valid=false:=by decide +kernel
 simp [zJ,sN,this,Ty.zero,Ty.k,Ty.as,inB,xA,h]
/-- the names of a form that binds can be others -/
theorem zMb {k:Int} {nm ot nm' ot':ByteArray} {n:Int} {ty re:Ty} {m:Nat} (hb:¬yZ k m<0) (h:zJ k nm ot n ty re=true) (h1:yL nm'=true) (h2:k=9->yL ot'=true/\nm'≠ot') (h3:k≠9->ot'=ot):zJ k nm' ot' n ty re=true/\(zDY k nm'=zDY k nm):=by
 have hk:k=6\/k=8\/k=9:=by
  rcases vF k m with h | ⟨_,_,h | h⟩ | ⟨_,_,h⟩
  ·omega
  ·exact .inl h
  ·exact .inr (.inr h)
  ·exact .inr (.inl h)
 rcases hk with rfl | rfl | rfl
 ·have h3:=h3 (by decide)
  subst h3
  refine ⟨?_,rfl⟩
  simp only [zJ,xA,oL] at h ⊢
  simp [h1] at h ⊢
  exact ⟨h.1,h.2.1,h.2.2.1,h.2.2.2.1,h.2.2.2.2.1,h.2.2.2.2.2.2⟩
 ·have h3:=h3 (by decide)
  subst h3
  refine ⟨?_,rfl⟩
  simp only [zJ,xA,oL] at h ⊢
  simp [h1] at h ⊢
  exact ⟨h.1,h.2.1,h.2.2.1,h.2.2.2.1,h.2.2.2.2.1,h.2.2.2.2.2.2⟩
 ·obtain ⟨h4,h5⟩:=h2 rfl
  refine ⟨?_,rfl⟩
  simp only [zJ,xA,oL] at h ⊢
  simp [h1,h4,h5] at h ⊢
  exact ⟨h.1,h.2.1,h.2.2.1,h.2.2.2.1⟩
theorem zMq {k:Int} {nm ot:ByteArray} {n:Int} {ty re:Ty} {m:Nat} (hb:¬yZ k m<0) (h:zJ k nm ot n ty re=true):yL nm=true/\(k=9->yL ot=true/\nm≠ot):=by
 have hk:k=6\/k=8\/k=9:=by
  rcases vF k m with h | ⟨_,_,h | h⟩ | ⟨_,_,h⟩
  ·omega
  ·exact .inl h
  ·exact .inr (.inr h)
  ·exact .inr (.inl h)
 rcases hk with rfl | rfl | rfl
 ·simp only [zJ,xA,oL] at h
  refine ⟨?_,fun h=>absurd h (by decide)⟩
  simp at h;exact h.2.2.2.2.2.1
 ·simp only [zJ,xA,oL] at h
  refine ⟨?_,fun h=>absurd h (by decide)⟩
  simp at h;exact h.2.2.2.2.2.1
 ·simp only [zJ,xA,oL] at h
  simp at h
  exact ⟨h.2.2.2.2.1,fun _=>⟨h.2.2.2.2.2.1,h.2.2.2.2.2.2⟩⟩
/-- a term in which a small term is put for a name is a term, if it is small -/
theorem zOa:∀ (f:Nat) (e:Tm) (x:ByteArray) (b:Tm),e.dp<=f->e.ok=true->b.ok=true->(e.sub f x b).sz<=400->(e.sub f x b).ok=true
 | 0,e,x,b,h,_,_,_=>absurd (Tm.dp_pos e) (by omega)
 | f + 1, .mk k nm ot n ty re l,x,b,hd,he,hb,hs=>by
   have ih:=zOa f
   obtain ⟨h1,h2,h3⟩:=Tm.ok_mk.1 he
   simp only [Tm.dp] at hd
   have hdp:=fun y hy=>uz.1 (ma hd) y hy
   simp only [Tm.sub] at hs ⊢
   split
   ·rename_i hk
    rw [if_pos hk] at hs
    split
    ·exact hb
    ·exact he
   ·rename_i hk
    rw [if_neg hk] at hs
    split
    ·rename_i hbd
     rw [if_pos hbd] at hs
     refine Tm.ok_mk.2 ⟨fun y hy=>?_,h2,by simpa using h3⟩
     obtain ⟨z,hz,rfl⟩:=oQ.1 hy
     have:=wW hy
     simp only [Tm.sz] at hs
     exact ih z x b (hdp z hz) (h1 z hz) hb (by omega)
    ·rename_i hbd
     rw [if_neg hbd] at hs
     obtain ⟨g1,g2⟩:=wx hbd
     have hgd:=zo g1
     have hpm:=oB hgd
     generalize hp:l.getD (yZ k l.length).toNat tm0=p at hs hgd hpm ⊢
     have parts:∀ (v:Tm) (s:Nat),v.ok=true->za ((l.map fun t=>Tm.sub f t x b).set (yZ k l.length).toNat v)<=400->∀ y∈(l.map fun t=>Tm.sub f t x b).set (yZ k l.length).toNat v,y.ok=true:=fun v s hv hs y hy=>by
      have hsz:=wW hy
      rcases nK hy with hy | rfl
      ·obtain ⟨z,hz,rfl⟩:=oQ.1 hy
       exact ih z x b (hdp z hz) (h1 z hz) hb (by omega)
      ·exact hv
     split
     ·rename_i hc
      rw [if_pos hc] at hs
      simp only [Tm.sz] at hs
      exact Tm.ok_mk.2 ⟨parts _ 0 (h1 p hpm) (by omega),h2,by simpa using h3⟩
     ·rename_i hc
      rw [if_neg hc] at hs
      have hxb:x∉bdN k nm ot l.length:=fun h=>hc (.inl h)
      have hxp:x∈p.fv:=mC.1 fun h=>hc (.inr h)
      have hpV:=zP1 p (h1 p hpm)
      have hpd:=hdp p hpm
      obtain ⟨n1,n2⟩:=zMq hbd h2
      have hleT:=u5 (wy f) k l.length b.fv x (bdN k nm ot l.length) (nm,ot,p)
      have hled:=hleT.d
      have hlast:=wW (oB (nL (l:=l.map fun t=>Tm.sub f t x b) (i:=(yZ k l.length).toNat) (a:=Tm.sub f (rns (Tm.sub f) k l.length b.fv x (bdN k nm ot l.length) (nm,ot,p)).2.2 x b) (by simpa using g1)))
      simp only [Tm.sz] at hs
      have hfx:=zMT (f:=f) k l.length b.fv x (bdN k nm ot l.length) (nm,ot,p) hxb hxp
      have hbs:=zKu f _ x b (oS hled hpd) hfx
      have hps:=zEF f (rns (Tm.sub f) k l.length b.fv x (bdN k nm ot l.length) (nm,ot,p)).2.2 x b (hleT.v hpV)
      have hbf:=Tm.fv_len b
      have hbv:=Tm.vc_sz b
      have hfb:b.fv.length<=400:=by omega
      -- one name
      have r1:∀ (old:ByteArray) (st:ByteArray × ByteArray × Tm),old∈bdN k st.1 st.2.1 l.length->st.2.2.ok=true->st.2.2.dp<=f->(rn1 (Tm.sub f) k l.length b.fv x old st).2.2.sz<=400->yL st.1=true->(k=9->yL st.2.1=true/\st.1≠st.2.1) ->
        (rn1 (Tm.sub f) k l.length b.fv x old st).2.2.ok=true/\yL (rn1 (Tm.sub f) k l.length b.fv x old st).1=true/\(k=9->yL (rn1 (Tm.sub f) k l.length b.fv x old st).2.1=true/\(rn1 (Tm.sub f) k l.length b.fv x old st).1≠(rn1 (Tm.sub f) k l.length b.fv x old st).2.1)/\(k≠9->(rn1 (Tm.sub f) k l.length b.fv x old st).2.1=st.2.1):=fun old st ho a1 a2 a3 a4 a5=>by
       have hfr:=zCH (b.fv++(st.2.2.fv++([x]++bdN k st.1 st.2.1 l.length)))
       unfold rn1 at a3 ⊢
       split
       ·rename_i hold
        rw [if_pos hold] at a3
        have hss:st.2.2.sz<=400:=by
         split at a3
         ·exact oS (zEF f _ _ _ (zP1 _ a1)) a3
         ·exact oS (zEF f _ _ _ (zP1 _ a1)) a3
        have hsf:=Tm.fv_len st.2.2
        have hsv:=Tm.vc_sz st.2.2
        have hbn:=zAO k st.1 st.2.1 l.length
        have hnm:=zHb (l:=b.fv++(st.2.2.fv++([x]++bdN k st.1 st.2.1 l.length))) (by simp only [oH,oP,od];omega)
        generalize fresh (b.fv++(st.2.2.fv++([x]++bdN k st.1 st.2.1 l.length)))=w at hfr hnm a3 ⊢
        have hw:w∉bdN k st.1 st.2.1 l.length:=fun h=>hfr (by simp [h])
        split
        ·rename_i hq
         rw [if_pos hq] at a3
         refine ⟨ih _ _ _ a2 a1 (zLQ hnm) a3,hnm,fun h9=>⟨(a5 h9).1,fun hcc=>hw ?_⟩,fun _=>rfl⟩
         subst h9
         have h9:l.length=1:=by rcases vF 9 l.length with h | ⟨_,h,_⟩ | ⟨_,_,h⟩<;>first | exact h | omega
         have hcc:w=st.2.1:=hcc
         rw [h9,hcc];simp [bdN]
        ·rename_i hq
         rw [if_neg hq] at a3
         have h9:k=9:=by
          unfold bdN at ho
          (repeat' split at ho)<;>simp_all
         subst h9
         have hl1:l.length=1:=by rcases vF 9 l.length with h | ⟨_,h,_⟩ | ⟨_,_,h⟩<;>first | exact h | omega
         refine ⟨ih _ _ _ a2 a1 (zLQ hnm) a3,a4,fun _=>⟨hnm,fun hcc=>hw ?_⟩,fun h=>absurd rfl h⟩
         have hcc:st.1=w:=hcc
         rw [hl1,<-hcc];simp [bdN]
       ·exact ⟨a1,a4,a5,fun _=>rfl⟩
      have hstr:∀ (os:List ByteArray) (st:ByteArray × ByteArray × Tm),st.2.2.V->(rns (Tm.sub f) k l.length b.fv x os st).2.2.sz<=400->st.2.2.sz<=400:=fun os st hv h=>oS (zLb (fun t x y h=>zEF f t x _ h) _ _ _ _ _ _ hv) h
      have fin:(rns (Tm.sub f) k l.length b.fv x (bdN k nm ot l.length) (nm,ot,p)).2.2.ok=true/\yL (rns (Tm.sub f) k l.length b.fv x (bdN k nm ot l.length) (nm,ot,p)).1=true /\
        (k=9->yL (rns (Tm.sub f) k l.length b.fv x (bdN k nm ot l.length) (nm,ot,p)).2.1=true/\(rns (Tm.sub f) k l.length b.fv x (bdN k nm ot l.length) (nm,ot,p)).1≠(rns (Tm.sub f) k l.length b.fv x (bdN k nm ot l.length) (nm,ot,p)).2.1) /\
        (k≠9->(rns (Tm.sub f) k l.length b.fv x (bdN k nm ot l.length) (nm,ot,p)).2.1=ot):=by
       have hall:(rns (Tm.sub f) k l.length b.fv x (bdN k nm ot l.length) (nm,ot,p)).2.2.sz<=400:=by omega
       have hbc:bdN k nm ot l.length=[nm]\/(k=9/\l.length=1/\bdN k nm ot l.length=[nm,ot]):=by
        rcases vF k l.length with h | ⟨_,h,h | h⟩ | ⟨_,h,h'⟩
        ·omega
        ·left;subst h;rw [show l.length=1 from ‹_›];simp [bdN]
        ·right;subst h;rw [show l.length=1 from ‹_›];simp [bdN]
        ·left;subst h';rw [h];simp [bdN]
       rcases hbc with e | ⟨hk9,hl1,e⟩
       ·rw [e] at hall ⊢
        simp only [rns] at hall ⊢
        exact r1 nm (nm,ot,p) (by rw [e];simp) (h1 p hpm) hpd hall n1 n2
       ·rw [e] at hall ⊢
        simp only [rns] at hall ⊢
        have q1:=zIP (wy f) k l.length b.fv x nm (nm,ot,p)
        have q2:=hstr [ot] _ (q1.v hpV) (by simpa only [rns] using hall)
        obtain ⟨b1,b2,b3,b4⟩:=r1 nm (nm,ot,p) (by rw [e];simp) (h1 p hpm) hpd q2 n1 n2
        have q1d:=q1.d
        have hm2:ot∈bdN k (rn1 (Tm.sub f) k l.length b.fv x nm (nm,ot,p)).1 (rn1 (Tm.sub f) k l.length b.fv x nm (nm,ot,p)).2.1 l.length:=by
         have:(rn1 (Tm.sub f) k l.length b.fv x nm (nm,ot,p)).2.1=ot:=by
          unfold rn1
          simp only [md]
          split<;>rfl
         rw [this,hk9,hl1];simp [bdN]
        obtain ⟨d1,d2,d3,d4⟩:=r1 ot _ hm2 b1 (oS q1d hpd) hall b2 b3
        exact ⟨d1,d2,d3,fun h=>absurd hk9 h⟩
      obtain ⟨fa,fb2,fc,fd⟩:=fin
      obtain ⟨u1,u2⟩:=zMb hbd h2 fb2 fc fd
      exact Tm.ok_mk.2 ⟨parts _ 0 (ih _ x b (oS hled hpd) fa hb (by omega)) (by omega),u1,by rw [u2];simpa using h3⟩
theorem Tm.dp_mem {k:Int} {nm ot:ByteArray} {n:Int} {ty re:Ty} {l:List Tm} {y:Tm} (h:y∈l):y.dp+1<=(Tm.mk k nm ot n ty re l).dp:=by
 have:=uz.1 (oD (t7 l)) y h
 simp only [Tm.dp];omega
theorem Tm.sz_mem {k:Int} {nm ot:ByteArray} {n:Int} {ty re:Ty} {l:List Tm} {y:Tm} (h:y∈l):y.sz+1<=(Tm.mk k nm ot n ty re l).sz:=by
 have:=wW h
 simp only [Tm.sz];omega
theorem zK8 {e x:Tm} {i:Nat} (he:e.ok=true) (hx:x.ok=true):(e.wth i x).ok=true:=by
 cases e with
 | mk k nm ot n ty re l=>
 obtain ⟨h1,h2,h3⟩:=Tm.ok_mk.1 he
 refine Tm.ok_mk.2 ⟨fun y hy=>?_,h2,by simpa using h3⟩
 rcases nK hy with hy | rfl
 ·exact h1 y hy
 ·exact hx
theorem zL9 {k:Int} {nm ot:ByteArray} {n:Int} {ty re:Ty} {l:List Tm} {i:Nat} {x:Tm} (h:i<l.length):x.sz+1<=((Tm.mk k nm ot n ty re l).wth i x).sz:=by
 simp only [Tm.wth]
 exact Tm.sz_mem (oB (nL h))
theorem zPo {e:Tm} {i:Nat} (he:e.ok=true) (hi:i<e.as.length):(e.pt i).ok=true:=by
 cases e with
 | mk k nm ot n ty re l=>exact (Tm.ok_mk.1 he).1 _ (zl hi)
theorem zOt {k n:Int} (h:(k=2/\0<=n/\n<=10006)\/(k=3/\0<=n/\n<=1)):(zM8 k n).ok=true:=by
 have hz:(Ty.mk 0 []).valid=false:=by decide +kernel
 rcases h with ⟨rfl,h⟩ | ⟨rfl,h⟩
 ·refine Tm.ok_mk.2 ⟨by simp,?_,rfl⟩
  simp [zJ,sN,hz,Ty.zero,Ty.k,Ty.as,inB,xA,h]
 ·refine Tm.ok_mk.2 ⟨by simp,?_,rfl⟩
  simp [zJ,sN,hz,Ty.zero,Ty.k,Ty.as,inB,xA,h]
theorem zQI {x:Tm} (h:x.ok=true):(Tm.nod 10 [x]).ok=true:=by
 have hz:(Ty.mk 0 []).valid=false:=by decide +kernel
 refine Tm.ok_mk.2 ⟨by simpa using h,?_,rfl⟩
 simp [zJ,sN,hz,Ty.zero,Ty.k,Ty.as,inB,xA]
theorem zNO {e b:Tm} {x:ByteArray} (he:e.ok=true) (hb:b.ok=true) (h:(e.sb x b).sz<=400):(e.sb x b).ok=true:=zOa _ e x b (oD _) he hb h
theorem zQt {e:Tm} (he:e.ok=true) (hs:e.apl.1.sz<=400):e.apl.1.ok=true:=by
 cases e with
 | mk k nm ot n ty re l=>
 obtain ⟨h1,h2,h3⟩:=Tm.ok_mk.1 he
 obtain ⟨a1,a2,a3,a4,a5⟩:=uK he
 have g:∀ i,i<l.length->(l.getD i tm0).ok=true:=fun i hi=>h1 _ (zl hi)
 simp only [Tm.apl] at hs ⊢
 split
 ·rename_i hk
  unfold Tm.opr
  split
  ·refine zOt ?_
   simp only [Tm.nm]
   have hin:=zKi nm (l.getD 0 tm0).no (l.getD 1 tm0).no
   unfold zIl
   by_cases ho:zHx nm=true
   ·rw [if_pos ho];exact .inl ⟨rfl,hin.1,hin.2⟩
   ·rw [if_neg ho]
    simp only [zHx,mS,nP,not_or] at ho
    have:=zHY ho.1 ho.2.1 ho.2.2 (l.getD 0 tm0).no (l.getD 1 tm0).no
    exact .inr ⟨rfl,this.1,this.2⟩
  ·exact he
 ·rename_i hk4
  rw [if_neg hk4] at hs
  split
  ·rename_i hk
   split
   ·rename_i hb
    have:=zKs (g 0 (by have:=a3 hk;omega)) hb
    refine g _ ?_
    have:=a3 hk
    omega
   ·exact he
  ·rename_i hk5
   rw [if_neg hk5] at hs
   split
   ·rename_i hk
    rw [if_pos hk] at hs
    have hl:=a2 (.inl hk)
    have q0:=g 0 (by omega)
    have q1:=g 1 (by omega)
    generalize l.getD 0 tm0=p at hs q0 ⊢
    generalize l.getD 1 tm0=q at hs q1 ⊢
    have hp:(p.kd=6\/p.kd=9)->(p.pt 0).ok=true:=fun h=>by
     refine zPo q0 ?_
     cases p with
     | mk pk pn po pm pt pr pl=>
     have:=(uK q0).1 (by simp only [Tm.kd] at h;omega)
     simp only [Tm.as];omega
    split
    ·rename_i h6
     rw [if_pos h6] at hs
     exact zNO (hp (.inl h6)) q1 hs
    ·rename_i h6
     rw [if_neg h6] at hs
     split
     ·rename_i h9
      rw [if_pos h9] at hs
      have hV:=zO9 (p.pt 0).dp (p.pt 0) p.nm p (zP1 _ (hp (.inr h9))) (zP1 _ q0)
      have hle:=zEF ((p.pt 0).sb p.nm p).dp ((p.pt 0).sb p.nm p) p.ot q hV
      exact zNO (zNO (hp (.inr h9)) q0 (oS hle hs)) q1 hs
     ·exact he
   ·rename_i hk7
    rw [if_neg hk7] at hs
    split
    ·rename_i hk
     rw [if_pos hk] at hs
     have hl:=a2 (.inr hk)
     exact zNO (g 1 (by omega)) (g 0 (by omega)) hs
    ·rename_i hk8
     split
     ·rename_i hk
      split
      ·rename_i h10
       have q0:=g 0 (by have:=a1 (by omega);omega)
       refine zPo q0 ?_
       generalize l.getD 0 tm0=p at q0 h10 ⊢
       cases p with
       | mk pk pn po pm pt pr pl=>
       have:=(uK q0).1 (by simp only [Tm.kd] at h10;omega)
       simp only [Tm.as];omega
      ·exact he
     ·split
      ·rename_i hk
       split
       ·exact zQI (g 0 (by have:=a1 (by omega);omega))
       ·exact he
      ·exact he
/-- the splice's part, and what comes in its place -/
theorem zQG {S:Tm->Tm × Int} {f:Nat} (hS:∀ x:Tm,x.dp<=f->x.ok=true->(S x).1.sz<=400->(S x).1.ok=true):∀ (t:Tm) (m:Int),t.dp<=f+1->t.ok=true->(t.cod S m).1.sz<=400->(t.cod S m).1.ok=true:=by
 refine Tm.ind fun k nm ot n ty re l ih m hd he hs=>?_
 obtain ⟨h1,h2,h3⟩:=Tm.ok_mk.1 he
 simp only [Tm.cod] at hs ⊢
 split
 ·rename_i hk
  rw [if_pos hk] at hs
  have hl:=(uK he).1 (by omega)
  unfold zPs at hs ⊢
  have q0:((Tm.mk k nm ot n ty re l).pt 0).ok=true:=h1 _ (zl (by omega))
  have d0:((Tm.mk k nm ot n ty re l).pt 0).dp<=f:=by
   have:=Tm.dp_mem (k:=k) (nm:=nm) (ot:=ot) (n:=n) (ty:=ty) (re:=re) (zl (l:=l) (i:=0) (by omega))
   simp only [Tm.pt];omega
  generalize hp:(Tm.mk k nm ot n ty re l).pt 0=p at hs q0 d0 ⊢
  split
  ·split
   ·rename_i h10
    refine zPo q0 ?_
    cases p with
    | mk pk pn po pm pt pr pl=>
    have:=(uK q0).1 (by simp only [Tm.kd] at h10;omega)
    simp only [Tm.as];omega
   ·exact he
  ·rename_i hr
   rw [if_neg hr] at hs
   have:=zL9 (k:=k) (nm:=nm) (ot:=ot) (n:=n) (ty:=ty) (re:=re) (l:=l) (i:=0) (x:=(S p).1) (by omega)
   exact zK8 he (hS p d0 q0 (by simp only at hs;omega))
 ·rename_i hk
  rw [if_neg hk] at hs
  have key:∀ (xs:List Tm),(∀ x∈xs,x∈l)->∀ l' r,yX S xs (xC k m)=some (l',r)->za l'<=400->l'.length=xs.length/\∀ x∈l',x.ok=true:=by
   intro xs
   induction xs with
   | nil=>intro _ l' r h;simp [yX] at h
   | cons x xs ihx=>
     intro hm l' r h hs
     have hx:=hm x (by simp)
     simp only [yX] at h
     split at h
     ·cases h
      simp only [za] at hs
      refine ⟨by simp,fun y hy=>?_⟩
      rcases oG.1 hy with rfl | hy
      ·have hdx:=Tm.dp_mem (k:=k) (nm:=nm) (ot:=ot) (n:=n) (ty:=ty) (re:=re) hx
       exact ih x hx _ (by omega) (h1 x hx) (by omega)
      ·exact h1 y (hm y (by simp [hy]))
     ·split at h
      ·cases h
      ·rename_i l2 r2 h2
       cases h
       simp only [za] at hs
       obtain ⟨b1,b2⟩:=ihx (fun y hy=>hm y (by simp [hy])) _ _ h2 (by omega)
       refine ⟨by simp [b1],fun y hy=>?_⟩
       rcases oG.1 hy with rfl | hy
       ·exact h1 y hx
       ·exact b2 y hy
  cases hc:yX S l (xC k m) with
  | none=>exact he
  | some p=>
    obtain ⟨l',r⟩:=p
    rw [hc] at hs
    simp only [Tm.sz] at hs
    obtain ⟨b1,b2⟩:=key l (fun x hx=>hx) l' r hc (by omega)
    exact Tm.ok_mk.2 ⟨b2,h2,by rw [b1];exact h3⟩
theorem zK4:∀ (f:Nat) (e:Tm),e.dp<=f->e.ok=true->(e.stp f).1.sz<=400->(e.stp f).1.ok=true
 | 0,e,h,_,_=>absurd (Tm.dp_pos e) (by omega)
 | f + 1,.mk k nm ot n ty re l,hd,he,hs=>by
   have ih:=zK4 f
   obtain ⟨h1,h2,h3⟩:=Tm.ok_mk.1 he
   simp only [Tm.stp] at hs ⊢
   split
   ·exact he
   ·rename_i hr
    rw [if_neg hr] at hs
    split
    ·rename_i hk
     rw [if_pos hk] at hs
     have hk:k=10:=hk
     have hl:=(uK he).1 (by omega)
     have hm:=zl (l:=l) (i:=0) (by omega)
     have hdm:=Tm.dp_mem (k:=k) (nm:=nm) (ot:=ot) (n:=n) (ty:=ty) (re:=re) hm
     have:=zL9 (k:=k) (nm:=nm) (ot:=ot) (n:=n) (ty:=ty) (re:=re) (l:=l) (i:=0) (x:=(Tm.cod (Tm.stp f) ((Tm.mk k nm ot n ty re l).pt 0) 1).1) (by omega)
     exact zK8 he (zQG ih _ 1 (by simp only [Tm.pt];omega) (h1 _ hm) (by simp only at hs;omega))
    ·rename_i hk
     rw [if_neg hk] at hs
     cases hg:goS (Tm.stp f) (Tm.mk k nm ot n ty re l) (l.take (zKW k l.length)) 0 with
     | none=>
       rw [hg] at hs
       exact zQt he hs
     | some r=>
       rw [hg] at hs
       obtain ⟨j,x,g1,g2,rfl⟩:=zBc hg
       have hxm:l[j]?=some x:=by
        rw [oe] at g1
        split at g1
        ·exact g1
        ·cases g1
       have hm:=oB hxm
       have hdm:=Tm.dp_mem (k:=k) (nm:=nm) (ot:=ot) (n:=n) (ty:=ty) (re:=re) hm
       simp only [nE] at hs ⊢
       have:=zL9 (k:=k) (nm:=nm) (ot:=ot) (n:=n) (ty:=ty) (re:=re) (l:=l) (i:=j) (x:=(Tm.stp f x).1) (oC.1 hxm).1
       exact zK8 he (ih x (by omega) (h1 x hm) (by omega))
theorem zC4 {g:Tm->Tm} {m:Nat}:∀ {l:List Tm},(∀ t∈l,(g t).sz<=t.sz*m)->za (l.map g)<=za l*m
 | [],_=>by simp [za]
 | t::l,h=>by
   have h1:=zC4 (l:=l) fun x hx=>h x (by simp [hx])
   have h2:=h t (by simp)
   simp only [o6,za,o8]
   omega
theorem zAP {g:Tm->Tm} {m:Nat} {v:Tm}:∀ {l:List Tm} {j:Nat},(∀ t∈l,(g t).sz<=t.sz*m)->(∀ t,l[j]?=some t->v.sz<=t.sz*m)->za ((l.map g).set j v)<=za l*m
 | [],_,_,_=>by simp [za]
 | t::l,0,h,hv=>by
   have h1:=zC4 (l:=l) fun x hx=>h x (by simp [hx])
   have h2:=hv t rfl
   simp only [o6,ny,za,o8]
   omega
 | t::l,j+1,h,hv=>by
   have h1:=zAP (l:=l) (j:=j) (v:=v) (fun x hx=>h x (by simp [hx])) fun x hx=>hv x (by simpa using hx)
   have h2:=h t (by simp)
   simp only [o6,mK,za,o8]
   omega
theorem zLc:∀ (f:Nat) (t:Tm) (x:ByteArray) (b:Tm),(t.sub f x b).sz<=t.sz*(b.sz+1)
 | 0,t,x,b=>by simp only [Tm.sub];exact np _ (by omega)
 | f + 1,.mk k nm ot n ty re l,x,b=>by
   have ih:=zLc f
   have one:∀ m:Nat,m<=za l*(b.sz+1)->1+m<=(1+za l)*(b.sz+1):=fun m h=>by rw [o8];omega
   simp only [Tm.sub]
   split
   ·split
    ·simp only [Tm.sz];rw [o8];omega
    ·exact np _ (by omega)
   ·split
    ·simp only [Tm.sz]
     exact one _ (zC4 fun t _=>ih t x b)
    ·rename_i hbd
     obtain ⟨g1,g2⟩:=wx hbd
     split
     ·simp only [Tm.sz]
      refine one _ (zAP (fun t _=>ih t x b) fun t ht=>?_)
      rw [zo g1] at ht
      rw [<-oT ht]
      exact np _ (by omega)
     ·simp only [Tm.sz]
      refine one _ (zAP (fun t _=>ih t x b) fun t ht=>?_)
      rw [zo g1] at ht
      rw [<-oT ht]
      exact oS (ih _ x b) (oh _ (u5 (wy f) _ _ _ _ _ _).s)
theorem qA {x:Tm}:∀ {l:List Tm} {i:Nat},i<l.length->za (l.set i x)+(l.getD i tm0).sz=za l+x.sz
 | t::l,0,_=>by simp only [ny,za,mo];omega
 | t::l,i+1,h=>by
   have:=qA (x:=x) (l:=l) (i:=i) (by simpa using h)
   simp only [mK,za,List.getD_cons_succ];omega
theorem zKN {e:Tm} {i:Nat}:(e.pt i).sz<=e.sz:=by
 cases e with
 | mk k nm ot n ty re l=>
 simp only [Tm.pt]
 by_cases h:i<l.length
 ·have:=Tm.sz_mem (k:=k) (nm:=nm) (ot:=ot) (n:=n) (ty:=ty) (re:=re) (zl h);omega
 ·rw [oA,oV (by omega)]
  simp only [Option.getD_none,tm0,Tm.sz,za];omega
theorem zQU (e:Tm) (h:e.sz<=400):e.apl.1.sz<=e.sz+64481600:=by
 have big:∀ (t b:Tm) (x:ByteArray) (m:Nat),t.sz<=m->b.sz<=400->(t.sb x b).sz<=m*401:=fun t b x m h1 h2=>
  oS (zLc _ t x b) (Nat.mul_le_mul h1 (by omega))
 cases e with
 | mk k nm ot n ty re l=>
 have g:∀ i,(l.getD i tm0).sz<=400:=fun i=>oS (zKN (e:=.mk k nm ot n ty re l)) h
 have gp:∀ i j,((l.getD i tm0).pt j).sz<=400:=fun i j=>oS zKN (g i)
 have g0:=g 0
 have g1:=g 1
 have gp0:=gp 0 0
 simp only [Tm.apl,Tm.opr]
 have k1:=big ((l.getD 0 tm0).pt 0) (l.getD 1 tm0) (l.getD 0 tm0).nm 400 gp0 g1
 have k2:=big ((l.getD 0 tm0).pt 0) (l.getD 0 tm0) (l.getD 0 tm0).nm 400 gp0 g0
 have k3:=big _ (l.getD 1 tm0) (l.getD 0 tm0).ot _ k2 g1
 have k4:=big (l.getD 1 tm0) (l.getD 0 tm0) nm 400 g1 g0
 have k5:=g (2 - (l.getD 0 tm0).no).toNat
 (repeat' split)<;>first | (simp only;omega) | (simp only [zM8,Tm.nod,Tm.sz,za];omega)
theorem zQT {S:Tm->Tm × Int} (hS:∀ x:Tm,x.sz<=400->(S x).1.sz<=x.sz+64481600):∀ (t:Tm) (m:Int),t.sz<=400->(t.cod S m).1.sz<=t.sz+64481600:=by
 refine Tm.ind fun k nm ot n ty re l ih m hs=>?_
 simp only [Tm.cod]
 split
 ·unfold zPs
  split
  ·split
   ·have h1:=zKN (e:=(Tm.mk k nm ot n ty re l).pt 0) (i:=0)
    have h2:=zKN (e:=Tm.mk k nm ot n ty re l) (i:=0)
    simp only;omega
   ·simp only;omega
  ·have h2:=zKN (e:=Tm.mk k nm ot n ty re l) (i:=0)
   have h3:=hS _ (oS h2 hs)
   simp only [Tm.wth,Tm.pt] at h3 ⊢
   by_cases h:0<l.length
   ·have:=qA (x:=(S (l.getD 0 tm0)).1) h
    simp only [Tm.sz] at hs ⊢
    omega
   ·rw [mp (by omega)];omega
 ·have key:∀ (xs:List Tm),(∀ x∈xs,x∈l)->∀ l' r,yX S xs (xC k m)=some (l',r)->za l'<=za xs+64481600:=by
   intro xs
   induction xs with
   | nil=>intro _ l' r h;simp [yX] at h
   | cons x xs ihx=>
     intro hm l' r h
     have hx:=hm x (by simp)
     simp only [yX] at h
     split at h
     ·cases h
      have:=ih x hx (xC k m) (by have:=Tm.sz_mem (k:=k) (nm:=nm) (ot:=ot) (n:=n) (ty:=ty) (re:=re) hx;omega)
      simp only [za];omega
     ·split at h
      ·cases h
      ·rename_i l2 r2 h2
       cases h
       have:=ihx (fun y hy=>hm y (by simp [hy])) _ _ h2
       simp only [za];omega
  cases hc:yX S l (xC k m) with
  | none=>simp only;omega
  | some p=>
    obtain ⟨l',r⟩:=p
    have:=key l (fun x hx=>hx) l' r hc
    simp only [Tm.sz];omega
/-- a step of a small term is not great -/
theorem zOb:∀ (f:Nat) (e:Tm),e.sz<=400->(e.stp f).1.sz<=e.sz+64481600
 | 0,e,_=>by simp only [Tm.stp];omega
 | f + 1,.mk k nm ot n ty re l,hs=>by
   have ih:=zOb f
   simp only [Tm.stp]
   split
   ·simp only;omega
   ·by_cases hk:(Tm.mk k nm ot n ty re l).kd=10
    ·rw [if_pos hk]
     have h2:=zKN (e:=Tm.mk k nm ot n ty re l) (i:=0)
     have h3:=zQT ih ((Tm.mk k nm ot n ty re l).pt 0) 1 (oS h2 hs)
     simp only [Tm.wth,Tm.pt] at h3 ⊢
     by_cases h:0<l.length
     ·have:=qA (x:=((l.getD 0 tm0).cod (Tm.stp f) 1).1) h
      simp only [Tm.sz] at hs ⊢
      omega
     ·rw [mp (by omega)];omega
    ·rw [if_neg hk]
     cases hg:goS (Tm.stp f) (Tm.mk k nm ot n ty re l) (l.take (zKW k l.length)) 0 with
     | none=>exact zQU _ hs
     | some r=>
       obtain ⟨j,x,g1,g2,rfl⟩:=zBc hg
       have hxm:l[j]?=some x:=by
        rw [oe] at g1
        split at g1
        ·exact g1
        ·cases g1
       have hj:=(oC.1 hxm).1
       have h3:=ih x (by have:=Tm.sz_mem (k:=k) (nm:=nm) (ot:=ot) (n:=n) (ty:=ty) (re:=re) (oB hxm);omega)
       have h4:=qA (x:=(Tm.stp f x).1) hj
       have h5:l.getD j tm0=x:=by rw [oA,hxm];rfl
       rw [h5] at h4
       simp only [nE,Tm.wth,Tm.sz] at hs ⊢
       omega
/-- a run of a term: how it ends, and the rules of its steps -/
def zOc:Nat->Nat->Tm->(Int × Tm × Nat) × List Int
 | 0,n,x=>if x.sz>400 then ((3,tm0,n),[]) else if x.res then ((1,x,n),[]) else ((2,x,n),[])
 | m+1,n,x=>if x.sz>400 then ((3,tm0,n),[]) else if x.res then ((1,x,n),[]) else if (x.stp x.dp).2=0 then ((4,x,n),[])
   else ((zOc m (n+1) (x.stp x.dp).1).1,(x.stp x.dp).2::(zOc m (n+1) (x.stp x.dp).1).2)
def zGQ (e:Tm) (fuel:Int):Int × Tm × Nat:=if (zB9 e 0&&inB fuel 0 200)=true then (zOc fuel.toNat 0 e).1 else (0,tm0,0)
theorem pj:∀ (t:Tm) (d:D),t.Is d->t.sz<=9223372036854775807->zBW 20 [.dg 9 d] t.sz:=by
 refine Tm.ind fun k nm ot n0 ty re l ih d hd hc N Q hQ=>?_
 obtain ⟨t0,t1,r0,r1,a,es,c,rfl,hh,hlen,hes⟩:=Tm.is_mk.1 hd
 simp only [Tm.sz] at hc
 refine zF5 N _ Q fun _=>?_
 refine up hes hlen (fun i xs=>∀ (m:Nat) (N':Nat),N<=N'->m+za xs=1+za l->wM Q N m i (.ag [.lit (.int .i64 k),.lit (.string nm),.lit (.string ot),.lit (.int .i64 n0),t0,t1,r0,r1,.sl a 9 es c]) N') ?_ ?_ 1 N (oD _) rfl
 ·intro i hlt _ m N' hN' hm
  refine tn _ _ _ _ _ _ ⟨_,_,_,rfl,?_⟩
  simp only [za] at hm
  rw [hlt]
  exact fun N2 hN2=>Qi (hQ _ (by omega)) (by simp only [Tm.sz];omega)
 ·intro i x xs hat _ ih2 m N' hN' hm
  have hb:=hat.b
  have hxc:=wW hat.m
  simp only [za] at hm
  refine tn _ _ _ _ _ _ ⟨_,_,_,rfl,?_⟩
  rw [hat.lt,hat.w,oJ]
  refine ⟨_,_,_,rfl,⟨by omega,by omega⟩,fun N1 hN1=>ih x hat.m _ hat.r (by omega) N1 _ fun N2 hN2 _=>?_⟩
  rw [i64_in _ (by omega)]
  have:=ih2 (m+x.sz) N2 (by omega) (by omega)
  simpa using this
/-- a term's types are small -/
theorem zMI:∀ t:Tm,t.ok=true->t.cnt<=61*t.sz:=by
 refine Tm.ind fun k nm ot n ty re l ih h=>?_
 obtain ⟨h1,h2,h3⟩:=Tm.ok_mk.1 h
 have z1:∀ t:Ty,t.zero=true->t.cnt<=30:=fun t ht=>by
  cases t with
  | mk k l=>
  simp only [Ty.zero,Ty.k,Ty.as,oL,nz] at ht
  have:l=[]:=oa (by omega)
  subst this
  simp [Ty.cnt,zT]
 have v1:∀ t:Ty,t.valid=true->t.cnt<=30:=fun t ht=>by
  simp only [Ty.valid,oL,nP] at ht
  exact ht.1.1
 simp only [zJ,oL,nz,mS] at h2
 have hty:ty.cnt<=30:=by
  rcases h2.2.1 with h | h
  ·exact v1 _ (by rw [<-h2.1,h])
  ·exact z1 _ h
 have hre:re.cnt<=30:=by
  rcases h2.2.2.2.1 with h | h
  ·exact v1 _ (by rw [<-h2.2.2.1];simpa using h)
  ·exact z1 _ h
 have key:∀ xs:List Tm,(∀ x∈xs,x∈l)->zI xs<=61*za xs:=by
  intro xs
  induction xs with
  | nil=>intro _;exact oD _
  | cons x xs ihx=>
    intro hm
    have a1:=ih x (hm x (by simp)) (h1 x (hm x (by simp)))
    have a2:=ihx fun y hy=>hm y (by simp [hy])
    simp only [zI,za];omega
 have:=key l fun x hx=>hx
 simp only [Tm.cnt,Tm.sz];omega
/-- a term that is reached by steps -/
structure Rch (x:Tm):Prop where
 g:x.G
 s:x.sz<=64482000
 o:x.sz<=400->x.ok=true
theorem Rch.F {x:Tm} (h:Rch x) (hs:x.sz<=400):x.F x.dp:=Tm.F.of (h.o hs) (oD _) (by have:=zMI x (h.o hs);omega)
theorem Rch.step {x:Tm} (h:Rch x) (hs:x.sz<=400):Rch (x.stp x.dp).1:=⟨zQi _ _ h.g,by have:=zOb x.dp x hs;omega,fun h2=>zK4 _ x (oD _) (h.o hs) h2⟩
theorem Rch.of {e:Tm} (h1:e.ok=true) (h2:e.cnt<=4000000):Rch e:=⟨Tm.G_cnt e (by omega),by have:=Tm.sz_cnt e;omega,fun _=>h1⟩
/-- how a run ends, as data -/
def zP6 (r:Int × Tm × Nat) (d:D):Prop:=∃ cs,d=.ag (.lit (.int .i64 r.1)::(cs++[.lit (.int .i64 (r.2.2:Nat))]))/\r.2.1.Is (.ag cs)
theorem zDH (m n:Nat) (x:Tm):zOc m n x=if x.sz>400 then ((3,tm0,n),[]) else if x.res then ((1,x,n),[]) else match m with
  | 0=>((2,x,n),[])
  | m+1=>if (x.stp x.dp).2=0 then ((4,x,n),[]) else ((zOc m (n+1) (x.stp x.dp).1).1,(x.stp x.dp).2::(zOc m (n+1) (x.stp x.dp).1).2):=by
 cases m<;>rfl
theorem zIT {s:Int} {k n0:Int} {nm ot:ByteArray} {ty re:Ty} {l:List Tm} {n:Nat} {y0 y1 y2 y3 y4 y5 y6 y7 y8:D} (h:(Tm.mk k nm ot n0 ty re l).Is (.ag [y0,y1,y2,y3,y4,y5,y6,y7,y8])) :
 zP6 (s,Tm.mk k nm ot n0 ty re l,n) (.ag [.lit (.int .i64 s),y0,y1,y2,y3,y4,y5,y6,y7,y8,.lit (.int .i64 (n:Nat))]):=⟨_,rfl,h⟩
theorem zQn {s:Int} {n:Nat}:zP6 (s,tm0,n) (.ag [.lit (.int .i64 s),.lit (.int .i64 0),.lit (.string (bytes [])),.lit (.string (bytes [])),.lit (.int .i64 0),.lit (.int .i64 0),.sl none 2 [] 0,.lit (.int .i64 0),.sl none 2 [] 0,.sl none 9 [] 0,.lit (.int .i64 (n:Nat))]):=⟨_,rfl,rL⟩
theorem Fresh.mono {N0 N1 N M:Nat} {a:Option Addr} {ds:List D} (h:Fresh N0 N a ds) (h1:N1<=N0) (h2:N<=M):Fresh N1 M a ds:=
 ⟨fun ad h'=>oS h1 (h.lo ad h'),fun ad h'=>oq (h.hi ad h') h2,h.off,h.ap⟩
theorem Rs.cells {r:Int × Tm × Nat} {d:D} (h:zP6 r d):∃ y0 y1 y2 y3 y4 y5 y6 y7 y8,d=.ag [.lit (.int .i64 r.1),y0,y1,y2,y3,y4,y5,y6,y7,y8,.lit (.int .i64 (r.2.2:Nat))]/\r.2.1.Is (.ag [y0,y1,y2,y3,y4,y5,y6,y7,y8]):=by
 obtain ⟨cs,rfl,h⟩:=h
 obtain ⟨s,t,n⟩:=r
 cases t with
 | mk k nm ot n0 ty re l=>
 obtain ⟨t0,t1,r0,r1,a,es,c,he,hh,hlen,hes⟩:=Tm.is_mk.1 h
 injection he with he
 subst he
 exact ⟨_,_,_,_,_,_,_,_,_,rfl,h⟩
theorem zDx {e:Tm} {d:D} (he:e.Is d) (hc:e.cnt<=4000000) (fu:Int) (N:Nat) (Q:QT [.ag 11]) (hQ:∀ d N',N<=N'->zP6 (zGQ e fu) d->Q d N'):ACalls prog 118 [.ag 11] [.dg 9 d,.int .i64 fu] N Q:=by
 have hG:=Tm.G_cnt e (by omega)
 unfold zGQ at hQ
 refine zDt N _ fu Q fun _ N1 hN1=>tv e d he (by omega) 0 N1 _ fun N2 hN2 _=>Br.not (fun hv N3 hN3=>?_) fun hv N4 hN4=>xB _ _ _ N4 _ fun N5 hN5 _=>Br.not (fun hb N6 hN6=>?_) fun hb N7 hN7=>?_
 ·rw [if_neg (by rw [hv];simp)] at hQ
  exact hQ _ _ (by omega) zQn
 ·rw [if_neg (by rw [hv,hb];decide)] at hQ
  exact hQ _ _ (by omega) zQn
 rw [if_pos (by rw [hv,hb];rfl)] at hQ
 have hbi:=xz.1 hb
 have hok:e.ok=true:=by unfold zB9 at hv;simp at hv;exact hv.1
 have hR:=Rch.of hok hc
 refine uu e d he hG N7 _ ?_
 obtain ⟨F,rfl⟩:∃ F:Nat,fu=(F:Int):=⟨fu.toNat,by omega⟩
 rw [oJ] at hQ
 have rest:∀ (m n:Nat) (x:Tm) (dx:D) (N':Nat),N<=N'->n+m=F->Rch x->x.Is dx->(∀ d N',N<=N'->zP6 (zOc m n x).1 d->Q d N')->ye Q N (F:Nat) n 0 0 (bytes []) (bytes []) 0 0 none [] 0 0 none [] 0 none [] 0 0 dx N':=by
  intro m
  induction m with
  | zero=>
    intro n x dx N' hN' hn hx hdx hq
    rw [zDH] at hq
    have hxs:=hx.s
    refine vO _ _ _ _ _ _ _ _ _ _ _ _ _ _ _ _ _ _ _ _ _ _ _ fun N1 hN1=>pj x dx hdx (by omega) N1 _ fun N2 hN2 _=>Br.dec (fun h4 N3 hN3=>?_) fun h4 N4 hN4=>?_
    ·rw [if_pos (by omega)] at hq;exact hq _ _ (by omega) zQn
    ·rw [if_neg (by omega)] at hq
     have hF:=hx.F (by omega)
     refine zQ hdx hF.ok hF.dp N4 _ fun N5 hN5 _=>Br.of (fun hr N6 hN6=>?_) fun hr=>Br.beq (fun _ N7 hN7=>?_) fun hne=>absurd (by omega) hne
     ·rw [if_pos hr] at hq
      cases x with
      | mk k nm ot n0 ty re l=>
      obtain ⟨t0,t1,r0,r1,a,es,c,rfl,hh,hlen,hes⟩:=Tm.is_mk.1 hdx
      exact hq _ _ (by omega) (zIT hdx)
     ·rw [if_neg (by rw [hr];decide)] at hq
      cases x with
      | mk k nm ot n0 ty re l=>
      obtain ⟨t0,t1,r0,r1,a,es,c,rfl,hh,hlen,hes⟩:=Tm.is_mk.1 hdx
      exact hq _ _ (by omega) (zIT hdx)
  | succ m ih=>
    intro n x dx N' hN' hn hx hdx hq
    rw [zDH] at hq
    have hxs:=hx.s
    refine vO _ _ _ _ _ _ _ _ _ _ _ _ _ _ _ _ _ _ _ _ _ _ _ fun N1 hN1=>pj x dx hdx (by omega) N1 _ fun N2 hN2 _=>Br.dec (fun h4 N3 hN3=>?_) fun h4 N4 hN4=>?_
    ·rw [if_pos (by omega)] at hq;exact hq _ _ (by omega) zQn
    ·rw [if_neg (by omega)] at hq
     have hF:=hx.F (by omega)
     refine zQ hdx hF.ok hF.dp N4 _ fun N5 hN5 _=>Br.of (fun hr N6 hN6=>?_) fun hr=>Br.beq (fun hne=>absurd hne (by omega)) fun _ N8 hN8=>?_
     ·rw [if_pos hr] at hq
      cases x with
      | mk k nm ot n0 ty re l=>
      obtain ⟨t0,t1,r0,r1,a,es,c,rfl,hh,hlen,hes⟩:=Tm.is_mk.1 hdx
      exact hq _ _ (by omega) (zIT hdx)
     ·rw [if_neg (by rw [hr];decide)] at hq
      refine zB8 _ _ _ hdx hF N8 _ fun dy N9 hN9 hy _ _=>Br.beq (fun h0 N10 hN10=>?_) fun h0=>?_
      ·simp only at hq
       rw [if_pos h0] at hq
       cases x with
       | mk k nm ot n0 ty re l=>
       obtain ⟨t0,t1,r0,r1,a,es,c,rfl,hh,hlen,hes⟩:=Tm.is_mk.1 hdx
       exact hq _ _ (by omega) (zIT hdx)
      ·simp only at hq
       rw [if_neg h0] at hq
       rw [i64_in _ (by omega)]
       have:=ih (n+1) _ dy N9 (by omega) (by omega) (hx.step (by omega)) hy hq
       simpa using this
 cases e with
 | mk k nm ot n0 ty re l=>
 intro x4 x5 x6 x7 es' c' N8 hN8 hh' hes' ho' _ _
 have hl':=hes'.len
 have hgl:=hG.2.2.1
 have hxs:=hR.s
 refine zAt _ _ _ _ _ _ _ _ _ _ _ _ _ _ _ _ _ _ _ _ _ _ _ _ _ _ _ _ _ _ _ _ _ _ ⟨⟨rfl,rfl⟩,⟨rfl,rfl⟩,fun a1 N9 hN9 _ N10 hN10=>?_⟩
 have hdx:(Tm.mk k nm ot n0 ty re l).Is (.ag [.lit (.int .i64 k),.lit (.string nm),.lit (.string ot),.lit (.int .i64 n0),x4,x5,x6,x7,.sl a1 9 es' c']):=Tm.is_mk.2 ⟨_,_,_,_,_,_,_,rfl,hh',by omega,hes'⟩
 rw [zDH] at hQ
 refine pj _ _ hdx (by omega) N10 _ fun N11 hN11 _=>Br.dec (fun h4 N3 hN3=>?_) fun h4 N12 hN12=>?_
 ·rw [if_pos (by omega)] at hQ;exact hQ _ _ (by omega) zQn
 rw [if_neg (by omega)] at hQ
 have hF:=hR.F (by omega)
 refine zQ hdx hF.ok hF.dp N12 _ fun N13 hN13 _=>Br.of (fun hr N6 hN6=>?_) fun hr=>Br.beq (fun h0 N7 hN7=>?_) fun hne N14 hN14=>?_
 ·rw [if_pos hr] at hQ;exact hQ _ _ (by omega) (zIT hdx)
 ·rw [if_neg (by rw [hr];decide)] at hQ
  have:F=0:=by omega
  subst this
  exact hQ _ _ (by omega) (zIT hdx)
 ·rw [if_neg (by rw [hr];decide)] at hQ
  obtain ⟨m,rfl⟩:∃ m,F=m+1:=⟨F - 1,by omega⟩
  simp only at hQ
  refine zB8 _ _ _ hdx hF N14 _ fun dy N15 hN15 hy _ _=>Br.beq (fun h0 N16 hN16=>?_) fun h0=>?_
  ·rw [if_pos h0] at hQ;exact hQ _ _ (by omega) (zIT hdx)
  ·rw [if_neg h0] at hQ
   rw [i64_in _ (by omega)]
   exact rest m 1 _ dy N15 (by omega) (by omega) (hR.step (by omega)) hy hQ
end Go.Proofs.YtkdjhkfiolhkiaaGreat
