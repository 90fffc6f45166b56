/- Substitution and steps: sizes, and that terms stay terms (no program in sight). -/
import Derived.Test.YtnpjpplbkoammaaGreatDoorYa
import Derived.Test.YtnpjpplbkoammaaGreatDoorYe
import Derived.Test.YtnpjpplbkoammaaGreatDoorKi
import Derived.Test.YtnpjpplbkoammaaGreatDoorKh
set_option linter.unusedVariables false
set_option linter.unusedSimpArgs false
namespace Go.Proofs.YtnpjpplbkoammaaGreatDoor
open Go Go.Proofs Go.Proofs.Tryz Go.IntWalk
theorem xQ:∀ {l:List Tm} {t:Tm},t∈l→t.sz≤zH l
 | u::us,t,h=>by
   simp only [zH]
   rcases List.mem_cons.1 h with rfl | h
   ·omega
   ·have:=xQ h;omega
theorem Tm.sz_pos (t:Tm):1≤t.sz:=by cases t;simp only [Tm.sz];omega
theorem zHE:∀ {l:List Tm},u6 l=true↔∀ x∈l,x.ok=true
 | []=>by simp [u6]
 | t::ts=>by simp only [u6,Bool.and_eq_true,zHE (l:=ts),List.mem_cons,forall_eq_or_imp]
theorem szL:∀ {l' l:List Tm},l'.length=l.length→(∀ (i:Nat) (t' t:Tm),l'[i]?=some t'→l[i]?=some t→t.sz≤t'.sz)→zH l≤zH l'
 | [],[],_,_=>Nat.le_refl _
 | [],_::_,h,_=>by simp at h
 | _::_,[],h,_=>by simp at h
 | t'::ts',t::ts,h,hr=>by
   have h1:=szL (l':=ts') (l:=ts) (by simpa using h) fun i a b ha hb=>hr (i+1) a b (by simpa using ha) (by simpa using hb)
   have h0:=hr 0 t' t (by simp) (by simp)
   simp only [zH];omega
theorem zLt {f:Nat} (hS:∀ t x y,t.V→t.sz≤(Tm.sub f t x (zAH y)).sz) (k:Int) (n:Nat) (fb:List ByteArray) (x:ByteArray):∀ (l:List ByteArray) (s:ByteArray × ByteArray × Tm),s.2.2.V→s.2.2.sz≤(rns (Tm.sub f) k n fb x l s).2.2.sz
 | [],s,_=>Nat.le_refl _
 | old::l,s,hv=>by
   have h1:=zLt hS k n fb x l (rn1 (Tm.sub f) k n fb x old s) ((zIL (wb f) k n fb x old s).v hv)
   have h2:s.2.2.sz≤(rn1 (Tm.sub f) k n fb x old s).2.2.sz:=by
    unfold rn1
    split
    ·split<;>exact hS _ _ _ hv
    ·exact Nat.le_refl _
   simp only [rns];omega
theorem zEN:∀ (f:Nat) (t:Tm) (x:ByteArray) (b:Tm),t.V→t.sz≤(t.sub f x b).sz
 | 0,t,x,b,_=>by simp only [Tm.sub];exact Nat.le_refl _
 | f + 1,.mk k nm ot n ty re l,x,b,hv=>by
   have ih:=zEN f
   have hvm:=uD.1 hv.2
   simp only [Tm.sub]
   split
   ·rename_i hk
    split
    ·rw [hv.1 (by assumption)]
     simp only [Tm.sz,zH];exact Tm.sz_pos b
    ·exact Nat.le_refl _
   ·split
    ·simp only [Tm.sz]
     have:=szL (l':=l.map fun t=>Tm.sub f t x b) (l:=l) (by simp) fun i t' t ht' ht=>by
      rw [List.getElem?_map,ht] at ht'
      cases ht'
      exact ih t x b (hvm t (List.mem_of_getElem? ht))
     omega
    ·rename_i hb
     obtain ⟨g1,g2⟩:=wF hb
     split
     ·simp only [Tm.sz]
      have:=szL (l':=(l.map fun t=>Tm.sub f t x b).set (ym k l.length).toNat (l.getD (ym k l.length).toNat tm0)) (l:=l) (by simp) fun i t' t ht' ht=>by
       rcases zFb ht' ht with ⟨h1,h2⟩ | ⟨h1,h2⟩
       ·rw [h1,zU g1] at ht
        rw [h2,←Option.some.inj ht]
        exact Nat.le_refl _
       ·rw [h2];exact ih t x b (hvm t (List.mem_of_getElem? ht))
      omega
     ·simp only [Tm.sz]
      have:=szL (l':=(l.map fun t=>Tm.sub f t x b).set (ym k l.length).toNat (Tm.sub f (rns (Tm.sub f) k l.length b.fv x (bdN k nm ot l.length) (nm,ot,l.getD (ym k l.length).toNat tm0)).2.2 x b)) (l:=l) (by simp) fun i t' t ht' ht=>by
       rcases zFb ht' ht with ⟨h1,h2⟩ | ⟨h1,h2⟩
       ·rw [h1,zU g1] at ht
        rw [h2,←Option.some.inj ht]
        have hpv:=hvm _ (List.mem_of_getElem? (zU g1))
        exact Nat.le_trans (zLt (fun t x y h=>ih t x _ h) k l.length b.fv x (bdN k nm ot l.length) (nm,ot,l.getD (ym k l.length).toNat tm0) hpv) (ih _ x b ((tI (wb f) _ _ _ _ _ _).v hpv))
       ·rw [h2];exact ih t x b (hvm t (List.mem_of_getElem? ht))
      omega
theorem zPK {k:Int} {s w ot:ByteArray} {n:Nat} (v:ByteArray) (h:s∈bdN k w ot n):s=w∨s∈bdN k v ot n:=by
 unfold bdN at h ⊢
 split at h
 ·simp at h;exact .inl h
 ·rename_i h6
  rw [if_neg h6]
  split at h
  ·simp at h;exact .inl h
  ·rename_i h8
   rw [if_neg h8]
   split at h
   ·rename_i h9
    rw [if_pos h9]
    simp at h
    rcases h with h | h
    ·exact .inl h
    ·exact .inr (by simp [h])
   ·simp at h
theorem zOq {k:Int} {s nm w:ByteArray} {n:Nat} (v:ByteArray) (h:s∈bdN k nm w n):s=w∨s∈bdN k nm v n:=by
 unfold bdN at h ⊢
 split at h
 ·rename_i h6
  rw [if_pos h6];exact .inr h
 ·rename_i h6
  rw [if_neg h6]
  split at h
  ·rename_i h8
   rw [if_pos h8];exact .inr h
  ·rename_i h8
   rw [if_neg h8]
   split at h
   ·rename_i h9
    rw [if_pos h9]
    simp at h
    rcases h with h | h
    ·exact .inr (by simp [h])
    ·exact .inl h
   ·simp at h
/-- a free name stays free where another is put in -/
theorem zMk:∀ (f:Nat) (t:Tm) (s x:ByteArray) (b:Tm),s∈t.fv→s≠x→s∈(t.sub f x b).fv
 | 0,t,s,x,b,h,_=>by simp only [Tm.sub];exact h
 | f + 1, .mk k nm ot n ty re l,s,x,b,h,hne=>by
   have ih:=zMk f
   rw [Tm.fv_mem] at h
   simp only [Tm.sub]
   split
   ·rename_i hk
    rcases h with ⟨_,h⟩ | ⟨h,_⟩
    ·rw [if_neg (fun hc=>hne (by rw [h,hc]))]
     rw [Tm.fv_mem]
     exact .inl ⟨hk,h⟩
    ·exact absurd hk h
   ·rename_i hk
    obtain ⟨j,p,hj,hs⟩:∃ (j:Nat) (x:Tm),l[j]?=some x∧s∈fvI (ym k l.length) (bdN k nm ot l.length) j x:=by
     rcases h with ⟨h,_⟩ | ⟨_,h⟩
     ·exact absurd h hk
     ·exact h
    unfold fvI at hs
    split
    ·rename_i hb
     rw [Tm.fv_mem]
     refine .inr ⟨hk,j,p.sub f x b,by rw [List.getElem?_map,hj];rfl,?_⟩
     rw [if_neg (by omega)] at hs
     unfold fvI
     rw [List.length_map,if_neg (by omega)]
     exact ih p s x b hs hne
    ·rename_i hb
     obtain ⟨g1,g2⟩:=wF hb
     have hjl:j<l.length:=(List.getElem?_eq_some_iff.1 hj).1
     have hgd:=zU g1
     split
     ·rw [Tm.fv_mem]
      by_cases hjb:(j:Int)=ym k l.length
      ·refine .inr ⟨hk,j,p,?_,?_⟩
       ·have:(ym k l.length).toNat=j:=by omega
        rw [this] at hgd ⊢
        rw [List.getElem?_set_self (by simpa using hjl),←Option.some.inj (hgd.symm.trans hj)]
       ·unfold fvI;simp only [List.length_set,List.length_map];exact hs
      ·refine .inr ⟨hk,j,p.sub f x b,?_,?_⟩
       ·rw [List.getElem?_set_ne (by omega),List.getElem?_map,hj];rfl
       ·rw [if_neg hjb] at hs
        unfold fvI
        simp only [List.length_set,List.length_map]
        rw [if_neg hjb]
        exact ih p s x b hs hne
     ·rw [Tm.fv_mem]
      by_cases hjb:(j:Int)=ym k l.length
      ·have hj2:(ym k l.length).toNat=j:=by omega
       rw [hj2] at hgd ⊢
       have hpe:l.getD j tm0=p:=Option.some.inj (hgd.symm.trans hj)
       rw [hpe]
       rw [if_pos hjb,pW] at hs
       obtain ⟨hs1,hs2⟩:=hs
       have r1:∀ (old:ByteArray) (st:ByteArray × ByteArray × Tm),s≠old→s∈st.2.2.fv→s∉bdN k st.1 st.2.1 l.length→s∈(rn1 (Tm.sub f) k l.length b.fv x old st).2.2.fv∧s∉bdN k (rn1 (Tm.sub f) k l.length b.fv x old st).1 (rn1 (Tm.sub f) k l.length b.fv x old st).2.1 l.length:=fun old st h1 h2 h3=>by
        unfold rn1
        have hfr:=zB0 (b.fv++(st.2.2.fv++([x]++bdN k st.1 st.2.1 l.length)))
        generalize fresh (b.fv++(st.2.2.fv++([x]++bdN k st.1 st.2.1 l.length)))=w at hfr
        have hw:s≠w:=fun hc=>hfr (by rw [←hc];simp [h2])
        split
        ·split
         ·exact ⟨ih _ _ _ _ h2 h1,fun hc=>(zPK st.1 hc).elim hw h3⟩
         ·exact ⟨ih _ _ _ _ h2 h1,fun hc=>(zOq st.2.1 hc).elim hw h3⟩
        ·exact ⟨h2,h3⟩
       have rs:∀ (ns:List ByteArray) (st:ByteArray × ByteArray × Tm),(∀ o∈ns,s≠o)→s∈st.2.2.fv→s∉bdN k st.1 st.2.1 l.length→s∈(rns (Tm.sub f) k l.length b.fv x ns st).2.2.fv∧s∉bdN k (rns (Tm.sub f) k l.length b.fv x ns st).1 (rns (Tm.sub f) k l.length b.fv x ns st).2.1 l.length:=by
        intro ns
        induction ns with
        | nil=>exact fun st _ h2 h3=>⟨h2,h3⟩
        | cons o os ih2=>
          intro st h1 h2 h3
          obtain ⟨a1,a2⟩:=r1 o st (h1 o (by simp)) h2 h3
          exact ih2 _ (fun o' ho=>h1 o' (by simp [ho])) a1 a2
       obtain ⟨a1,a2⟩:=rs (bdN k nm ot l.length) (nm,ot,p) (fun o ho hc=>hs2 (hc ▸ ho)) hs1 hs2
       refine .inr ⟨hk,j,_,List.getElem?_set_self (by simpa using hjl),?_⟩
       unfold fvI
       simp only [List.length_set,List.length_map]
       rw [if_pos hjb,pW]
       exact ⟨ih _ _ _ _ a1 hne,a2⟩
      ·refine .inr ⟨hk,j,p.sub f x b,?_,?_⟩
       ·rw [List.getElem?_set_ne (by omega),List.getElem?_map,hj];rfl
       ·rw [if_neg hjb] at hs
        unfold fvI
        simp only [List.length_set,List.length_map]
        rw [if_neg hjb]
        exact ih p s x b hs hne
/-- what is put in is there -/
theorem zKl {f:Nat} (k:Int) (n:Nat) (fb:List ByteArray) (x:ByteArray):∀ (l:List ByteArray) (s:ByteArray × ByteArray × Tm),x∉l→x∈s.2.2.fv→x∈(rns (Tm.sub f) k n fb x l s).2.2.fv
 | [],s,_,h=>h
 | old::l,s,hx,h=>by
   refine zKl k n fb x l _ (fun hc=>hx (by simp [hc])) ?_
   unfold rn1
   have hne:x≠old:=fun hc=>hx (by simp [hc])
   split
   ·split<;>exact zMk f _ _ _ _ h hne
   ·exact h
theorem zMI:∀ (f:Nat) (t:Tm) (x:ByteArray) (b:Tm),t.dp≤f→x∈t.fv→b.sz≤(t.sub f x b).sz
 | 0,t,x,b,h,_=>absurd (Tm.dp_pos t) (by omega)
 | f + 1,.mk k nm ot n ty re l,x,b,hd,h=>by
   have ih:=zMI f
   rw [Tm.fv_mem] at h
   simp only [Tm.dp] at hd
   have hdp:=fun y hy=>wH.1 (Nat.le_of_succ_le_succ hd) y hy
   simp only [Tm.sub]
   split
   ·rename_i hk
    rcases h with ⟨_,h⟩ | ⟨h,_⟩
    ·rw [if_pos h.symm];exact Nat.le_refl _
    ·exact absurd hk h
   ·rename_i hk
    obtain ⟨j,p,hj,hs⟩:∃ (j:Nat) (y:Tm),l[j]?=some y∧x∈fvI (ym k l.length) (bdN k nm ot l.length) j y:=by
     rcases h with ⟨h,_⟩ | ⟨_,h⟩
     ·exact absurd h hk
     ·exact h
    unfold fvI at hs
    have hpd:=hdp p (List.mem_of_getElem? hj)
    have fin:∀ (nm' ot':ByteArray) (l':List Tm) (y:Tm),l'[j]?=some y→b.sz≤y.sz→b.sz≤(Tm.mk k nm' ot' n ty re l').sz:=fun nm' ot' l' y h1 h2=>by
     have:=xQ (List.mem_of_getElem? h1)
     simp only [Tm.sz];omega
    split
    ·rename_i hb
     rw [if_neg (by omega)] at hs
     exact fin _ _ _ (p.sub f x b) (by rw [List.getElem?_map,hj];rfl) (ih p x b hpd hs)
    ·rename_i hb
     obtain ⟨g1,g2⟩:=wF hb
     have hjl:j<l.length:=(List.getElem?_eq_some_iff.1 hj).1
     have hgd:=zU g1
     split
     ·rename_i hc
      by_cases hjb:(j:Int)=ym k l.length
      ·exfalso
       have:(ym k l.length).toNat=j:=by omega
       rw [this] at hgd hc
       have hpe:l.getD j tm0=p:=Option.some.inj (hgd.symm.trans hj)
       rw [if_pos hjb,pW] at hs
       rw [hpe] at hc
       rcases hc with hc | hc
       ·exact hs.2 hc
       ·exact hc hs.1
      ·rw [if_neg hjb] at hs
       exact fin _ _ _ (p.sub f x b) (by rw [List.getElem?_set_ne (by omega),List.getElem?_map,hj];rfl) (ih p x b hpd hs)
     ·rename_i hc
      by_cases hjb:(j:Int)=ym k l.length
      ·have hj2:(ym k l.length).toNat=j:=by omega
       rw [hj2] at hgd ⊢
       have hpe:l.getD j tm0=p:=Option.some.inj (hgd.symm.trans hj)
       rw [hpe]
       rw [if_pos hjb,pW] at hs
       have hle:=tI (wb f) k l.length b.fv x (bdN k nm ot l.length) (nm,ot,p)
       have hled:=hle.d
       refine fin _ _ _ _ (List.getElem?_set_self (by simpa using hjl)) (ih _ x b (Nat.le_trans hled hpd) (zKl _ _ _ _ _ _ hs.2 hs.1))
      ·rw [if_neg hjb] at hs
       exact fin _ _ _ (p.sub f x b) (by rw [List.getElem?_set_ne (by omega),List.getElem?_map,hj];rfl) (ih p x b hpd hs)
theorem zK9 {k:Nat} (h:k≤999):Lib.decDigits k=(if k<10 then [UInt8.ofNat (48+k)] else if k<100 then [UInt8.ofNat (48+k / 10),UInt8.ofNat (48+k % 10)] else [UInt8.ofNat (48+k / 10 / 10),UInt8.ofNat (48+k / 10 % 10),UInt8.ofNat (48+k % 10)]):=by
 have e1:∀ u,u<10→Lib.decDigits u=[UInt8.ofNat (48+u)]:=fun u h=>by rw [Lib.decDigits,dif_pos h]
 have e2:∀ u,¬u<10→Lib.decDigits u=Lib.decDigits (u / 10)++[UInt8.ofNat (48+u % 10)]:=fun u h=>by rw [Lib.decDigits,dif_neg h]
 split
 ·rename_i h1;exact e1 k h1
 ·rename_i h1
  rw [e2 k h1]
  split
  ·rename_i h2;rw [e1 _ (by omega)];rfl
  ·rename_i h2
   rw [e2 (k / 10) (by omega),e1 _ (by omega)];rfl
theorem zLR:∀ a:_root_.Fin 10,yn ⟨#[118,UInt8.ofNat (48+a.val)]⟩=true:=by decide +kernel
theorem zLN:∀ a b:_root_.Fin 10,yn ⟨#[118,UInt8.ofNat (48+a.val),UInt8.ofNat (48+b.val)]⟩=true:=by decide +kernel
theorem zL6:∀ a b c:_root_.Fin 10,yn ⟨#[118,UInt8.ofNat (48+a.val),UInt8.ofNat (48+b.val),UInt8.ofNat (48+c.val)]⟩=true:=by decide +kernel
theorem zNR {k:Nat} (h:k≤999):yn (vb k)=true:=by
 unfold vb
 rw [zK9 h]
 split
 ·rename_i h1;exact zLR ⟨k,h1⟩
 ·split
  ·rename_i h1 h2;exact zLN ⟨k / 10,by omega⟩ ⟨k % 10,by omega⟩
  ·rename_i h1 h2;exact zL6 ⟨k / 10 / 10,by omega⟩ ⟨k / 10 % 10,by omega⟩ ⟨k % 10,by omega⟩
theorem zGq {l:List ByteArray} (h:l.length≤998):yn (fresh l)=true:=by
 obtain ⟨k,e,_,h2,_,_⟩:=u9 l
 rw [e]
 exact zNR (by omega)
theorem Tm.vc_sz:∀ t:Tm,t.vc≤t.sz:=by
 refine Tm.ind fun k nm ot n ty re l ih=>?_
 have key:∀ l:List Tm,(∀ t∈l,t.vc≤t.sz)→wY l≤zH l:=by
  intro l
  induction l with
  | nil=>intro _;exact Nat.le_refl _
  | cons t ts ih2=>
    intro h
    have h1:=h t (by simp)
    have h2:=ih2 fun x hx=>h x (by simp [hx])
    simp only [wY,zH];omega
 have:=key l ih
 simp only [Tm.vc,Tm.sz]
 split<;>omega
theorem Tm.ok_mk {k:Int} {nm ot:ByteArray} {n:Int} {ty re:Ty} {l:List Tm}:(Tm.mk k nm ot n ty re l).ok=true↔(∀ x∈l,x.ok=true)∧zK k nm ot n ty re=true∧(l.length:Int)=zGN k nm:=by
 simp only [Tm.ok,Bool.and_eq_true,zHE,beq_iff_eq]
theorem zKd {s:ByteArray} (h:yn s=true):(zAH s).ok=true:=by
 refine Tm.ok_mk.2 ⟨by simp,?_,rfl⟩
 have:(Ty.mk 0 []).valid=false:=by decide +kernel
 simp [zK,s7,this,Ty.zero,Ty.k,Ty.as,inB,xU,h]
/-- the names of a form that binds can be others -/
theorem zKs {k:Int} {nm ot nm' ot':ByteArray} {n:Int} {ty re:Ty} {m:Nat} (hb:¬ym k m<0) (h:zK k nm ot n ty re=true) (h1:yn nm'=true) (h2:k=9→yn ot'=true∧nm'≠ot') (h3:k≠9→ot'=ot):zK k nm' ot' n ty re=true∧(zGN k nm'=zGN k nm):=by
 have hk:k=6∨k=8∨k=9:=by
  rcases vS k m with h | ⟨_,_,h | h⟩ | ⟨_,_,h⟩
  ·omega
  ·exact .inl h
  ·exact .inr (.inr h)
  ·exact .inr (.inl h)
 rcases hk with rfl | rfl | rfl
 ·have h3:=h3 (by decide)
  subst h3
  refine ⟨?_,rfl⟩
  simp only [zK,xU,Bool.and_eq_true] at h ⊢
  simp [h1] at h ⊢
  exact ⟨h.1,h.2.1,h.2.2.1,h.2.2.2.1,h.2.2.2.2.1,h.2.2.2.2.2.2⟩
 ·have h3:=h3 (by decide)
  subst h3
  refine ⟨?_,rfl⟩
  simp only [zK,xU,Bool.and_eq_true] at h ⊢
  simp [h1] at h ⊢
  exact ⟨h.1,h.2.1,h.2.2.1,h.2.2.2.1,h.2.2.2.2.1,h.2.2.2.2.2.2⟩
 ·obtain ⟨h4,h5⟩:=h2 rfl
  refine ⟨?_,rfl⟩
  simp only [zK,xU,Bool.and_eq_true] at h ⊢
  simp [h1,h4,h5] at h ⊢
  exact ⟨h.1,h.2.1,h.2.2.1,h.2.2.2.1⟩
theorem zNe {k:Int} {nm ot:ByteArray} {n:Int} {ty re:Ty} {m:Nat} (hb:¬ym k m<0) (h:zK k nm ot n ty re=true):yn nm=true∧(k=9→yn ot=true∧nm≠ot):=by
 have hk:k=6∨k=8∨k=9:=by
  rcases vS k m with h | ⟨_,_,h | h⟩ | ⟨_,_,h⟩
  ·omega
  ·exact .inl h
  ·exact .inr (.inr h)
  ·exact .inr (.inl h)
 rcases hk with rfl | rfl | rfl
 ·simp only [zK,xU,Bool.and_eq_true] at h
  refine ⟨?_,fun h=>absurd h (by decide)⟩
  simp at h;exact h.2.2.2.2.2.1
 ·simp only [zK,xU,Bool.and_eq_true] at h
  refine ⟨?_,fun h=>absurd h (by decide)⟩
  simp at h;exact h.2.2.2.2.2.1
 ·simp only [zK,xU,Bool.and_eq_true] at h
  simp at h
  exact ⟨h.2.2.2.2.1,fun _=>⟨h.2.2.2.2.2.1,h.2.2.2.2.2.2⟩⟩
/-- a term in which a small term is put for a name is a term, if it is small -/
theorem zOM:∀ (f:Nat) (e:Tm) (x:ByteArray) (b:Tm),e.dp≤f→e.ok=true→b.ok=true→(e.sub f x b).sz≤400→(e.sub f x b).ok=true
 | 0,e,x,b,h,_,_,_=>absurd (Tm.dp_pos e) (by omega)
 | f + 1, .mk k nm ot n ty re l,x,b,hd,he,hb,hs=>by
   have ih:=zOM f
   obtain ⟨h1,h2,h3⟩:=Tm.ok_mk.1 he
   simp only [Tm.dp] at hd
   have hdp:=fun y hy=>wH.1 (Nat.le_of_succ_le_succ hd) y hy
   simp only [Tm.sub] at hs ⊢
   split
   ·rename_i hk
    rw [if_pos hk] at hs
    split
    ·exact hb
    ·exact he
   ·rename_i hk
    rw [if_neg hk] at hs
    split
    ·rename_i hbd
     rw [if_pos hbd] at hs
     refine Tm.ok_mk.2 ⟨fun y hy=>?_,h2,by simpa using h3⟩
     obtain ⟨z,hz,rfl⟩:=List.mem_map.1 hy
     have:=xQ hy
     simp only [Tm.sz] at hs
     exact ih z x b (hdp z hz) (h1 z hz) hb (by omega)
    ·rename_i hbd
     rw [if_neg hbd] at hs
     obtain ⟨g1,g2⟩:=wF hbd
     have hgd:=zU g1
     have hpm:=List.mem_of_getElem? hgd
     generalize hp:l.getD (ym k l.length).toNat tm0=p at hs hgd hpm ⊢
     have parts:∀ (v:Tm) (s:Nat),v.ok=true→zH ((l.map fun t=>Tm.sub f t x b).set (ym k l.length).toNat v)≤400→∀ y∈(l.map fun t=>Tm.sub f t x b).set (ym k l.length).toNat v,y.ok=true:=fun v s hv hs y hy=>by
      have hsz:=xQ hy
      rcases List.mem_or_eq_of_mem_set hy with hy | rfl
      ·obtain ⟨z,hz,rfl⟩:=List.mem_map.1 hy
       exact ih z x b (hdp z hz) (h1 z hz) hb (by omega)
      ·exact hv
     split
     ·rename_i hc
      rw [if_pos hc] at hs
      simp only [Tm.sz] at hs
      exact Tm.ok_mk.2 ⟨parts _ 0 (h1 p hpm) (by omega),h2,by simpa using h3⟩
     ·rename_i hc
      rw [if_neg hc] at hs
      have hxb:x∉bdN k nm ot l.length:=fun h=>hc (.inl h)
      have hxp:x∈p.fv:=Decidable.not_not.1 fun h=>hc (.inr h)
      have hpV:=zPW p (h1 p hpm)
      have hpd:=hdp p hpm
      obtain ⟨n1,n2⟩:=zNe hbd h2
      have hleT:=tI (wb f) k l.length b.fv x (bdN k nm ot l.length) (nm,ot,p)
      have hled:=hleT.d
      have hlast:=xQ (List.mem_of_getElem? (List.getElem?_set_self (l:=l.map fun t=>Tm.sub f t x b) (i:=(ym k l.length).toNat) (a:=Tm.sub f (rns (Tm.sub f) k l.length b.fv x (bdN k nm ot l.length) (nm,ot,p)).2.2 x b) (by simpa using g1)))
      simp only [Tm.sz] at hs
      have hfx:=zKl (f:=f) k l.length b.fv x (bdN k nm ot l.length) (nm,ot,p) hxb hxp
      have hbs:=zMI f _ x b (Nat.le_trans hled hpd) hfx
      have hps:=zEN f (rns (Tm.sub f) k l.length b.fv x (bdN k nm ot l.length) (nm,ot,p)).2.2 x b (hleT.v hpV)
      have hbf:=Tm.fv_len b
      have hbv:=Tm.vc_sz b
      have hfb:b.fv.length≤400:=by omega
      -- one name
      have r1:∀ (old:ByteArray) (st:ByteArray × ByteArray × Tm),old∈bdN k st.1 st.2.1 l.length→st.2.2.ok=true→st.2.2.dp≤f→(rn1 (Tm.sub f) k l.length b.fv x old st).2.2.sz≤400→yn st.1=true→(k=9→yn st.2.1=true∧st.1≠st.2.1) →
        (rn1 (Tm.sub f) k l.length b.fv x old st).2.2.ok=true∧yn (rn1 (Tm.sub f) k l.length b.fv x old st).1=true∧(k=9→yn (rn1 (Tm.sub f) k l.length b.fv x old st).2.1=true∧(rn1 (Tm.sub f) k l.length b.fv x old st).1≠(rn1 (Tm.sub f) k l.length b.fv x old st).2.1)∧(k≠9→(rn1 (Tm.sub f) k l.length b.fv x old st).2.1=st.2.1):=fun old st ho a1 a2 a3 a4 a5=>by
       have hfr:=zB0 (b.fv++(st.2.2.fv++([x]++bdN k st.1 st.2.1 l.length)))
       unfold rn1 at a3 ⊢
       split
       ·rename_i hold
        rw [if_pos hold] at a3
        have hss:st.2.2.sz≤400:=by
         split at a3
         ·exact Nat.le_trans (zEN f _ _ _ (zPW _ a1)) a3
         ·exact Nat.le_trans (zEN f _ _ _ (zPW _ a1)) a3
        have hsf:=Tm.fv_len st.2.2
        have hsv:=Tm.vc_sz st.2.2
        have hbn:=sM k st.1 st.2.1 l.length
        have hnm:=zGq (l:=b.fv++(st.2.2.fv++([x]++bdN k st.1 st.2.1 l.length))) (by simp only [List.length_append,List.length_cons,List.length_nil];omega)
        generalize fresh (b.fv++(st.2.2.fv++([x]++bdN k st.1 st.2.1 l.length)))=w at hfr hnm a3 ⊢
        have hw:w∉bdN k st.1 st.2.1 l.length:=fun h=>hfr (by simp [h])
        split
        ·rename_i hq
         rw [if_pos hq] at a3
         refine ⟨ih _ _ _ a2 a1 (zKd hnm) a3,hnm,fun h9=>⟨(a5 h9).1,fun hcc=>hw ?_⟩,fun _=>rfl⟩
         subst h9
         have h9:l.length=1:=by rcases vS 9 l.length with h | ⟨_,h,_⟩ | ⟨_,_,h⟩<;>first | exact h | omega
         have hcc:w=st.2.1:=hcc
         rw [h9,hcc];simp [bdN]
        ·rename_i hq
         rw [if_neg hq] at a3
         have h9:k=9:=by
          unfold bdN at ho
          (repeat' split at ho)<;>simp_all
         subst h9
         have hl1:l.length=1:=by rcases vS 9 l.length with h | ⟨_,h,_⟩ | ⟨_,_,h⟩<;>first | exact h | omega
         refine ⟨ih _ _ _ a2 a1 (zKd hnm) a3,a4,fun _=>⟨hnm,fun hcc=>hw ?_⟩,fun h=>absurd rfl h⟩
         have hcc:st.1=w:=hcc
         rw [hl1,←hcc];simp [bdN]
       ·exact ⟨a1,a4,a5,fun _=>rfl⟩
      have hstr:∀ (os:List ByteArray) (st:ByteArray × ByteArray × Tm),st.2.2.V→(rns (Tm.sub f) k l.length b.fv x os st).2.2.sz≤400→st.2.2.sz≤400:=fun os st hv h=>Nat.le_trans (zLt (fun t x y h=>zEN f t x _ h) _ _ _ _ _ _ hv) h
      have fin:(rns (Tm.sub f) k l.length b.fv x (bdN k nm ot l.length) (nm,ot,p)).2.2.ok=true∧yn (rns (Tm.sub f) k l.length b.fv x (bdN k nm ot l.length) (nm,ot,p)).1=true ∧
        (k=9→yn (rns (Tm.sub f) k l.length b.fv x (bdN k nm ot l.length) (nm,ot,p)).2.1=true∧(rns (Tm.sub f) k l.length b.fv x (bdN k nm ot l.length) (nm,ot,p)).1≠(rns (Tm.sub f) k l.length b.fv x (bdN k nm ot l.length) (nm,ot,p)).2.1) ∧
        (k≠9→(rns (Tm.sub f) k l.length b.fv x (bdN k nm ot l.length) (nm,ot,p)).2.1=ot):=by
       have hall:(rns (Tm.sub f) k l.length b.fv x (bdN k nm ot l.length) (nm,ot,p)).2.2.sz≤400:=by omega
       have hbc:bdN k nm ot l.length=[nm]∨(k=9∧l.length=1∧bdN k nm ot l.length=[nm,ot]):=by
        rcases vS k l.length with h | ⟨_,h,h | h⟩ | ⟨_,h,h'⟩
        ·omega
        ·left;subst h;rw [show l.length=1 from ‹_›];simp [bdN]
        ·right;subst h;rw [show l.length=1 from ‹_›];simp [bdN]
        ·left;subst h';rw [h];simp [bdN]
       rcases hbc with e | ⟨hk9,hl1,e⟩
       ·rw [e] at hall ⊢
        simp only [rns] at hall ⊢
        exact r1 nm (nm,ot,p) (by rw [e];simp) (h1 p hpm) hpd hall n1 n2
       ·rw [e] at hall ⊢
        simp only [rns] at hall ⊢
        have q1:=zIL (wb f) k l.length b.fv x nm (nm,ot,p)
        have q2:=hstr [ot] _ (q1.v hpV) (by simpa only [rns] using hall)
        obtain ⟨b1,b2,b3,b4⟩:=r1 nm (nm,ot,p) (by rw [e];simp) (h1 p hpm) hpd q2 n1 n2
        have q1d:=q1.d
        have hm2:ot∈bdN k (rn1 (Tm.sub f) k l.length b.fv x nm (nm,ot,p)).1 (rn1 (Tm.sub f) k l.length b.fv x nm (nm,ot,p)).2.1 l.length:=by
         have:(rn1 (Tm.sub f) k l.length b.fv x nm (nm,ot,p)).2.1=ot:=by
          unfold rn1
          simp only [if_true]
          split<;>rfl
         rw [this,hk9,hl1];simp [bdN]
        obtain ⟨d1,d2,d3,d4⟩:=r1 ot _ hm2 b1 (Nat.le_trans q1d hpd) hall b2 b3
        exact ⟨d1,d2,d3,fun h=>absurd hk9 h⟩
      obtain ⟨fa,fb2,fc,fd⟩:=fin
      obtain ⟨u1,u2⟩:=zKs hbd h2 fb2 fc fd
      exact Tm.ok_mk.2 ⟨parts _ 0 (ih _ x b (Nat.le_trans hled hpd) fa hb (by omega)) (by omega),u1,by rw [u2];simpa using h3⟩
theorem Tm.dp_mem {k:Int} {nm ot:ByteArray} {n:Int} {ty re:Ty} {l:List Tm} {y:Tm} (h:y∈l):y.dp+1≤(Tm.mk k nm ot n ty re l).dp:=by
 have:=wH.1 (Nat.le_refl (w5 l)) y h
 simp only [Tm.dp];omega
theorem Tm.sz_mem {k:Int} {nm ot:ByteArray} {n:Int} {ty re:Ty} {l:List Tm} {y:Tm} (h:y∈l):y.sz+1≤(Tm.mk k nm ot n ty re l).sz:=by
 have:=xQ h
 simp only [Tm.sz];omega
theorem zP2 {e x:Tm} {i:Nat} (he:e.ok=true) (hx:x.ok=true):(e.wth i x).ok=true:=by
 cases e with
 | mk k nm ot n ty re l=>
 obtain ⟨h1,h2,h3⟩:=Tm.ok_mk.1 he
 refine Tm.ok_mk.2 ⟨fun y hy=>?_,h2,by simpa using h3⟩
 rcases List.mem_or_eq_of_mem_set hy with hy | rfl
 ·exact h1 y hy
 ·exact hx
theorem zPS {e:Tm} {i:Nat} (he:e.ok=true) (hi:i<e.as.length):(e.pt i).ok=true:=by
 cases e with
 | mk k nm ot n ty re l=>exact (Tm.ok_mk.1 he).1 _ (zG hi)
theorem zOw {k n:Int} (h:(k=2∧0≤n∧n≤10006)∨(k=3∧0≤n∧n≤1)):(zMl k n).ok=true:=by
 have hz:(Ty.mk 0 []).valid=false:=by decide +kernel
 rcases h with ⟨rfl,h⟩ | ⟨rfl,h⟩
 ·refine Tm.ok_mk.2 ⟨by simp,?_,rfl⟩
  simp [zK,s7,hz,Ty.zero,Ty.k,Ty.as,inB,xU,h]
 ·refine Tm.ok_mk.2 ⟨by simp,?_,rfl⟩
  simp [zK,s7,hz,Ty.zero,Ty.k,Ty.as,inB,xU,h]
theorem zQN {x:Tm} (h:x.ok=true):(Tm.nod 10 [x]).ok=true:=by
 have hz:(Ty.mk 0 []).valid=false:=by decide +kernel
 refine Tm.ok_mk.2 ⟨by simpa using h,?_,rfl⟩
 simp [zK,s7,hz,Ty.zero,Ty.k,Ty.as,inB,xU]
theorem zNm {e b:Tm} {x:ByteArray} (he:e.ok=true) (hb:b.ok=true) (h:(e.sb x b).sz≤400):(e.sb x b).ok=true:=zOM _ e x b (Nat.le_refl _) he hb h
theorem zMV {e:Tm} (he:e.ok=true) (hs:e.apl.1.sz≤400):e.apl.1.ok=true:=by
 cases e with
 | mk k nm ot n ty re l=>
 obtain ⟨h1,h2,h3⟩:=Tm.ok_mk.1 he
 obtain ⟨a1,a2,a3,a4,a5⟩:=yv he
 have g:∀ i,i<l.length→(l.getD i tm0).ok=true:=fun i hi=>h1 _ (zG hi)
 simp only [Tm.apl] at hs ⊢
 split
 ·rename_i hk
  unfold Tm.opr
  split
  ·refine zOw ?_
   simp only [Tm.nm]
   have hin:=zJz nm (l.getD 0 tm0).no (l.getD 1 tm0).no
   unfold zDt
   by_cases ho:zHH nm=true
   ·rw [if_pos ho];exact .inl ⟨rfl,hin.1,hin.2⟩
   ·rw [if_neg ho]
    simp only [zHH,Bool.or_eq_true,decide_eq_true_eq,not_or] at ho
    have:=zGS ho.1 ho.2.1 ho.2.2 (l.getD 0 tm0).no (l.getD 1 tm0).no
    exact .inr ⟨rfl,this.1,this.2⟩
  ·exact he
 ·rename_i hk4
  rw [if_neg hk4] at hs
  split
  ·rename_i hk
   split
   ·rename_i hb
    have:=zH6 (g 0 (by have:=a3 hk;omega)) hb
    refine g _ ?_
    have:=a3 hk
    omega
   ·exact he
  ·rename_i hk5
   rw [if_neg hk5] at hs
   split
   ·rename_i hk
    rw [if_pos hk] at hs
    have hl:=a2 (.inl hk)
    have q0:=g 0 (by omega)
    have q1:=g 1 (by omega)
    generalize l.getD 0 tm0=p at hs q0 ⊢
    generalize l.getD 1 tm0=q at hs q1 ⊢
    have hp:(p.kd=6∨p.kd=9)→(p.pt 0).ok=true:=fun h=>by
     refine zPS q0 ?_
     cases p with
     | mk pk pn po pm pt pr pl=>
     have:=(yv q0).1 (by simp only [Tm.kd] at h;omega)
     simp only [Tm.as];omega
    split
    ·rename_i h6
     rw [if_pos h6] at hs
     exact zNm (hp (.inl h6)) q1 hs
    ·rename_i h6
     rw [if_neg h6] at hs
     split
     ·rename_i h9
      rw [if_pos h9] at hs
      have hV:=zPG (p.pt 0).dp (p.pt 0) p.nm p (zPW _ (hp (.inr h9))) (zPW _ q0)
      have hle:=zEN ((p.pt 0).sb p.nm p).dp ((p.pt 0).sb p.nm p) p.ot q hV
      exact zNm (zNm (hp (.inr h9)) q0 (Nat.le_trans hle hs)) q1 hs
     ·exact he
   ·rename_i hk7
    rw [if_neg hk7] at hs
    split
    ·rename_i hk
     rw [if_pos hk] at hs
     have hl:=a2 (.inr hk)
     exact zNm (g 1 (by omega)) (g 0 (by omega)) hs
    ·rename_i hk8
     split
     ·rename_i hk
      split
      ·rename_i h10
       have q0:=g 0 (by have:=a1 (by omega);omega)
       refine zPS q0 ?_
       generalize l.getD 0 tm0=p at q0 h10 ⊢
       cases p with
       | mk pk pn po pm pt pr pl=>
       have:=(yv q0).1 (by simp only [Tm.kd] at h10;omega)
       simp only [Tm.as];omega
      ·exact he
     ·split
      ·rename_i hk
       split
       ·exact zQN (g 0 (by have:=a1 (by omega);omega))
       ·exact he
      ·exact he
theorem zCg {g:Tm→Tm} {m:Nat}:∀ {l:List Tm},(∀ t∈l,(g t).sz≤t.sz*m)→zH (l.map g)≤zH l*m
 | [],_=>by simp [zH]
 | t::l,h=>by
   have h1:=zCg (l:=l) fun x hx=>h x (by simp [hx])
   have h2:=h t (by simp)
   simp only [List.map_cons,zH,Nat.add_mul]
   omega
theorem zAh {g:Tm→Tm} {m:Nat} {v:Tm}:∀ {l:List Tm} {j:Nat},(∀ t∈l,(g t).sz≤t.sz*m)→(∀ t,l[j]?=some t→v.sz≤t.sz*m)→zH ((l.map g).set j v)≤zH l*m
 | [],_,_,_=>by simp [zH]
 | t::l,0,h,hv=>by
   have h1:=zCg (l:=l) fun x hx=>h x (by simp [hx])
   have h2:=hv t rfl
   simp only [List.map_cons,List.set_cons_zero,zH,Nat.add_mul]
   omega
 | t::l,j+1,h,hv=>by
   have h1:=zAh (l:=l) (j:=j) (v:=v) (fun x hx=>h x (by simp [hx])) fun x hx=>hv x (by simpa using hx)
   have h2:=h t (by simp)
   simp only [List.map_cons,List.set_cons_succ,zH,Nat.add_mul]
   omega
theorem zLl:∀ (f:Nat) (t:Tm) (x:ByteArray) (b:Tm),(t.sub f x b).sz≤t.sz*(b.sz+1)
 | 0,t,x,b=>by simp only [Tm.sub];exact Nat.le_mul_of_pos_right _ (by omega)
 | f + 1,.mk k nm ot n ty re l,x,b=>by
   have ih:=zLl f
   have one:∀ m:Nat,m≤zH l*(b.sz+1)→1+m≤(1+zH l)*(b.sz+1):=fun m h=>by rw [Nat.add_mul];omega
   simp only [Tm.sub]
   split
   ·split
    ·simp only [Tm.sz];rw [Nat.add_mul];omega
    ·exact Nat.le_mul_of_pos_right _ (by omega)
   ·split
    ·simp only [Tm.sz]
     exact one _ (zCg fun t _=>ih t x b)
    ·rename_i hbd
     obtain ⟨g1,g2⟩:=wF hbd
     split
     ·simp only [Tm.sz]
      refine one _ (zAh (fun t _=>ih t x b) fun t ht=>?_)
      rw [zU g1] at ht
      rw [←Option.some.inj ht]
      exact Nat.le_mul_of_pos_right _ (by omega)
     ·simp only [Tm.sz]
      refine one _ (zAh (fun t _=>ih t x b) fun t ht=>?_)
      rw [zU g1] at ht
      rw [←Option.some.inj ht]
      exact Nat.le_trans (ih _ x b) (Nat.mul_le_mul_right _ (tI (wb f) _ _ _ _ _ _).s)
theorem zHm {x:Tm}:∀ {l:List Tm} {i:Nat},i<l.length→zH (l.set i x)+(l.getD i tm0).sz=zH l+x.sz
 | t::l,0,_=>by simp only [List.set_cons_zero,zH,List.getD_cons_zero];omega
 | t::l,i+1,h=>by
   have:=zHm (x:=x) (l:=l) (i:=i) (by simpa using h)
   simp only [List.set_cons_succ,zH,List.getD_cons_succ];omega
theorem zPP {e:Tm} {i:Nat}:(e.pt i).sz≤e.sz:=by
 cases e with
 | mk k nm ot n ty re l=>
 simp only [Tm.pt]
 by_cases h:i<l.length
 ·have:=Tm.sz_mem (k:=k) (nm:=nm) (ot:=ot) (n:=n) (ty:=ty) (re:=re) (zG h);omega
 ·rw [List.getD_eq_getElem?_getD,List.getElem?_eq_none (by omega)]
  simp only [Option.getD_none,tm0,Tm.sz,zH];omega
theorem zKY:∀ (t:Tm) (d:D),t.Is d→t.sz≤9223372036854775807→qN 49 [.dg 9 d] t.sz:=by
 refine Tm.ind fun k nm ot n0 ty re l ih d hd hc N Q hQ=>?_
 obtain ⟨t0,t1,r0,r1,a,es,c,rfl,hh,hlen,hes⟩:=Tm.is_mk.1 hd
 simp only [Tm.sz] at hc
 refine zFe N _ Q fun _=>⟨_,_,_,rfl,?_⟩
 refine up hes hlen (fun i xs=>∀ (m:Nat) (N':Nat),N≤N'→m+zH xs=1+zH l→wX Q N m a es c es.length i N') ?_ ?_ 1 N (Nat.le_refl _) rfl
 ·intro i hlt _ m N' hN' hm
  refine sf _ _ _ _ _ _ _ _ _ ?_
  simp only [zH] at hm
  repeat' first|with_reducible intro _|simp only[hlt,Y1,Y2,Y3,Y4]|(with_reducible first|refine X1 ?_ ?_|refine X2 ?_ ?_|refine X3 ?_ ?_|refine X4 ?_ ?_|refine X5 ?_ ?_|refine X6 ?_ ?_|refine X7 ?_ ?_|refine X8 ?_ ?_|refine X9 ?_ ?_)|refine⟨_,_,_,rfl,?_⟩|refine⟨_,rfl,?_⟩|((with_reducible refine And.intro ?_ ?_);·first|omega|trivial|(show _=_;rfl)|((with_reducible refine And.intro ?_ ?_)<;>first|omega|trivial|(show _=_;rfl)))|fail
  exact Qi (hQ _ (by omega)) (by simp only [Tm.sz];omega)
 ·intro i x xs hat _ ih2 m N' hN' hm
  have hb:=hat.b
  have hxc:=xQ hat.m
  simp only [zH] at hm
  refine sf _ _ _ _ _ _ _ _ _ ?_
  rw [hat.lt,hat.w,Int.toNat_natCast]
  refine ⟨⟨by omega,by omega⟩,fun N1 hN1=>ih x hat.m _ hat.r (by omega) N1 _ fun N2 hN2 _=>?_⟩
  rw [i64_in _ (by omega)]
  have:=ih2 (m+x.sz) N2 (by omega) (by omega)
  simpa using this
theorem zJv:∀ (t:Tm) (d:D),t.Is d→t.sz≤9223372036854775807→qN 48 [.dg 9 d] t.sz:=by
 refine Tm.ind fun k nm ot n0 ty re l ih d hd hc N Q hQ=>?_
 obtain ⟨t0,t1,r0,r1,a,es,c,rfl,hh,hlen,hes⟩:=Tm.is_mk.1 hd
 simp only [Tm.sz] at hc
 refine zFO N _ Q fun _=>?_
 refine up hes hlen (fun i xs=>∀ (m:Nat) (N':Nat),N≤N'→m+zH xs=1+zH l→wM Q N m i (.ag [.lit (.int .i64 k),.lit (.string nm),.lit (.string ot),.lit (.int .i64 n0),t0,t1,r0,r1,.sl a 9 es c]) N') ?_ ?_ 1 N (Nat.le_refl _) rfl
 ·intro i hlt _ m N' hN' hm
  refine sL _ _ _ _ _ _ ⟨_,_,_,rfl,?_⟩
  simp only [zH] at hm
  rw [hlt]
  exact fun N2 hN2=>Qi (hQ _ (by omega)) (by simp only [Tm.sz];omega)
 ·intro i x xs hat _ ih2 m N' hN' hm
  have hb:=hat.b
  have hxc:=xQ hat.m
  simp only [zH] at hm
  refine sL _ _ _ _ _ _ ⟨_,_,_,rfl,?_⟩
  rw [hat.lt,hat.w,Int.toNat_natCast]
  refine ⟨_,_,_,rfl,⟨by omega,by omega⟩,fun N1 hN1=>ih x hat.m _ hat.r (by omega) N1 _ fun N2 hN2 _=>?_⟩
  rw [i64_in _ (by omega)]
  have:=ih2 (m+x.sz) N2 (by omega) (by omega)
  simpa using this
/-- a term's types are small -/
theorem zKg:∀ t:Tm,t.ok=true→t.cnt≤61*t.sz:=by
 refine Tm.ind fun k nm ot n ty re l ih h=>?_
 obtain ⟨h1,h2,h3⟩:=Tm.ok_mk.1 h
 have z1:∀ t:Ty,t.zero=true→t.cnt≤30:=fun t ht=>by
  cases t with
  | mk k l=>
  simp only [Ty.zero,Ty.k,Ty.as,Bool.and_eq_true,beq_iff_eq] at ht
  have:l=[]:=List.eq_nil_of_length_eq_zero (by omega)
  subst this
  simp [Ty.cnt,zJ]
 have v1:∀ t:Ty,t.valid=true→t.cnt≤30:=fun t ht=>by
  simp only [Ty.valid,Bool.and_eq_true,decide_eq_true_eq] at ht
  exact ht.1.1
 simp only [zK,Bool.and_eq_true,beq_iff_eq,Bool.or_eq_true] at h2
 have hty:ty.cnt≤30:=by
  rcases h2.2.1 with h | h
  ·exact v1 _ (by rw [←h2.1,h])
  ·exact z1 _ h
 have hre:re.cnt≤30:=by
  rcases h2.2.2.2.1 with h | h
  ·exact v1 _ (by rw [←h2.2.2.1];simpa using h)
  ·exact z1 _ h
 have key:∀ xs:List Tm,(∀ x∈xs,x∈l)→zg xs≤61*zH xs:=by
  intro xs
  induction xs with
  | nil=>intro _;exact Nat.le_refl _
  | cons x xs ihx=>
    intro hm
    have a1:=ih x (hm x (by simp)) (h1 x (hm x (by simp)))
    have a2:=ihx fun y hy=>hm y (by simp [hy])
    simp only [zg,zH];omega
 have:=key l fun x hx=>hx
 simp only [Tm.cnt,Tm.sz];omega
end Go.Proofs.YtnpjpplbkoammaaGreatDoor
