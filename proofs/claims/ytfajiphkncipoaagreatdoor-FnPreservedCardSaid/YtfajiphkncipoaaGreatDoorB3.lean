/- Substitution and steps: sizes, and that terms stay terms (no program in sight). -/
import Derived.Test.YtfajiphkncipoaaGreatDoorB1
import Derived.Test.YtfajiphkncipoaaGreatDoorC1
set_option linter.unusedVariables false
set_option linter.unusedSimpArgs false
namespace Go.Proofs.YtfajiphkncipoaaGreatDoor
open Go Go.Proofs Go.Proofs.Tryz Go.IntWalk
theorem zJq:∀ {l:List Tm},tn l=true↔∀ x∈l,x.ok=true
 | []=>by simp [tn]
 | t::I=>by simp only [tn,oI,zJq (l:=I),oF,nk]
theorem zOO {k:Nat} (h:k<=999):Lib.decDigits k=(if k<10 then [UInt8.ofNat (48+k)] else if k<100 then [UInt8.ofNat (48+k / 10),UInt8.ofNat (48+k % 10)] else [UInt8.ofNat (48+k / 10 / 10),UInt8.ofNat (48+k / 10 % 10),UInt8.ofNat (48+k % 10)]):=by
 have e1:∀ u,u<10->Lib.decDigits u=[UInt8.ofNat (48+u)]:=λu h=>by rw [Lib.decDigits,dif_pos h]
 have J:∀ u,¬u<10->Lib.decDigits u=Lib.decDigits (u / 10)++[UInt8.ofNat (48+u % 10)]:=λu h=>by rw [Lib.decDigits,dif_neg h]
 split
 ·rename_i I;exact e1 k I
 ·rename_i I
  rw [J k I]
  split
  ·rename_i O;rw [e1 _ (by omega)];rfl
  ·rename_i O
   rw [J (k / 10) (by omega),e1 _ (by omega)];rfl
theorem zO5:∀ a:_root_.Fin 10,yg ⟨#[118,UInt8.ofNat (48+a.val)]⟩=true:=by decide +kernel
theorem zNF:∀ a b:_root_.Fin 10,yg ⟨#[118,UInt8.ofNat (48+a.val),UInt8.ofNat (48+b.val)]⟩=true:=by decide +kernel
theorem zNl:∀ a b c:_root_.Fin 10,yg ⟨#[118,UInt8.ofNat (48+a.val),UInt8.ofNat (48+b.val),UInt8.ofNat (48+c.val)]⟩=true:=by decide +kernel
theorem zP7 {k:Nat} (h:k<=999):yg (uS k)=true:=by
 unfold uS
 rw [zOO h]
 split
 ·rename_i I;exact zO5 ⟨k,I⟩
 ·split
  ·rename_i I J;exact zNF ⟨k / 10,by omega⟩ ⟨k % 10,by omega⟩
  ·rename_i I J;exact zNl ⟨k / 10 / 10,by omega⟩ ⟨k / 10 % 10,by omega⟩ ⟨k % 10,by omega⟩
theorem zI9 {l:List ByteArray} (h:l.length<=998):yg (fresh l)=true:=by
 obtain ⟨k,e,_,I,_,_⟩:=t6 l
 rw [e]
 exact zP7 (by omega)
theorem Tm.ok_mk {k:Int} {nm ot:ByteArray} {n:Int} {ty re:Ty} {l:List Tm}:(Tm.mk k nm ot n ty re l).ok=true↔(∀ x∈l,x.ok=true)/\zJ k nm ot n ty re=true/\(l.length:Int)=zE8 k nm:=by
 simp only [Tm.ok,oI,zJq,nw]
theorem zRO {s:ByteArray} (h:yg s=true):(vF s).ok=true:=by
 refine Tm.ok_mk.2 ⟨by simp,?_,rfl⟩
 have:(Ty.mk 0 []).valid=false:=by decide +kernel
 simp [zJ,qO,this,Ty.zero,Ty.k,Ty.as,inB,xK,h]
/-- the names of a form that binds can be others -/
theorem zNg {k:Int} {nm ot I J:ByteArray} {n:Int} {ty re:Ty} {m:Nat} (hb:¬zQ k m<0) (h:zJ k nm ot n ty re=true) (U:yg I=true) (Y:k=9->yg J=true/\I≠J) (O:k≠9->J=ot):zJ k I J n ty re=true/\(zE8 k I=zE8 k nm):=by
 have hk:k=6\/k=8\/k=9:=by
  rcases uK k m with h | ⟨_,_,h | h⟩ | ⟨_,_,h⟩
  ·omega
  ·exact .inl h
  ·exact .inr (.inr h)
  ·exact .inr (.inl h)
 rcases hk with rfl | rfl | rfl
 ·have O:=O (by decide)
  subst O
  refine ⟨?_,rfl⟩
  simp only [zJ,xK,oI] at h ⊢
  simp [U] at h ⊢
  exact ⟨h.1,h.2.1,h.2.2.1,h.2.2.2.1,h.2.2.2.2.1,h.2.2.2.2.2.2⟩
 ·have O:=O (by decide)
  subst O
  refine ⟨?_,rfl⟩
  simp only [zJ,xK,oI] at h ⊢
  simp [U] at h ⊢
  exact ⟨h.1,h.2.1,h.2.2.1,h.2.2.2.1,h.2.2.2.2.1,h.2.2.2.2.2.2⟩
 ·obtain ⟨h4,h5⟩:=Y rfl
  refine ⟨?_,rfl⟩
  simp only [zJ,xK,oI] at h ⊢
  simp [U,h4,h5] at h ⊢
  exact ⟨h.1,h.2.1,h.2.2.1,h.2.2.2.1⟩
theorem zIF {k:Int} {nm ot:ByteArray} {n:Int} {ty re:Ty} {m:Nat} (J:¬zQ k m<0) (h:zJ k nm ot n ty re=true):yg nm=true/\(k=9->yg ot=true/\nm≠ot):=by
 have I:k=6\/k=8\/k=9:=by
  rcases uK k m with h | ⟨_,_,h | h⟩ | ⟨_,_,h⟩
  ·omega
  ·exact .inl h
  ·exact .inr (.inr h)
  ·exact .inr (.inl h)
 rcases I with rfl | rfl | rfl
 ·simp only [zJ,xK,oI] at h
  refine ⟨?_,λh=>absurd h (by decide)⟩
  simp at h;exact h.2.2.2.2.2.1
 ·simp only [zJ,xK,oI] at h
  refine ⟨?_,λh=>absurd h (by decide)⟩
  simp at h;exact h.2.2.2.2.2.1
 ·simp only [zJ,xK,oI] at h
  simp at h
  exact ⟨h.2.2.2.2.1,λ_=>⟨h.2.2.2.2.2.1,h.2.2.2.2.2.2⟩⟩
theorem Tm.dp_mem {k:Int} {nm ot:ByteArray} {n:Int} {ty re:Ty} {l:List Tm} {y:Tm} (h:y∈l):y.dp+1<=(Tm.mk k nm ot n ty re l).dp:=by
 have:=ww.1 (oD (wT l)) y h
 simp only [Tm.dp];omega
theorem zSu {e:Tm} {i:Nat} (I:e.ok=true) (hi:i<e.as.length):(e.pt i).ok=true:=by
 cases e with
 | mk k nm ot n ty re l=>exact (Tm.ok_mk.1 I).1 _ (zI hi)
theorem zRu {k n:Int} (h:(k=2/\0<=n/\n<=10006)\/(k=3/\0<=n/\n<=1)):(zJP k n).ok=true:=by
 have I:(Ty.mk 0 []).valid=false:=by decide +kernel
 rcases h with ⟨rfl,h⟩ | ⟨rfl,h⟩
 ·refine Tm.ok_mk.2 ⟨by simp,?_,rfl⟩
  simp [zJ,qO,I,Ty.zero,Ty.k,Ty.as,inB,xK,h]
 ·refine Tm.ok_mk.2 ⟨by simp,?_,rfl⟩
  simp [zJ,qO,I,Ty.zero,Ty.k,Ty.as,inB,xK,h]
theorem zSx {x:Tm} (h:x.ok=true):(Tm.nod 10 [x]).ok=true:=by
 have I:(Ty.mk 0 []).valid=false:=by decide +kernel
 refine Tm.ok_mk.2 ⟨by simpa using h,?_,rfl⟩
 simp [zJ,qO,I,Ty.zero,Ty.k,Ty.as,inB,xK]
mutual
def Tm.ov (y:ByteArray):Tm->Nat
 | .mk k nm ot _ _ _ l=>bn k+zKv y (zQ k l.length) (bdN k nm ot l.length) l 0
def zKv (y:ByteArray) (at_:Int) (ns:List ByteArray):List Tm->Nat->Nat
 | [],_=>0
 | t::I,i=>max (if y∈fvI at_ ns i t then t.ov y else 0) (zKv y at_ ns I (i+1))
end
theorem zDH {y:ByteArray} {at_:Int} {ns:List ByteArray}:∀ {l:List Tm} {i n:Nat},zKv y at_ ns l i<=n↔∀ (j:Nat) (x:Tm),l[j]?=some x->y∈fvI at_ ns (i+j) x->x.ov y<=n
 | [],i,n=>by simp [zKv]
 | t::U,i,n=>by
   simp only [zKv,Nat.max_le,zDH (l:=U)]
   constructor
   ·rintro ⟨O,Y⟩ j x J I
    cases j with
    | zero=>
      simp at J;subst J
      rw [mL] at I
      rw [if_pos I] at O;exact O
    | succ j=>exact Y j x (by simpa using J) (by rw [show i+1+j=i+(j+1) by omega];exact I)
   ·intro h
    refine ⟨?_,λj x J I=>h (j+1) x (by simpa using J) (by rw [show i+(j+1)=i+1+j by omega];exact I)⟩
    split
    ·rename_i I;exact h 0 t rfl I
    ·omega
theorem zP4 {k:Int} {nm ot:ByteArray} {n:Int} {ty re:Ty} {l:List Tm} {y:ByteArray} {j:Nat} {x:Tm} (I:l[j]?=some x) (J:y∈fvI (zQ k l.length) (bdN k nm ot l.length) j x):bn k+x.ov y<=(Tm.mk k nm ot n ty re l).ov y:=by
 have:=zDH.1 (oD (zKv y (zQ k l.length) (bdN k nm ot l.length) l 0)) j x I (by rw [om];exact J)
 simp only [Tm.ov];omega
theorem Tm.ov_bd (y:ByteArray):∀ t:Tm,t.ov y<=t.bd:=by
 refine Tm.ind λk nm ot n ty re l J=>?_
 have:zKv y (zQ k l.length) (bdN k nm ot l.length) l 0<=wS l:=zDH.2 λj x O _=>by
  have I:=oB O
  exact oO (J x I) (yL I)
 simp only [Tm.ov,Tm.bd];omega
theorem zTT {k:Int} {nm ot:ByteArray} {n:Int} {ty re:Ty} {l:List Tm} {y:ByteArray} {m:Nat}:(Tm.mk k nm ot n ty re l).ov y<=bn k+m↔∀ (j:Nat) (x:Tm),l[j]?=some x->y∈fvI (zQ k l.length) (bdN k nm ot l.length) j x->x.ov y<=m:=by
 simp only [Tm.ov]
 rw [Nat.add_le_add_iff_left,zDH]
 simp only [om]
/-- what is put where y is not free hides no place where it is -/
def OvP (f:Nat):Prop:=∀ (t:Tm) (x:ByteArray) (b:Tm) (y:ByteArray),t.dp<=f->y∉b.fv->y≠x->y∈(t.sub f x b).fv->(t.sub f x b).ov y<=t.ov y
theorem zKL {f:Nat} {t:Tm} {x:ByteArray} {b:Tm} {y:ByteArray} (hd:t.dp<=f) (I:y∉b.fv) (h:y∈(t.sub f x b).fv):y∈t.fv/\y≠x:=by
 rcases zIa f t x b hd y h with h | ⟨h,_⟩
 ·exact h
 ·exact absurd h I
/-- one name, away -/
theorem zKy {f:Nat} (U:OvP f) {u:Tm} {old fr y:ByteArray} (hd:u.dp<=f) (I:y≠fr) (h:y∈(u.sub f old (vF fr)).fv):y≠old/\y∈u.fv/\(u.sub f old (vF fr)).ov y<=u.ov y:=by
 have J:y∉(vF fr).fv:=by rw [zBw];simpa using I
 obtain ⟨Y,O⟩:=zKL hd J h
 exact ⟨O,Y,U u old (vF fr) y hd J O h⟩
theorem zTB {f:Nat} (U:OvP f) {k:Int} {n:Nat} {nm ot:ByteArray} {fb:List ByteArray} {x y:ByteArray} {u:Tm} (hd:u.dp<=f) (hb:¬zQ k n<0)
  (h:y∈(rns (Tm.sub f) k n fb x (bdN k nm ot n) (nm,ot,u)).2.2.fv) (I:y∉bdN k (rns (Tm.sub f) k n fb x (bdN k nm ot n) (nm,ot,u)).1 (rns (Tm.sub f) k n fb x (bdN k nm ot n) (nm,ot,u)).2.1 n) :
  y∉bdN k nm ot n/\y∈u.fv/\(rns (Tm.sub f) k n fb x (bdN k nm ot n) (nm,ot,u)).2.2.ov y<=u.ov y:=by
 have one:(∀ a b:ByteArray,bdN k a b n=[a])\/(∀ a b:ByteArray,bdN k a b n=[a,b]):=by
  unfold zQ at hb
  unfold bdN
  by_cases h6:k=6/\n=1
  ·exact .inl λa b=>if_pos h6
  ·rw [if_neg h6] at hb
   by_cases h8:k=8/\n=2
   ·exact .inl λa b=>by rw [if_neg h6,if_pos h8]
   ·rw [if_neg h8] at hb
    by_cases h9:k=9/\n=1
    ·exact .inr λa b=>by rw [if_neg h6,if_neg h8,if_pos h9]
    ·rw [if_neg h9] at hb;omega
 have aa:∀ a b:ByteArray,(u.sub f a (vF b)).dp<=f:=λa b=>oO (wH f u a b).d hd
 rcases one with one | two
 ·simp only [one,rns,rn1] at h I ⊢
  by_cases J:nm∈fb
  ·simp only [J,↓reduceIte] at h I ⊢
   have:=zKy U hd (by simpa using I) h
   exact ⟨by simpa using this.1,this.2⟩
  ·simp only [J,↓reduceIte] at h I ⊢
   exact ⟨I,h,oD _⟩
 ·simp only [two,rns,rn1] at h I ⊢
  have Y:∀ (u2:Tm),¬fresh (fb++(u2.fv++([x]++[nm,ot])))=ot:=λu2 hc=>ui (fb++(u2.fv++([x]++[nm,ot]))) (by rw [hc];simp)
  by_cases J:nm∈fb
  ·simp only [J,Y,↓reduceIte] at h I ⊢
   by_cases O:ot∈fb
   ·simp only [O,↓reduceIte] at h I ⊢
    simp only [oF,oc,mA,not_or] at I ⊢
    obtain ⟨a1,a2,a3⟩:=zKy U (aa _ _) I.2 h
    obtain ⟨b1,b2,b3⟩:=zKy U hd I.1 a2
    exact ⟨⟨b1,a1⟩,b2,oO a3 b3⟩
   ·simp only [O,↓reduceIte] at h I ⊢
    simp only [oF,oc,mA,not_or] at I ⊢
    obtain ⟨b1,b2,b3⟩:=zKy U hd I.1 h
    exact ⟨⟨b1,I.2⟩,b2,b3⟩
  ·simp only [J,↓reduceIte] at h I ⊢
   by_cases O:ot∈fb
   ·have ab:¬nm=ot:=λhc=>J (hc ▸ O)
    simp only [O,ab,↓reduceIte] at h I ⊢
    simp only [oF,oc,mA,not_or] at I ⊢
    obtain ⟨b1,b2,b3⟩:=zKy U hd I.2 h
    exact ⟨⟨I.1,b1⟩,b2,b3⟩
   ·simp only [O,↓reduceIte] at h I ⊢
    exact ⟨I,h,oD _⟩
theorem zOp:∀ f,OvP f
 | 0,t,x,b,y,hd,_,_,_=>absurd (Tm.dp_pos t) (by omega)
 | f + 1, .mk k nm ot n ty re l,x,b,y,hd,hb,ae,h=>by
   have ih:=zOp f
   have aj:=hd
   simp only [Tm.dp] at aj
   have ah:∀ z∈l,z.dp<=f:=λz hz=>oO (ww.1 (oD _) z hz) (by omega)
   have ab:∀ (j:Nat) (z w:Tm) (c:List ByteArray),l[j]?=some w->z=w.sub f x b->(j:Int)≠zQ k l.length->y∈fvI (zQ k l.length) c j z->bn k+z.ov y<=(Tm.mk k nm ot n ty re l).ov y:=λj z w c I hz al J=>by
    subst hz
    rw [vM (by omega)] at J
    have O:=ah w (oB I)
    have h2:=ih w x b y O hb ae J
    have h3:=zP4 (k:=k) (nm:=nm) (ot:=ot) (n:=n) (ty:=ty) (re:=re) I (y:=y) (by rw [vM (by omega)];exact (zKL O hb J).1)
    omega
   revert h
   simp only [Tm.sub]
   split
   ·split
    ·exact λh=>absurd h hb
    ·exact λ_=>oD _
   ·split
    ·rename_i ac
     intro _
     have h0:bn k<=(Tm.mk k nm ot n ty re l).ov y:=by simp only [Tm.ov];omega
     have:=(zTT (k:=k) (nm:=nm) (ot:=ot) (n:=n) (ty:=ty) (re:=re) (l:=l.map λt=>Tm.sub f t x b) (y:=y) (m:=(Tm.mk k nm ot n ty re l).ov y - bn k)).2 λj z I J=>by
      rw [oE] at I
      rw [nC] at J
      cases O:l[j]? with
      | none=>rw [O] at I;cases I
      | some w=>
        rw [O] at I
        cases I
        have:=ab j _ w _ O rfl (by omega) J
        show (w.sub f x b).ov y<=_
        omega
     omega
    ·rename_i ac
     obtain ⟨g1,g2⟩:=wE ac
     have hp:=zX g1
     have ai:=ah _ (oB hp)
     have h0:bn k<=(Tm.mk k nm ot n ty re l).ov y:=by simp only [Tm.ov];omega
     have fin:∀ (U Y:ByteArray) (v:Tm),(y∈v.fv->y∉bdN k U Y l.length->y∉bdN k nm ot l.length/\y∈(l.getD (zQ k l.length).toNat tm0).fv/\v.ov y<=(l.getD (zQ k l.length).toNat tm0).ov y)->(Tm.mk k U Y n ty re ((l.map λt=>Tm.sub f t x b).set (zQ k l.length).toNat v)).ov y<=(Tm.mk k nm ot n ty re l).ov y:=λU Y v hv=>by
      have:=(zTT (k:=k) (nm:=U) (ot:=Y) (n:=n) (ty:=ty) (re:=re) (l:=(l.map λt=>Tm.sub f t x b).set (zQ k l.length).toNat v) (y:=y) (m:=(Tm.mk k nm ot n ty re l).ov y - bn k)).2 λj z I J=>by
       rw [nY,nC] at J
       by_cases ak:j=(zQ k l.length).toNat
       ·subst ak
        rw [nD (by simpa using g1)] at I
        cases I
        rw [pF g2,yT] at J
        obtain ⟨c1,c2,c3⟩:=hv J.1 J.2
        have:=zP4 (k:=k) (nm:=nm) (ot:=ot) (n:=n) (ty:=ty) (re:=re) hp (y:=y) (by rw [pF g2];exact yT.2 ⟨c2,c1⟩)
        omega
       ·rw [o7 (by omega),oE] at I
        cases O:l[j]? with
        | none=>rw [O] at I;cases I
        | some w=>
          rw [O] at I
          cases I
          have:=ab j _ w _ O rfl (by omega) J
          show (w.sub f x b).ov y<=_
          omega
      omega
     split
     ·exact λ_=>fin _ _ _ λh1 h2=>⟨h2,h1,oD _⟩
     ·intro _
      refine fin _ _ _ λh1 h2=>?_
      have aa:=(pa (wH f) k l.length b.fv x (bdN k nm ot l.length) (nm,ot,l.getD (zQ k l.length).toNat tm0)).d
      have aa:(rns (Tm.sub f) k l.length b.fv x (bdN k nm ot l.length) (nm,ot,l.getD (zQ k l.length).toNat tm0)).2.2.dp<=f:=oO aa ai
      have h3:=ih _ x b y aa hb ae h1
      obtain ⟨c1,c2,c3⟩:=zTB ih ai ac (zKL aa hb h1).1 h2
      exact ⟨c1,c2,oO h3 c3⟩
/-- new names are not x: where x is free, it stays -/
theorem zRg {f:Nat} {k:Int} {n:Nat} {nm ot:ByteArray} {fb:List ByteArray} {x:ByteArray} {u:Tm} (hd:u.dp<=f) (hx:x∉bdN k nm ot n)
  (h:x∈(rns (Tm.sub f) k n fb x (bdN k nm ot n) (nm,ot,u)).2.2.fv):(rns (Tm.sub f) k n fb x (bdN k nm ot n) (nm,ot,u)).2.2.ov x<=u.ov x:=by
 have U:=zOp f
 have one:∀ (old:ByteArray) (s:ByteArray × ByteArray × Tm),s.2.2.dp<=f->x∈(rn1 (Tm.sub f) k n fb x old s).2.2.fv->x∈s.2.2.fv/\(rn1 (Tm.sub f) k n fb x old s).2.2.ov x<=s.2.2.ov x:=λold s hs=>by
  have I:x≠fresh (fb++(s.2.2.fv++([x]++bdN k s.1 s.2.1 n))):=λhc=>ui (fb++(s.2.2.fv++([x]++bdN k s.1 s.2.1 n))) (by rw [<-hc];simp)
  unfold rn1
  split
  ·split
   ·exact λh=>(zKy U hs I h).2
   ·exact λh=>(zKy U hs I h).2
  ·exact λh=>⟨h,oD _⟩
 have all:∀ (ns:List ByteArray) (s:ByteArray × ByteArray × Tm),s.2.2.dp<=f->x∈(rns (Tm.sub f) k n fb x ns s).2.2.fv->x∈s.2.2.fv/\(rns (Tm.sub f) k n fb x ns s).2.2.ov x<=s.2.2.ov x:=by
  intro ns
  induction ns with
  | nil=>exact λs _ h=>⟨h,oD _⟩
  | cons old ns J=>
    intro s hs h
    have O:=(zBa (S:=Tm.sub f) (wH f) k n fb x old s).d
    obtain ⟨a1,a2⟩:=J (rn1 (Tm.sub f) k n fb x old s) (oO O hs) h
    obtain ⟨Y,b2⟩:=one old s hs a1
    exact ⟨Y,oO a2 b2⟩
 exact (all _ _ hd h).2
/-- binders one within the other, where something is put -/
theorem zK2:∀ (f:Nat) (t:Tm) (x:ByteArray) (b:Tm),t.dp<=f->x∈t.fv->(t.sub f x b).bd<=max t.bd (t.ov x+b.bd)
 | 0,t,x,b,hd,_=>absurd (Tm.dp_pos t) (by omega)
 | f + 1, .mk k nm ot n ty re l,x,b,hd,hx=>by
   have ih:=zK2 f
   have ai:=hd
   simp only [Tm.dp] at ai
   have Y:∀ z∈l,z.dp<=f:=λz hz=>oO (ww.1 (oD _) z hz) (by omega)
   have al:(Tm.mk k nm ot n ty re l).bd=bn k+wS l:=by simp only [Tm.bd]
   have J:∀ (j:Nat) (w:Tm),l[j]?=some w->(x∈w.fv->x∈fvI (zQ k l.length) (bdN k nm ot l.length) j w)->bn k+(w.sub f x b).bd<=max (Tm.mk k nm ot n ty re l).bd ((Tm.mk k nm ot n ty re l).ov x+b.bd):=λj w I hy=>by
    have hm:=oB I
    have:=yL hm
    by_cases O:x∈w.fv
    ·have h2:=ih w x b (Y w hm) O
     have h3:=zP4 (k:=k) (nm:=nm) (ot:=ot) (n:=n) (ty:=ty) (re:=re) I (hy O)
     omega
    ·rw [zCB f w x b O];omega
   have vr:∀ (t:Tm) (o y:ByteArray),t.dp<=f->(t.sub f o (vF y)).bd<=t.bd:=λt o y ht=>by
    by_cases ho:o∈t.fv
    ·have h1:=ih t o (vF y) ht ho
     have h2:=t.ov_bd o
     have h3:(vF y).bd=0:=rfl
     omega
    ·rw [zCB f t o _ ho];exact oD _
   simp only [Tm.sub]
   split
   ·split
    ·omega
    ·omega
   ·split
    ·rename_i aa
     have:wS (l.map λt=>Tm.sub f t x b)<=max (Tm.mk k nm ot n ty re l).bd ((Tm.mk k nm ot n ty re l).ov x+b.bd) - bn k:=zAI.2 λz hz=>by
      obtain ⟨w,hw,rfl⟩:=oQ.1 hz
      obtain ⟨j,I⟩:=oP.1 hw
      have:=J j w I λh=>by rw [vM (by omega)];exact h
      show (w.sub f x b).bd<=_
      omega
     simp only [Tm.bd] at this ⊢
     omega
    ·rename_i aa
     obtain ⟨g1,g2⟩:=wE aa
     have hp:=zX g1
     have ab:=oB hp
     have ac:=Y _ ab
     have am:=yL ab
     have fin:∀ (ae ah:ByteArray) (v:Tm),bn k+v.bd<=max (Tm.mk k nm ot n ty re l).bd ((Tm.mk k nm ot n ty re l).ov x+b.bd)->(Tm.mk k ae ah n ty re ((l.map λt=>Tm.sub f t x b).set (zQ k l.length).toNat v)).bd<=max (Tm.mk k nm ot n ty re l).bd ((Tm.mk k nm ot n ty re l).ov x+b.bd):=λae ah v hv=>by
      have:wS ((l.map λt=>Tm.sub f t x b).set (zQ k l.length).toNat v)<=max (Tm.mk k nm ot n ty re l).bd ((Tm.mk k nm ot n ty re l).ov x+b.bd) - bn k:=zAI.2 λz hz=>by
       obtain ⟨j,I⟩:=oP.1 hz
       by_cases aj:j=(zQ k l.length).toNat
       ·subst aj
        rw [nD (by simpa using g1)] at I
        cases I
        omega
       ·rw [o7 (by omega),oE] at I
        cases hw:l[j]? with
        | none=>rw [hw] at I;cases I
        | some w=>
          rw [hw] at I
          cases I
          have:=J j w hw λh=>by rw [vM (by omega)];exact h
          show (w.sub f x b).bd<=_
          omega
      simp only [Tm.bd] at this ⊢
      omega
     split
     ·exact fin _ _ _ (by omega)
     ·rename_i hc
      simp only [not_or,Classical.not_not] at hc
      refine fin _ _ _ ?_
      have ak:=(pa (wH f) k l.length b.fv x (bdN k nm ot l.length) (nm,ot,l.getD (zQ k l.length).toNat tm0)).d
      have hP:=zSJ (P:=λt:Tm=>t.dp<=f/\t.bd<=(l.getD (zQ k l.length).toNat tm0).bd) (f:=f) (λt x y ht=>⟨oO (wH f t x y).d ht.1,oO (vr t x y ht.1) ht.2⟩) k l.length b.fv x (bdN k nm ot l.length) (nm,ot,l.getD (zQ k l.length).toNat tm0) ⟨ac,oD _⟩
      generalize hr:rns (Tm.sub f) k l.length b.fv x (bdN k nm ot l.length) (nm,ot,l.getD (zQ k l.length).toNat tm0)=r at hP ak ⊢
      by_cases U:x∈r.2.2.fv
      ·have h1:=ih r.2.2 x b hP.1 U
       have h2:=zRg (k:=k) (n:=l.length) (nm:=nm) (ot:=ot) (fb:=b.fv) (x:=x) ac hc.1 (by rw [hr];exact U)
       rw [hr] at h2
       have h3:=zP4 (k:=k) (nm:=nm) (ot:=ot) (n:=n) (ty:=ty) (re:=re) hp (y:=x) (by rw [pF g2];exact yT.2 ⟨hc.2,hc.1⟩)
       have:=hP.2
       omega
      ·rw [zCB f _ x b U]
       have:=hP.2
       omega
theorem zQo (f:Nat) (t:Tm) (x:ByteArray) (b:Tm) (hd:t.dp<=f):(t.sub f x b).bd<=t.bd+b.bd:=by
 by_cases I:x∈t.fv
 ·have:=zK2 f t x b hd I
  have:=t.ov_bd x
  omega
 ·rw [zCB f t x b I];omega
theorem zRk (f:Nat) (t:Tm) (x y:ByteArray) (hd:t.dp<=f):(t.sub f x (vF y)).bd<=t.bd:=zQo f t x (vF y) hd
theorem zQ0 (k:Int) (nm ot:ByteArray) (n:Nat):(bdN k nm ot n).length<=bn k/\bn k<=2:=by
 refine ⟨?_,zPP k⟩
 unfold bdN
 split
 ·rename_i h;rw [h.1];exact (by decide:1<=bn 6)
 ·split
  ·rename_i h;rw [h.1];exact (by decide:1<=bn 8)
  ·split
   ·rename_i h;rw [h.1];exact (by decide:2<=bn 9)
   ·exact Nat.zero_le _
/-- free names and binders of a part -/
theorem zJQ {k:Int} (O:k≠1) {nm ot:ByteArray} {n:Int} {ty re:Ty} {l:List Tm} {x:Tm} (I:x∈l):x.fv.length<=(Tm.mk k nm ot n ty re l).fv.length+bn k/\x.fv.length+x.bd<=(Tm.mk k nm ot n ty re l).fv.length+(Tm.mk k nm ot n ty re l).bd:=by
 obtain ⟨j,U⟩:=oP.1 I
 have Y:=zBs x.fv_nodup (m:=(Tm.mk k nm ot n ty re l).fv++bdN k nm ot l.length) λs hs=>by
  by_cases J:s∈bdN k nm ot l.length
  ·exact nF _ J
  ·refine oh _ (zDs O U ?_)
   by_cases h:(j:Int)=zQ k l.length
   ·rw [pF h];exact yT.2 ⟨hs,J⟩
   ·rw [vM h];exact hs
 have h2:=(zQ0 k nm ot l.length).1
 have h3:=yL I
 rw [oH] at Y
 simp only [Tm.bd]
 omega
/-- a term in which a term is put for a name is a term, if few names are free -/
theorem zOd:∀ (f:Nat) (e:Tm) (x:ByteArray) (b:Tm),e.dp<=f->e.ok=true->b.ok=true->b.fv.length+(e.fv.length+e.bd)<=995->(e.sub f x b).ok=true
 | 0,e,x,b,h,_,_,_=>absurd (Tm.dp_pos e) (by omega)
 | f + 1, .mk k nm ot n ty re l,x,b,hd,he,hb,hs=>by
   have ih:=zOd f
   obtain ⟨h1,h2,h3⟩:=Tm.ok_mk.1 he
   have al:=hd
   simp only [Tm.dp] at al
   have ae:∀ z∈l,z.dp<=f:=λz O=>oO (ww.1 (oD _) z O) (by omega)
   have aw:(Tm.mk k nm ot n ty re l).bd=bn k+wS l:=by simp only [Tm.bd]
   simp only [Tm.sub]
   split
   ·split
    ·exact hb
    ·exact he
   ·rename_i hk
    have part:∀ z∈l,(z.sub f x b).ok=true:=λz O=>ih z x b (ae z O) (h1 z O) hb (by
     have:=(zJQ hk (nm:=nm) (ot:=ot) (n:=n) (ty:=ty) (re:=re) O).2
     omega)
    split
    ·refine Tm.ok_mk.2 ⟨λy hy=>?_,h2,by simpa using h3⟩
     obtain ⟨z,O,rfl⟩:=oQ.1 hy
     exact part z O
    ·rename_i ab
     obtain ⟨g1,g2⟩:=wE ab
     have J:=oB (zX g1)
     generalize hp:l.getD (zQ k l.length).toNat tm0=p at J ⊢
     have parts:∀ v:Tm,v.ok=true->∀ y∈(l.map λt=>Tm.sub f t x b).set (zQ k l.length).toNat v,y.ok=true:=λv hv y hy=>by
      rcases oi hy with hy | rfl
      ·obtain ⟨z,O,rfl⟩:=oQ.1 hy
       exact part z O
      ·exact hv
     split
     ·exact Tm.ok_mk.2 ⟨parts _ (h1 p J),h2,by simpa using h3⟩
     ·have am:=ae p J
      obtain ⟨m1,m2⟩:=zJQ hk (nm:=nm) (ot:=ot) (n:=n) (ty:=ty) (re:=re) J
      have m3:=yL J
      obtain ⟨n1,n2⟩:=zIF ab h2
      -- one name
      have r1:∀ (old:ByteArray) (st:ByteArray × ByteArray × Tm),old∈bdN k st.1 st.2.1 l.length->st.2.2.ok=true->st.2.2.dp<=f->st.2.2.fv.length<=p.fv.length->st.2.2.bd<=p.bd->yg st.1=true->(k=9->yg st.2.1=true/\st.1≠st.2.1) ->
        ((rn1 (Tm.sub f) k l.length b.fv x old st).2.2.ok=true/\(rn1 (Tm.sub f) k l.length b.fv x old st).2.2.dp<=f/\(rn1 (Tm.sub f) k l.length b.fv x old st).2.2.fv.length<=p.fv.length/\(rn1 (Tm.sub f) k l.length b.fv x old st).2.2.bd<=p.bd)/\yg (rn1 (Tm.sub f) k l.length b.fv x old st).1=true/\(k=9->yg (rn1 (Tm.sub f) k l.length b.fv x old st).2.1=true/\(rn1 (Tm.sub f) k l.length b.fv x old st).1≠(rn1 (Tm.sub f) k l.length b.fv x old st).2.1)/\(k≠9->(rn1 (Tm.sub f) k l.length b.fv x old st).2.1=st.2.1):=λold st ho a1 a2 a3 a6 a4 a5=>by
       have ah:=ui (b.fv++(st.2.2.fv++([x]++bdN k st.1 st.2.1 l.length)))
       unfold rn1
       split
       ·rename_i hold
        have au:=List.length_pos_of_mem hold
        obtain ⟨q1,q2⟩:=zQ0 k st.1 st.2.1 l.length
        have U:=zI9 (l:=b.fv++(st.2.2.fv++([x]++bdN k st.1 st.2.1 l.length))) (by simp only [oH,oM,oS];omega)
        generalize fresh (b.fv++(st.2.2.fv++([x]++bdN k st.1 st.2.1 l.length)))=w at ah U ⊢
        have hw:w∉bdN k st.1 st.2.1 l.length:=λh=>ah (by simp [h])
        have new:(st.2.2.sub f old (vF w)).ok=true/\(st.2.2.sub f old (vF w)).dp<=f/\(st.2.2.sub f old (vF w)).fv.length<=p.fv.length/\(st.2.2.sub f old (vF w)).bd<=p.bd:=
         ⟨ih _ _ _ a2 a1 (zRO U) (by rw [zBw,nX];omega),oO (wH f _ _ _).d a2,oO (zNR a2) a3,oO (zRk f _ _ _ a2) a6⟩
        have ai:k=9->l.length=1:=λY=>by subst Y;rcases uK 9 l.length with h | ⟨_,h,_⟩ | ⟨_,_,h⟩<;>first | exact h | omega
        split
        ·rename_i hq
         refine ⟨new,U,λY=>⟨(a5 Y).1,λI=>hw ?_⟩,λ_=>rfl⟩
         have ac:=ai Y
         subst Y
         have I:w=st.2.1:=I
         rw [ac,I];simp [bdN]
        ·rename_i hq
         have Y:k=9:=by
          unfold bdN at ho
          (repeat' split at ho)<;>simp_all
         have ac:=ai Y
         subst Y
         refine ⟨new,a4,λ_=>⟨U,λI=>hw ?_⟩,λh=>absurd rfl h⟩
         have I:st.1=w:=I
         rw [ac,<-I];simp [bdN]
       ·exact ⟨⟨a1,a2,a3,a6⟩,a4,a5,λ_=>rfl⟩
      have aj:bdN k nm ot l.length=[nm]\/(k=9/\l.length=1/\bdN k nm ot l.length=[nm,ot]):=by
       rcases uK k l.length with h | ⟨_,h,h | h⟩ | ⟨_,h,h'⟩
       ·omega
       ·left;subst h;rw [show l.length=1 from ‹_›];simp [bdN]
       ·right;subst h;rw [show l.length=1 from ‹_›];simp [bdN]
       ·left;subst h';rw [h];simp [bdN]
      have fin:=r1 nm (nm,ot,p) (by rcases aj with e | ⟨_,_,e⟩<;>(rw [e];simp)) (h1 p J) am (oD _) (oD _) n1 n2
      have aa:(rns (Tm.sub f) k l.length b.fv x (bdN k nm ot l.length) (nm,ot,p)).2.2.ok=true/\(rns (Tm.sub f) k l.length b.fv x (bdN k nm ot l.length) (nm,ot,p)).2.2.dp<=f/\(rns (Tm.sub f) k l.length b.fv x (bdN k nm ot l.length) (nm,ot,p)).2.2.fv.length<=p.fv.length/\(rns (Tm.sub f) k l.length b.fv x (bdN k nm ot l.length) (nm,ot,p)).2.2.bd<=p.bd ->
        yg (rns (Tm.sub f) k l.length b.fv x (bdN k nm ot l.length) (nm,ot,p)).1=true/\(k=9->yg (rns (Tm.sub f) k l.length b.fv x (bdN k nm ot l.length) (nm,ot,p)).2.1=true/\(rns (Tm.sub f) k l.length b.fv x (bdN k nm ot l.length) (nm,ot,p)).1≠(rns (Tm.sub f) k l.length b.fv x (bdN k nm ot l.length) (nm,ot,p)).2.1)/\(k≠9->(rns (Tm.sub f) k l.length b.fv x (bdN k nm ot l.length) (nm,ot,p)).2.1=ot) ->
        (Tm.mk k (rns (Tm.sub f) k l.length b.fv x (bdN k nm ot l.length) (nm,ot,p)).1 (rns (Tm.sub f) k l.length b.fv x (bdN k nm ot l.length) (nm,ot,p)).2.1 n ty re ((l.map λt=>Tm.sub f t x b).set (zQ k l.length).toNat (Tm.sub f (rns (Tm.sub f) k l.length b.fv x (bdN k nm ot l.length) (nm,ot,p)).2.2 x b))).ok=true:=λ⟨c1,c2,c3,c4⟩ ⟨c5,c6,c7⟩=>by
       obtain ⟨u1,u2⟩:=zNg ab h2 c5 c6 c7
       exact Tm.ok_mk.2 ⟨parts _ (ih _ x b c2 c1 hb (by omega)),u1,by rw [u2];simpa using h3⟩
      rcases aj with e | ⟨ak,ao,e⟩
      ·refine aa ?_ ?_
       ·rw [e];simp only [rns];exact fin.1
       ·rw [e];simp only [rns];exact fin.2
      ·obtain ⟨⟨b1,b2,b3,b4⟩,b5,b6,b7⟩:=fin
       have aq:ot∈bdN k (rn1 (Tm.sub f) k l.length b.fv x nm (nm,ot,p)).1 (rn1 (Tm.sub f) k l.length b.fv x nm (nm,ot,p)).2.1 l.length:=by
        have:(rn1 (Tm.sub f) k l.length b.fv x nm (nm,ot,p)).2.1=ot:=by
         unfold rn1
         simp only [ma]
         split<;>rfl
        rw [this,ak,ao];simp [bdN]
       obtain ⟨d1,d2,d3,d4⟩:=r1 ot _ aq b1 b2 b3 b4 b5 b6
       refine aa ?_ ?_
       ·rw [e];simp only [rns];exact d1
       ·rw [e];simp only [rns];exact ⟨d2,d3,λh=>absurd ak h⟩
end Go.Proofs.YtfajiphkncipoaaGreatDoor
