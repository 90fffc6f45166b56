/- Binders, one within the other; a weight that counts them (no program in sight). -/
import Derived.Test.YtligajflgjpdnaaGreatDoorA1
import Derived.Test.YtligajflgjpdnaaGreatDoorB2
import Derived.Test.YtligajflgjpdnaaGreatDoorA5
import Derived.Test.YtligajflgjpdnaaGreatDoorKa
import Derived.Test.YtligajflgjpdnaaGreatDoorKf
import Derived.Test.YtligajflgjpdnaaGreatDoorKd
set_option linter.unusedVariables false
set_option linter.unusedSimpArgs false
namespace Go.Proofs.YtligajflgjpdnaaGreatDoor
open Go Go.Proofs Go.Proofs.Tryz Go.IntWalk
def bn (k:Int):Nat:=if k=6 then 1 else if k=8 then 1 else if k=9 then 2 else 0
theorem VX (k:Int):bn k<=2:=by
 unfold bn;split
 ·decide
 ·split
  ·decide
  ·split<;>decide
mutual
def Tm.bd:Tm->Nat
 | .mk k _ _ _ _ _ l=>bn k+tq l
def tq:List Tm->Nat
 | []=>0
 | t::I=>max t.bd (tq I)
end
mutual
def Tm.wt:Tm->Nat
 | .mk k _ _ _ ty re l=>1+ty.cnt+re.cnt+2 ^ bn k*ue l
def ue:List Tm->Nat
 | []=>0
 | t::I=>t.wt+ue I
end
theorem pZ:∀ {l:List Tm}{n:Nat},tq l<=n↔∀ x∈l,x.bd<=n
 | [],n=>by simp[tq]
 | t::I,n=>by simp only[tq,Nat.max_le,pZ (l:=I),oF,nT]
theorem xU {l:List Tm}{t:Tm}(h:t∈l):t.bd<=tq l:=pZ.1 (oC _) t h
theorem W0 (k:Int)(n:Nat):n<=2 ^ bn k*n:=Nat.le_mul_of_pos_left _ (Nat.two_pow_pos _)
theorem OO {f:Tm->Nat}:∀ {l:List Tm},(∀ x∈l,f x<=x.wt)->(l.map f).sum<=ue l
 | [],_=>by simp[ue]
 | t::I,h=>by have O:=h t (by simp);have U:=OO (l:=I) λx J=>h x (by simp[J]);simp only[oh,List.sum_cons,ue];omega
theorem IU:∀ l:List Tm,zj l=(l.map Tm.cnt).sum
 | []=>rfl
 | t::I=>by simp only[zj,oh,List.sum_cons,IU I]
theorem Tm.cnt_wt:∀ t:Tm,t.cnt<=t.wt:=by
 refine Tm.ind λk nm ot n ty re l I=>?_;have h:=OO I
 have:=W0 k (ue l)
 simp only[Tm.cnt,Tm.wt,IU];omega
theorem Tm.two_bd:∀ t:Tm,2 ^ t.bd<=2*t.wt:=by
 refine Tm.ind λk nm ot n ty re l U=>?_;have key:∀ l:List Tm,(∀ t∈l,2 ^ t.bd<=2*t.wt)->2 ^ tq l<=1+2*ue l/\(l≠[]->2 ^ tq l<=2*ue l):=by
  intro l
  induction l with
  | nil=>intro _;simp[tq,ue]
  | cons x l I=>
    intro h;have J:=h x (by simp);have h2:=(I λy Y=>h y (by simp[Y])).1;have h3:2 ^ max x.bd (tq l)<=2*(x.wt+ue l):=by
     rcases Nat.le_total x.bd (tq l)with hc | hc
     ·rw[Nat.max_eq_right hc];have:1<=2*x.wt:=oL (Nat.two_pow_pos _) J;omega
     ·rw[Nat.max_eq_left hc];omega
    simp only[tq,ue];exact⟨by omega,λ_=>h3⟩
 obtain⟨k1,k2⟩:=key l U;simp only[Tm.bd,Tm.wt,Nat.pow_add];have hc:∀ t:Ty,1<=t.cnt:=λt=>by cases t;simp only[Ty.cnt];omega
 have:=hc ty
 have:=hc re
 by_cases O:l=[]
 ·subst O;have:2 ^ bn k<=2 ^ 2:=mj (by omega) (VX k);simp only[tq,ue,Nat.pow_zero];omega
 ·have J:=mm (2 ^ bn k) (k2 O);rw[Nat.mul_left_comm]at J;omega
theorem Tm.bd_of {t:Tm}{m:Nat}(h:t.wt<=m)(J:m<1048576):t.bd<=20:=by
 have O:=t.two_bd;have I:2 ^ t.bd<2 ^ 21:=by rw[show(2:Nat) ^ 21=2097152 from rfl];omega
 have:=(Nat.pow_lt_pow_iff_right (a:=2) (by omega)).1 I
 omega
mutual
def Tm.ov (y:ByteArray):Tm->Nat
 | .mk k nm ot _ _ _ l=>bn k+NG y (zN k l.length) (bdN k nm ot l.length) l 0
def NG (y:ByteArray) (at_:Int) (ns:List ByteArray):List Tm->Nat->Nat
 | [],_=>0
 | t::I,i=>max (if y∈fvI at_ ns i t then t.ov y else 0) (NG y at_ ns I (i+1))
end
theorem Ej {y:ByteArray}{at_:Int}{ns:List ByteArray}:∀ {l:List Tm}{i n:Nat},NG y at_ ns l i<=n↔∀(j:Nat)(x:Tm),l[j]?=some x->y∈fvI at_ ns (i+j) x->x.ov y<=n
 | [],i,n=>by simp[NG]
 | t::U,i,n=>by
   simp only[NG,Nat.max_le,Ej (l:=U)];constructor
   ·rintro⟨O,Y⟩ j x J I
    cases j with
    | zero=>simp at J;subst J;rw[mV]at I;rw[if_pos I]at O;exact O
    | succ j=>exact Y j x (by simpa using J) (by rw[show i+1+j=i+(j+1) by omega];exact I)
   ·intro h;refine⟨?_,λj x J I=>h (j+1) x (by simpa using J) (by rw[show i+(j+1)=i+1+j by omega];exact I)⟩;split
    ·rename_i I;exact h 0 t rfl I
    ·omega
theorem Tl {k:Int}{nm ot:ByteArray}{n:Int}{ty re:Ty}{l:List Tm}{y:ByteArray}{j:Nat}{x:Tm}(I:l[j]?=some x)(J:y∈fvI (zN k l.length) (bdN k nm ot l.length) j x):bn k+x.ov y<=(Tm.mk k nm ot n ty re l).ov y:=by
 have:=Ej.1 (oC (NG y (zN k l.length) (bdN k nm ot l.length) l 0)) j x I (by rw[ow];exact J)
 simp only[Tm.ov];omega
theorem Tm.ov_bd (y:ByteArray):∀ t:Tm,t.ov y<=t.bd:=by
 refine Tm.ind λk nm ot n ty re l J=>?_;have:NG y (zN k l.length) (bdN k nm ot l.length) l 0<=tq l:=Ej.2 λj x O _=>by have I:=oB O;exact oL (J x I) (xU I)
 simp only[Tm.ov,Tm.bd];omega
theorem Xt {k:Int}{nm ot:ByteArray}{n:Int}{ty re:Ty}{l:List Tm}{y:ByteArray}{m:Nat}:(Tm.mk k nm ot n ty re l).ov y<=bn k+m↔∀(j:Nat)(x:Tm),l[j]?=some x->y∈fvI (zN k l.length) (bdN k nm ot l.length) j x->x.ov y<=m:=by simp only[Tm.ov];rw[Nat.add_le_add_iff_left,Ej];simp only[ow]
def OvP (f:Nat):Prop:=∀(t:Tm) (x:ByteArray) (b:Tm) (y:ByteArray),t.dp<=f->y∉b.fv->y≠x->y∈(t.sub f x b).fv->(t.sub f x b).ov y<=t.ov y
theorem MX {f:Nat}{t:Tm}{x:ByteArray}{b:Tm}{y:ByteArray}(hd:t.dp<=f)(I:y∉b.fv)(h:y∈(t.sub f x b).fv):y∈t.fv/\y≠x:=by
 rcases Hr f t x b hd y h with h | ⟨h,_⟩
 ·exact h
 ·exact absurd h I
theorem NK {f:Nat}(U:OvP f){u:Tm}{old fr y:ByteArray}(hd:u.dp<=f)(I:y≠fr)(h:y∈(u.sub f old (xk fr)).fv):y≠old/\y∈u.fv/\(u.sub f old (xk fr)).ov y<=u.ov y:=by
 have J:y∉(xk fr).fv:=by rw[A9];simpa using I
 obtain⟨Y,O⟩:=MX hd J h;exact⟨O,Y,U u old (xk fr) y hd J O h⟩
theorem XW {f:Nat} (U:OvP f) {k:Int} {n:Nat} {nm ot:ByteArray} {fb:List ByteArray} {x y:ByteArray} {u:Tm} (hd:u.dp<=f) (hb:¬zN k n<0)
  (h:y∈(rns (Tm.sub f) k n fb x (bdN k nm ot n) (nm,ot,u)).2.2.fv) (I:y∉bdN k (rns (Tm.sub f) k n fb x (bdN k nm ot n) (nm,ot,u)).1 (rns (Tm.sub f) k n fb x (bdN k nm ot n) (nm,ot,u)).2.1 n) :
  y∉bdN k nm ot n/\y∈u.fv/\(rns (Tm.sub f) k n fb x (bdN k nm ot n) (nm,ot,u)).2.2.ov y<=u.ov y:=by
 have one:(∀ a b:ByteArray,bdN k a b n=[a])\/(∀ a b:ByteArray,bdN k a b n=[a,b]):=by
  unfold zN at hb;unfold bdN;by_cases h6:k=6/\n=1
  ·exact .inl λa b=>if_pos h6
  ·rw[if_neg h6]at hb;by_cases h8:k=8/\n=2
   ·exact .inl λa b=>by rw[if_neg h6,if_pos h8]
   ·rw[if_neg h8]at hb;by_cases h9:k=9/\n=1
    ·exact .inr λa b=>by rw[if_neg h6,if_neg h8,if_pos h9]
    ·rw[if_neg h9]at hb;omega
 have aa:∀ a b:ByteArray,(u.sub f a (xk b)).dp<=f:=λa b=>oL (yJ f u a b).d hd;rcases one with one | two
 ·simp only[one,rns,rn1]at h I ⊢;by_cases J:nm∈fb
  ·simp only[J,↓reduceIte]at h I ⊢
   have:=NK U hd (by simpa using I) h
   exact⟨by simpa using this.1,this.2⟩
  ·simp only[J,↓reduceIte]at h I ⊢;exact⟨I,h,oC _⟩
 ·simp only[two,rns,rn1]at h I ⊢;have Y:∀(u2:Tm),¬fresh (fb++(u2.fv++([x]++[nm,ot])))=ot:=λu2 hc=>yb (fb++(u2.fv++([x]++[nm,ot]))) (by rw[hc];simp);by_cases J:nm∈fb
  ·simp only[J,Y,↓reduceIte]at h I ⊢;by_cases O:ot∈fb
   ·simp only[O,↓reduceIte]at h I ⊢;simp only[oF,oZ,nh,not_or]at I ⊢;obtain⟨a1,a2,a3⟩:=NK U (aa _ _) I.2 h;obtain⟨b1,b2,b3⟩:=NK U hd I.1 a2;exact⟨⟨b1,a1⟩,b2,oL a3 b3⟩
   ·simp only[O,↓reduceIte]at h I ⊢;simp only[oF,oZ,nh,not_or]at I ⊢;obtain⟨b1,b2,b3⟩:=NK U hd I.1 h;exact⟨⟨b1,I.2⟩,b2,b3⟩
  ·simp only[J,↓reduceIte]at h I ⊢;by_cases O:ot∈fb
   ·have ab:¬nm=ot:=λhc=>J (hc ▸ O);simp only[O,ab,↓reduceIte]at h I ⊢;simp only[oF,oZ,nh,not_or]at I ⊢;obtain⟨b1,b2,b3⟩:=NK U hd I.2 h;exact⟨⟨I.1,b1⟩,b2,b3⟩
   ·simp only[O,↓reduceIte]at h I ⊢;exact⟨I,h,oC _⟩
theorem VF:∀ f,OvP f
 | 0,t,x,b,y,hd,_,_,_=>absurd (Tm.dp_pos t) (by omega)
 | f + 1, .mk k nm ot n ty re l,x,b,y,hd,hb,ae,h=>by
   have ih:=VF f;have aj:=hd;simp only[Tm.dp]at aj;have ah:∀ z∈l,z.dp<=f:=λz hz=>oL (wC.1 (oC _) z hz) (by omega);have ab:∀(j:Nat) (z w:Tm) (c:List ByteArray),l[j]?=some w->z=w.sub f x b->(j:Int)≠zN k l.length->y∈fvI (zN k l.length) c j z->bn k+z.ov y<=(Tm.mk k nm ot n ty re l).ov y:=λj z w c I hz al J=>by subst hz;rw[vz (by omega)]at J;have O:=ah w (oB I);have h2:=ih w x b y O hb ae J;have h3:=Tl (k:=k) (nm:=nm) (ot:=ot) (n:=n) (ty:=ty) (re:=re) I (y:=y) (by rw[vz (by omega)];exact(MX O hb J).1);omega
   revert h;simp only[Tm.sub];split
   ·split
    ·exact λh=>absurd h hb
    ·exact λ_=>oC _
   ·split
    ·rename_i ac;intro _;have h0:bn k<=(Tm.mk k nm ot n ty re l).ov y:=by simp only[Tm.ov];omega
     have:=(Xt (k:=k) (nm:=nm) (ot:=ot) (n:=n) (ty:=ty) (re:=re) (l:=l.map λt=>Tm.sub f t x b) (y:=y) (m:=(Tm.mk k nm ot n ty re l).ov y - bn k)).2 λj z I J=>by
      rw[oE]at I;rw[oW]at J;cases O:l[j]? with
      | none=>rw[O]at I;cases I
      | some w=>
        rw[O]at I;cases I
        have:=ab j _ w _ O rfl (by omega) J
        show(w.sub f x b).ov y<=_;omega
     omega
    ·rename_i ac;obtain⟨g1,g2⟩:=yM ac;have hp:=zH g1;have ai:=ah _ (oB hp);have h0:bn k<=(Tm.mk k nm ot n ty re l).ov y:=by simp only[Tm.ov];omega
     have fin:∀(U Y:ByteArray) (v:Tm),(y∈v.fv->y∉bdN k U Y l.length->y∉bdN k nm ot l.length/\y∈(l.getD (zN k l.length).toNat tm0).fv/\v.ov y<=(l.getD (zN k l.length).toNat tm0).ov y)->(Tm.mk k U Y n ty re ((l.map λt=>Tm.sub f t x b).set (zN k l.length).toNat v)).ov y<=(Tm.mk k nm ot n ty re l).ov y:=λU Y v hv=>by
      have:=(Xt (k:=k) (nm:=U) (ot:=Y) (n:=n) (ty:=ty) (re:=re) (l:=(l.map λt=>Tm.sub f t x b).set (zN k l.length).toNat v) (y:=y) (m:=(Tm.mk k nm ot n ty re l).ov y - bn k)).2 λj z I J=>by
       rw[nU,oW]at J;by_cases ak:j=(zN k l.length).toNat
       ·subst ak;rw[oi (by simpa using g1)]at I;cases I;rw[Bv g2,yD]at J;obtain⟨c1,c2,c3⟩:=hv J.1 J.2
        have:=Tl (k:=k) (nm:=nm) (ot:=ot) (n:=n) (ty:=ty) (re:=re) hp (y:=y) (by rw[Bv g2];exact yD.2 ⟨c2,c1⟩)
        omega
       ·rw[om (by omega),oE]at I;cases O:l[j]? with
        | none=>rw[O]at I;cases I
        | some w=>
          rw[O]at I;cases I
          have:=ab j _ w _ O rfl (by omega) J
          show(w.sub f x b).ov y<=_;omega
      omega
     split
     ·exact λ_=>fin _ _ _ λh1 h2=>⟨h2,h1,oC _⟩
     ·intro _;refine fin _ _ _ λh1 h2=>?_;have aa:=(ut (yJ f) k l.length b.fv x (bdN k nm ot l.length) (nm,ot,l.getD (zN k l.length).toNat tm0)).d;have aa:(rns (Tm.sub f) k l.length b.fv x (bdN k nm ot l.length) (nm,ot,l.getD (zN k l.length).toNat tm0)).2.2.dp<=f:=oL aa ai;have h3:=ih _ x b y aa hb ae h1;obtain⟨c1,c2,c3⟩:=XW ih ai ac (MX aa hb h1).1 h2;exact⟨c1,c2,oL h3 c3⟩
theorem Vq {f:Nat} {k:Int} {n:Nat} {nm ot:ByteArray} {fb:List ByteArray} {x:ByteArray} {u:Tm} (hd:u.dp<=f) (hx:x∉bdN k nm ot n)
  (h:x∈(rns (Tm.sub f) k n fb x (bdN k nm ot n) (nm,ot,u)).2.2.fv):(rns (Tm.sub f) k n fb x (bdN k nm ot n) (nm,ot,u)).2.2.ov x<=u.ov x:=by
 have U:=VF f;have one:∀(old:ByteArray) (s:ByteArray × ByteArray × Tm),s.2.2.dp<=f->x∈(rn1 (Tm.sub f) k n fb x old s).2.2.fv->x∈s.2.2.fv/\(rn1 (Tm.sub f) k n fb x old s).2.2.ov x<=s.2.2.ov x:=λold s hs=>by
  have I:x≠fresh (fb++(s.2.2.fv++([x]++bdN k s.1 s.2.1 n))):=λhc=>yb (fb++(s.2.2.fv++([x]++bdN k s.1 s.2.1 n))) (by rw[<-hc];simp);unfold rn1;split
  ·split
   ·exact λh=>(NK U hs I h).2
   ·exact λh=>(NK U hs I h).2
  ·exact λh=>⟨h,oC _⟩
 have all:∀(ns:List ByteArray) (s:ByteArray × ByteArray × Tm),s.2.2.dp<=f->x∈(rns (Tm.sub f) k n fb x ns s).2.2.fv->x∈s.2.2.fv/\(rns (Tm.sub f) k n fb x ns s).2.2.ov x<=s.2.2.ov x:=by
  intro ns
  induction ns with
  | nil=>exact λs _ h=>⟨h,oC _⟩
  | cons old ns J=>intro s hs h;have O:=(qm (S:=Tm.sub f) (yJ f) k n fb x old s).d;obtain⟨a1,a2⟩:=J (rn1 (Tm.sub f) k n fb x old s) (oL O hs) h;obtain⟨Y,b2⟩:=one old s hs a1;exact⟨Y,oL a2 b2⟩
 exact(all _ _ hd h).2
theorem Sa:∀(f:Nat) (t:Tm) (x:ByteArray) (b:Tm),t.dp<=f->x∈t.fv->(t.sub f x b).bd<=max t.bd (t.ov x+b.bd)
 | 0,t,x,b,hd,_=>absurd (Tm.dp_pos t) (by omega)
 | f + 1, .mk k nm ot n ty re l,x,b,hd,hx=>by
   have ih:=Sa f;have ai:=hd;simp only[Tm.dp]at ai;have Y:∀ z∈l,z.dp<=f:=λz hz=>oL (wC.1 (oC _) z hz) (by omega);have al:(Tm.mk k nm ot n ty re l).bd=bn k+tq l:=by simp only[Tm.bd]
   have J:∀(j:Nat) (w:Tm),l[j]?=some w->(x∈w.fv->x∈fvI (zN k l.length) (bdN k nm ot l.length) j w)->bn k+(w.sub f x b).bd<=max (Tm.mk k nm ot n ty re l).bd ((Tm.mk k nm ot n ty re l).ov x+b.bd):=λj w I hy=>by
    have hm:=oB I
    have:=xU hm
    by_cases O:x∈w.fv
    ·have h2:=ih w x b (Y w hm) O;have h3:=Tl (k:=k) (nm:=nm) (ot:=ot) (n:=n) (ty:=ty) (re:=re) I (hy O);omega
    ·rw[Ez f w x b O];omega
   have vr:∀(t:Tm) (o y:ByteArray),t.dp<=f->(t.sub f o (xk y)).bd<=t.bd:=λt o y ht=>by
    by_cases ho:o∈t.fv
    ·have h1:=ih t o (xk y) ht ho;have h2:=t.ov_bd o;have h3:(xk y).bd=0:=rfl;omega
    ·rw[Ez f t o _ ho];exact oC _
   simp only[Tm.sub];split
   ·split
    ·omega
    ·omega
   ·split
    ·rename_i aa;have:tq (l.map λt=>Tm.sub f t x b)<=max (Tm.mk k nm ot n ty re l).bd ((Tm.mk k nm ot n ty re l).ov x+b.bd) - bn k:=pZ.2 λz hz=>by
      obtain⟨w,hw,rfl⟩:=oP.1 hz;obtain⟨j,I⟩:=oQ.1 hw
      have:=J j w I λh=>by rw[vz (by omega)];exact h
      show(w.sub f x b).bd<=_;omega
     simp only[Tm.bd]at this ⊢;omega
    ·rename_i aa;obtain⟨g1,g2⟩:=yM aa;have hp:=zH g1;have ab:=oB hp;have ac:=Y _ ab;have am:=xU ab
     have fin:∀(ae ah:ByteArray) (v:Tm),bn k+v.bd<=max (Tm.mk k nm ot n ty re l).bd ((Tm.mk k nm ot n ty re l).ov x+b.bd)->(Tm.mk k ae ah n ty re ((l.map λt=>Tm.sub f t x b).set (zN k l.length).toNat v)).bd<=max (Tm.mk k nm ot n ty re l).bd ((Tm.mk k nm ot n ty re l).ov x+b.bd):=λae ah v hv=>by
      have:tq ((l.map λt=>Tm.sub f t x b).set (zN k l.length).toNat v)<=max (Tm.mk k nm ot n ty re l).bd ((Tm.mk k nm ot n ty re l).ov x+b.bd) - bn k:=pZ.2 λz hz=>by
       obtain⟨j,I⟩:=oQ.1 hz;by_cases aj:j=(zN k l.length).toNat
       ·subst aj;rw[oi (by simpa using g1)]at I;cases I;omega
       ·rw[om (by omega),oE]at I;cases hw:l[j]? with
        | none=>rw[hw]at I;cases I
        | some w=>
          rw[hw]at I;cases I
          have:=J j w hw λh=>by rw[vz (by omega)];exact h
          show(w.sub f x b).bd<=_;omega
      simp only[Tm.bd]at this ⊢;omega
     split
     ·exact fin _ _ _ (by omega)
     ·rename_i hc;simp only[not_or,Classical.not_not]at hc;refine fin _ _ _ ?_;have ak:=(ut (yJ f) k l.length b.fv x (bdN k nm ot l.length) (nm,ot,l.getD (zN k l.length).toNat tm0)).d;have hP:=SA (P:=λt:Tm=>t.dp<=f/\t.bd<=(l.getD (zN k l.length).toNat tm0).bd) (f:=f) (λt x y ht=>⟨oL (yJ f t x y).d ht.1,oL (vr t x y ht.1) ht.2⟩) k l.length b.fv x (bdN k nm ot l.length) (nm,ot,l.getD (zN k l.length).toNat tm0) ⟨ac,oC _⟩;generalize hr:rns (Tm.sub f) k l.length b.fv x (bdN k nm ot l.length) (nm,ot,l.getD (zN k l.length).toNat tm0)=r at hP ak ⊢;by_cases U:x∈r.2.2.fv
      ·have h1:=ih r.2.2 x b hP.1 U;have h2:=Vq (k:=k) (n:=l.length) (nm:=nm) (ot:=ot) (fb:=b.fv) (x:=x) ac hc.1 (by rw[hr];exact U);rw[hr]at h2;have h3:=Tl (k:=k) (nm:=nm) (ot:=ot) (n:=n) (ty:=ty) (re:=re) hp (y:=x) (by rw[Bv g2];exact yD.2 ⟨hc.2,hc.1⟩)
       have:=hP.2
       omega
      ·rw[Ez f _ x b U]
       have:=hP.2
       omega
theorem Ub (f:Nat)(t:Tm)(x:ByteArray)(b:Tm)(hd:t.dp<=f):(t.sub f x b).bd<=t.bd+b.bd:=by
 by_cases I:x∈t.fv
 ·have:=Sa f t x b hd I
  have:=t.ov_bd x
  omega
 ·rw[Ez f t x b I];omega
theorem Vu (f:Nat)(t:Tm)(x y:ByteArray)(hd:t.dp<=f):(t.sub f x (xk y)).bd<=t.bd:=Ub f t x (xk y) hd
theorem Uw (k:Int)(nm ot:ByteArray)(n:Nat):(bdN k nm ot n).length<=bn k/\bn k<=2:=by
 refine⟨?_,VX k⟩;unfold bdN;split
 ·rename_i h;rw[h.1];exact(by decide:1<=bn 6)
 ·split
  ·rename_i h;rw[h.1];exact(by decide:1<=bn 8)
  ·split
   ·rename_i h;rw[h.1];exact(by decide:2<=bn 9)
   ·exact Nat.zero_le _
theorem Ah {k:Int}(O:k≠1){nm ot:ByteArray}{n:Int}{ty re:Ty}{l:List Tm}{x:Tm}(I:x∈l):x.fv.length<=(Tm.mk k nm ot n ty re l).fv.length+bn k/\x.fv.length+x.bd<=(Tm.mk k nm ot n ty re l).fv.length+(Tm.mk k nm ot n ty re l).bd:=by
 obtain⟨j,U⟩:=oQ.1 I;have Y:=DL x.fv_nodup (m:=(Tm.mk k nm ot n ty re l).fv++bdN k nm ot l.length) λs hs=>by
  by_cases J:s∈bdN k nm ot l.length
  ·exact nP _ J
  ·refine oq _ (HA O U ?_);by_cases h:(j:Int)=zN k l.length
   ·rw[Bv h];exact yD.2 ⟨hs,J⟩
   ·rw[vz h];exact hs
 have h2:=(Uw k nm ot l.length).1;have h3:=xU I;rw[oJ]at Y;simp only[Tm.bd];omega
theorem Rw:∀(f:Nat) (e:Tm) (x:ByteArray) (b:Tm),e.dp<=f->e.ok=true->b.ok=true->b.fv.length+(e.fv.length+e.bd)<=995->(e.sub f x b).ok=true
 | 0,e,x,b,h,_,_,_=>absurd (Tm.dp_pos e) (by omega)
 | f + 1, .mk k nm ot n ty re l,x,b,hd,he,hb,hs=>by
   have ih:=Rw f;obtain⟨h1,h2,h3⟩:=Tm.ok_mk.1 he;have al:=hd;simp only[Tm.dp]at al;have ae:∀ z∈l,z.dp<=f:=λz O=>oL (wC.1 (oC _) z O) (by omega);have aw:(Tm.mk k nm ot n ty re l).bd=bn k+tq l:=by simp only[Tm.bd]
   simp only[Tm.sub];split
   ·split
    ·exact hb
    ·exact he
   ·rename_i hk;have part:∀ z∈l,(z.sub f x b).ok=true:=λz O=>ih z x b (ae z O) (h1 z O) hb (by
     have:=(Ah hk (nm:=nm) (ot:=ot) (n:=n) (ty:=ty) (re:=re) O).2
     omega)
    split
    ·refine Tm.ok_mk.2 ⟨λy hy=>?_,h2,by simpa using h3⟩;obtain⟨z,O,rfl⟩:=oP.1 hy;exact part z O
    ·rename_i ab;obtain⟨g1,g2⟩:=yM ab;have J:=oB (zH g1);generalize hp:l.getD (zN k l.length).toNat tm0=p at J ⊢;have parts:∀ v:Tm,v.ok=true->∀ y∈(l.map λt=>Tm.sub f t x b).set (zN k l.length).toNat v,y.ok=true:=λv hv y hy=>by
      rcases oe hy with hy | rfl
      ·obtain⟨z,O,rfl⟩:=oP.1 hy;exact part z O
      ·exact hv
     split
     ·exact Tm.ok_mk.2 ⟨parts _ (h1 p J),h2,by simpa using h3⟩
     ·have am:=ae p J;obtain⟨m1,m2⟩:=Ah hk (nm:=nm) (ot:=ot) (n:=n) (ty:=ty) (re:=re) J;have m3:=xU J;obtain⟨n1,n2⟩:=Ep ab h2;have r1:∀(old:ByteArray) (st:ByteArray × ByteArray × Tm),old∈bdN k st.1 st.2.1 l.length->st.2.2.ok=true->st.2.2.dp<=f->st.2.2.fv.length<=p.fv.length->st.2.2.bd<=p.bd->yW st.1=true->(k=9->yW st.2.1=true/\st.1≠st.2.1) ->
        ((rn1 (Tm.sub f) k l.length b.fv x old st).2.2.ok=true/\(rn1 (Tm.sub f) k l.length b.fv x old st).2.2.dp<=f/\(rn1 (Tm.sub f) k l.length b.fv x old st).2.2.fv.length<=p.fv.length/\(rn1 (Tm.sub f) k l.length b.fv x old st).2.2.bd<=p.bd)/\yW (rn1 (Tm.sub f) k l.length b.fv x old st).1=true/\(k=9->yW (rn1 (Tm.sub f) k l.length b.fv x old st).2.1=true/\(rn1 (Tm.sub f) k l.length b.fv x old st).1≠(rn1 (Tm.sub f) k l.length b.fv x old st).2.1)/\(k≠9->(rn1 (Tm.sub f) k l.length b.fv x old st).2.1=st.2.1):=λold st ho a1 a2 a3 a6 a4 a5=>by
       have ah:=yb (b.fv++(st.2.2.fv++([x]++bdN k st.1 st.2.1 l.length)));unfold rn1;split
       ·rename_i hold;have au:=List.length_pos_of_mem hold;obtain⟨q1,q2⟩:=Uw k st.1 st.2.1 l.length;have U:=Dp (l:=b.fv++(st.2.2.fv++([x]++bdN k st.1 st.2.1 l.length))) (by simp only[oJ,oO,oU];omega);generalize fresh (b.fv++(st.2.2.fv++([x]++bdN k st.1 st.2.1 l.length)))=w at ah U ⊢;have hw:w∉bdN k st.1 st.2.1 l.length:=λh=>ah (by simp[h]);have new:(st.2.2.sub f old (xk w)).ok=true/\(st.2.2.sub f old (xk w)).dp<=f/\(st.2.2.sub f old (xk w)).fv.length<=p.fv.length/\(st.2.2.sub f old (xk w)).bd<=p.bd:=
         ⟨ih _ _ _ a2 a1 (ME U) (by rw[A9,nZ];omega),oL (yJ f _ _ _).d a2,oL (QL a2) a3,oL (Vu f _ _ _ a2) a6⟩
        have ai:k=9->l.length=1:=λY=>by subst Y;rcases xT 9 l.length with h | ⟨_,h,_⟩ | ⟨_,_,h⟩<;>first | exact h | omega
        split
        ·rename_i hq;refine⟨new,U,λY=>⟨(a5 Y).1,λI=>hw ?_⟩,λ_=>rfl⟩;have ac:=ai Y;subst Y;have I:w=st.2.1:=I;rw[ac,I];simp[bdN]
        ·rename_i hq;have Y:k=9:=by
          unfold bdN at ho
          (repeat' split at ho)<;>simp_all
         have ac:=ai Y;subst Y;refine⟨new,a4,λ_=>⟨U,λI=>hw ?_⟩,λh=>absurd rfl h⟩;have I:st.1=w:=I;rw[ac,<-I];simp[bdN]
       ·exact⟨⟨a1,a2,a3,a6⟩,a4,a5,λ_=>rfl⟩
      have aj:bdN k nm ot l.length=[nm]\/(k=9/\l.length=1/\bdN k nm ot l.length=[nm,ot]):=by
       rcases xT k l.length with h | ⟨_,h,h | h⟩ | ⟨_,h,h'⟩
       ·omega
       ·left;subst h;rw[show l.length=1 from ‹_›];simp[bdN]
       ·right;subst h;rw[show l.length=1 from ‹_›];simp[bdN]
       ·left;subst h';rw[h];simp[bdN]
      have fin:=r1 nm (nm,ot,p) (by rcases aj with e | ⟨_,_,e⟩<;>(rw[e];simp)) (h1 p J) am (oC _) (oC _) n1 n2;have aa:(rns (Tm.sub f) k l.length b.fv x (bdN k nm ot l.length) (nm,ot,p)).2.2.ok=true/\(rns (Tm.sub f) k l.length b.fv x (bdN k nm ot l.length) (nm,ot,p)).2.2.dp<=f/\(rns (Tm.sub f) k l.length b.fv x (bdN k nm ot l.length) (nm,ot,p)).2.2.fv.length<=p.fv.length/\(rns (Tm.sub f) k l.length b.fv x (bdN k nm ot l.length) (nm,ot,p)).2.2.bd<=p.bd ->
        yW (rns (Tm.sub f) k l.length b.fv x (bdN k nm ot l.length) (nm,ot,p)).1=true/\(k=9->yW (rns (Tm.sub f) k l.length b.fv x (bdN k nm ot l.length) (nm,ot,p)).2.1=true/\(rns (Tm.sub f) k l.length b.fv x (bdN k nm ot l.length) (nm,ot,p)).1≠(rns (Tm.sub f) k l.length b.fv x (bdN k nm ot l.length) (nm,ot,p)).2.1)/\(k≠9->(rns (Tm.sub f) k l.length b.fv x (bdN k nm ot l.length) (nm,ot,p)).2.1=ot) ->
        (Tm.mk k (rns (Tm.sub f) k l.length b.fv x (bdN k nm ot l.length) (nm,ot,p)).1 (rns (Tm.sub f) k l.length b.fv x (bdN k nm ot l.length) (nm,ot,p)).2.1 n ty re ((l.map λt=>Tm.sub f t x b).set (zN k l.length).toNat (Tm.sub f (rns (Tm.sub f) k l.length b.fv x (bdN k nm ot l.length) (nm,ot,p)).2.2 x b))).ok=true:=λ⟨c1,c2,c3,c4⟩ ⟨c5,c6,c7⟩=>by
       obtain⟨u1,u2⟩:=Ku ab h2 c5 c6 c7;exact Tm.ok_mk.2 ⟨parts _ (ih _ x b c2 c1 hb (by omega)),u1,by rw[u2];simpa using h3⟩
      rcases aj with e | ⟨ak,ao,e⟩
      ·refine aa ?_ ?_
       ·rw[e];simp only[rns];exact fin.1
       ·rw[e];simp only[rns];exact fin.2
      ·obtain⟨⟨b1,b2,b3,b4⟩,b5,b6,b7⟩:=fin;have aq:ot∈bdN k (rn1 (Tm.sub f) k l.length b.fv x nm (nm,ot,p)).1 (rn1 (Tm.sub f) k l.length b.fv x nm (nm,ot,p)).2.1 l.length:=by
        have:(rn1 (Tm.sub f) k l.length b.fv x nm (nm,ot,p)).2.1=ot:=by unfold rn1;simp only[mU];split<;>rfl
        rw[this,ak,ao];simp[bdN]
       obtain⟨d1,d2,d3,d4⟩:=r1 ot _ aq b1 b2 b3 b4 b5 b6;refine aa ?_ ?_
       ·rw[e];simp only[rns];exact d1
       ·rw[e];simp only[rns];exact⟨d2,d3,λh=>absurd ak h⟩
def MR (l:List Int):List D:=l.map λn=>.j n
theorem SV (l:List Int):(MR l).length=l.length:=by simp[MR]
theorem XH (k n:Int):(Tm.mk k (bytes []) (bytes []) n (.mk 0 []) (.mk 0 []) []).Is (.ag [.j k,.t (bytes []),.t (bytes []),.j n,.j 0,.sl none 2 [] 0,.j 0,.sl none 2 [] 0,.sl none 9 [] 0]):=
 Tm.is_mk.2 ⟨_,_,_,_,_,_,_,rfl,⟨by decide,by decide,tS _,tS _⟩,by simp,rfl⟩
end Go.Proofs.YtligajflgjpdnaaGreatDoor
set_option maxRecDepth 100000
namespace Go.Proofs.YtligajflgjpdnaaGreatDoor
open Go Go.Proofs Go.Proofs.Tryz Go.IntWalk
theorem NE {l:List D}{i:Nat}(h:i<l.length):l.getD i default∈l:=by rw[oA,oI h];exact mS h
structure Cu (es:List D) (i:Int):Prop where
 b:∀ d∈es,∃ n:Int,d=.lit (.int .u8 n)
 l:es.length<=1073741824
 lo:0<=i
 hi:i<=es.length
theorem NX (x:Int):0<=IntKind.i64.wrap ((BitVec.ofInt 64 x &&& BitVec.ofInt 64 255).toNat:Int)/\IntKind.i64.wrap ((BitVec.ofInt 64 x &&& BitVec.ofInt 64 255).toNat:Int)<=255:=by
 have h:(BitVec.ofInt 64 x &&& BitVec.ofInt 64 255).toNat<=255:=by rw[BitVec.toNat_and];exact oL Nat.and_le_right (by decide)
 rw[i64_in _ (by omega)];omega
theorem YH {es:List D} (O:∀ d∈es,∃ n:Int,d=.lit (.int .u8 n)) (U:es.length<=1073741824) (a:Option Addr) (c:Nat) (N:Nat) (Q:QT [.cu])
  (Y:∀ h N',N<=N'->Cu es 0->Q a es c 0 h N'):ACalls prog 19 [.cu] [.sv a 0 es c] N Q:=by
 refine KS N a es c Q λ_=>?_;have fin:∀ h N',N<=N'->Q a es c 0 h N':=λh N' I=>Y h N' I ⟨O,U,by omega,by omega⟩;have key:∀(n i:Nat) (h:Int) (N':Nat),i+n=es.length->N<=N'->uG Q N a es c h i N':=by
  intro n
  induction n with
  | zero=>intro i h N' hi I;refine Ag ?_;rw[mK (by omega)];exact λN1 J=>fin _ _ (by omega)
  | succ n ih=>
    intro i h N' hi I;refine Ag ?_;rw[mI (by omega)];rw[Y3];rcases Int.lt_or_le (i:Int) 4000 with h4 | h4
    rotate_left
    ·rw[mK (by omega)];exact λN1 J=>fin _ _ (by omega)
    rw[mI h4,Y3];refine And.intro ⟨by omega,by omega⟩ ?_;rw[oH];obtain⟨x,hx⟩:=O (es.getD i default) (NE (by omega));refine⟨x,hx,?_⟩;rw[i64_in ((i:Int)+1) (by omega)];exact ih (i+1) _ N' (by omega) I
 exact key es.length 0 _ N (by omega) (oC _)
theorem Ko {es:List D} {i:Int} (hc:Cu es i) (a:Option Addr) (c:Nat) (h:Int) (N:Nat) (Q:QT [.i,.sl 0,.i,.i])
  (U:∀ x Y J c' i' h' N',N<=N'->Cu J i'->0<=x->x<=255->Q x Y J c' i' h' N'):BCalls prog 68 [.i,.sl 0,.i,.i] [.pb 0 0 0 0] [.var [.sv a 0 es c,.j i,.j h]] N Q:=by
 have h1:=hc.lo;have h2:=hc.hi;have h3:=hc.l;refine EG N a es c i h Q λE _=>⟨by omega,by omega,Br.dec (λO=>⟨⟨h1,O⟩,?_⟩) λ_=>⟨wK,λN1 I=>U _ _ _ _ _ _ _ I hc (NX _).1 (NX _).2⟩⟩
 obtain⟨x,hx⟩:=hc.b (es.getD i.toNat default) (NE (by omega));refine⟨x,hx,wK,λN1 I=>U _ _ _ _ _ _ _ I ?_ (NX _).1 (NX _).2⟩;rw[i64_in (i+1) (by omega)];exact⟨hc.b,hc.l,by omega,by omega⟩
theorem xo {es:List D} {i:Int} (hc:Cu es i) (n:Int) (hn:n<=4294967296) (a:Option Addr) (c:Nat) (h:Int) (N:Nat) (Q:QT [.i,.sl 0,.i,.i])
  (hQ:∀ x O J U i' Y N',N<=N'->Cu J i'->0<=x->(0<n->x<n)->(n<=0->x=0)->Q x O J U i' Y N'):BCalls prog 37 [.i,.sl 0,.i,.i] [.pb 0 0 0 0,.j n] [.var [.sv a 0 es c,.j i,.j h]] N Q:=by
 have tm:∀ x:Int,0<=x->0<n->0<=Int.tmod x n/\Int.tmod x n<n:=λx hx h0=>⟨Int.tmod_nonneg _ hx,Int.tmod_lt_of_pos _ h0⟩
 refine Dc N n a es c i h Q λE _=>Br.dec (λh0=>⟨wK,λN1 aa=>hQ _ _ _ _ _ _ _ aa hc (by omega) (by omega) λ_=>rfl⟩) λh0=>Br.dec (λhs N1 aa=>?_) λhs N1 aa=>?_
 ·exact Ko hc a c h N1 _ λx O J U i' Y N2 ab I x0 x1 _ _=>⟨by omega,wK,λN3 ac=>hQ _ _ _ _ _ _ _ (by omega) I (tm x x0 (by omega)).1 (λg=>(tm x x0 g).2) λg=>by omega⟩
 ·refine Ko hc a c h N1 _ λx O J U i' Y N2 ab I x0 x1 _ _ N3 ac=>?_;refine Ko I O U Y N3 _ λy O J U i' Y N4 ae I y0 y1 _ _ N5 ah=>?_;refine Ko I O U Y N5 _ λz O J U i' Y N6 ai I z0 z1 _ _ N7 aj=>?_;refine Ko I O U Y N7 _ λw O J U i' Y N8 ak I w0 w1 _ _=>⟨by omega,wK,λN9 al=>?_⟩
  have e:IntKind.i64.wrap (IntKind.i64.wrap (IntKind.i64.wrap (IntKind.i64.wrap (x*16777216)+IntKind.i64.wrap (y*65536))+IntKind.i64.wrap (z*256))+w)=x*16777216+y*65536+z*256+w:=by rw[i64_in (x*16777216) (by omega),i64_in (y*65536) (by omega),i64_in (z*256) (by omega),i64_in (x*16777216+y*65536) (by omega),i64_in (x*16777216+y*65536+z*256) (by omega),i64_in _ (by omega)]
  have hq:=hQ (Int.tmod (x*16777216+y*65536+z*256+w) n) O J U i' Y N9 (by omega) I (tm _ (by omega) (by omega)).1 (λg=>(tm _ (by omega) g).2) λg=>by omega
  rw[<-e]at hq;exact hq
theorem Ap {es:List D} {i:Int} (hc:Cu es i) (n:Int) (hn:n<=4294967296) (a:Option Addr) (c:Nat) (h:Int) (N:Nat) (Q:QT [.bool,.sl 0,.i,.i])
  (hQ:∀ b O I U i' Y N',N<=N'->Cu I i'->Q b O I U i' Y N'):BCalls prog 20 [.bool,.sl 0,.i,.i] [.pb 0 0 0 0,.j n] [.var [.sv a 0 es c,.j i,.j h]] N Q:=
 EL N n a es c i h Q λE _ N1 aa=>xo hc n hn a c h N1 _ λx O I U i' Y N2 ab J _ _ _ _ _=>⟨wK,λN3 ac=>hQ _ _ _ _ _ _ _ (by omega) J⟩
theorem qL {es:List D} {i:Int} (hc:Cu es i) (l:List ByteArray) (h0:0<l.length) (hl:l.length<=4294967296) (a:Option Addr) (c:Nat) (h:Int) (k q:Nat) (N:Nat) (Q:QT [.str,.sl 0,.i,.i,.sl 0])
  (hQ:∀ s U I Y i' h' N',N<=N'->Cu I i'->s∈l->Q s U I Y i' h' none (zA l) q N'):BCalls prog 40 [.str,.sl 0,.i,.i,.sl 0] [.pb 0 0 0 0,.sb 1 0 0 l.length k] [.var [.sv a 0 es c,.j i,.j h],.arr 9 0 (zA l) q] N Q:=by
 have aa:=zM l;refine EP N l.length k a es c i h (zA l) q Q λE _ _ N1 ab=>?_;refine xo hc l.length (by omega) a c h N1 _ λx U I Y i' h' N2 ac J x0 O _ _ _=>?_;have O:=O (by omega);have hx:x.toNat<l.length:=by omega
 refine⟨⟨x0,O,by omega⟩,by omega,l[x.toNat],?_,wK,λN3 ae=>hQ _ _ _ _ _ _ _ (by omega) J (mS hx)⟩;simp[zA,oA,oE,oI hx]
theorem pJ {es:List D} {i:Int} (hc:Cu es i) (l:List Int) (h0:0<l.length) (hl:l.length<=4294967296) (a:Option Addr) (c:Nat) (h:Int) (k q:Nat) (N:Nat) (Q:QT [.i,.sl 0,.i,.i,.sl 0])
  (hQ:∀ s U I Y i' h' N',N<=N'->Cu I i'->s∈l->Q s U I Y i' h' none (MR l) q N'):BCalls prog 39 [.i,.sl 0,.i,.i,.sl 0] [.pb 0 0 0 0,.sb 1 0 0 l.length k] [.var [.sv a 0 es c,.j i,.j h],.arr 3 0 (MR l) q] N Q:=by
 have aa:=SV l;refine Au N l.length k a es c i h (MR l) q Q λE _ _ N1 ab=>?_;refine xo hc l.length (by omega) a c h N1 _ λx U I Y i' h' N2 ac J x0 O _ _ _=>?_;have O:=O (by omega);have hx:x.toNat<l.length:=by omega
 refine⟨⟨x0,O,by omega⟩,by omega,l[x.toNat],?_,wK,λN3 ae=>hQ _ _ _ _ _ _ _ (by omega) J (mS hx)⟩;simp[MR,oA,oE,oI hx]
end Go.Proofs.YtligajflgjpdnaaGreatDoor
set_option maxRecDepth 100000
namespace Go.Proofs.YtligajflgjpdnaaGreatDoor
open Go Go.Proofs Go.Proofs.Tryz Go.IntWalk
def Some (m:Nat)(d:D):Prop:=∃ t:Tm,t.Is d/\t.wt<=m
def SomB (m:Nat)(d:D):Prop:=∃ t:Tm,t.Is d/\t.cnt<=m/\t.bd<=20
theorem SomB.mono {m n:Nat}{d:D}(h:SomB m d)(O:m<=n):SomB n d:=by obtain⟨t,I,U,J⟩:=h;exact⟨t,I,by omega,J⟩
theorem Some.b {m:Nat}{d:D}(h:Some m d)(J:m<1048576):SomB m d:=by obtain⟨t,O,I⟩:=h;exact⟨t,O,oL t.cnt_wt I,Tm.bd_of I J⟩
theorem Some.mono {m n:Nat}{d:D}(h:Some m d)(J:m<=n):Some n d:=by obtain⟨t,I,O⟩:=h;exact⟨t,I,by omega⟩
theorem YA {m:Nat}:∀ {es:List D},(∀ d∈es,Some m d)->∃ l,All2 Tm.Is l es/\(∀ x∈l,x.wt<=m)
 | [],_=>⟨[],rfl,by simp⟩
 | d::es,h=>by
   obtain⟨t,I,J⟩:=h d (by simp);obtain⟨l,O,U⟩:=YA λx hx=>h x (nw d hx);exact⟨t::l,⟨d,es,rfl,I,O⟩,λx hx=>by
    rcases oF.1 hx with rfl | hx
    ·exact J
    ·exact U x hx⟩
theorem Kb {m:Nat}:∀ {l:List Tm},(∀ x∈l,x.wt<=m)->ue l<=l.length*m
 | [],_=>by simp[ue]
 | x::l,h=>by have J:=Kb (l:=l) λy I=>h y (by simp[I]);have O:=h x (by simp);simp only[ue,oO,nD,mr];omega
theorem Hp (k:Int) {m:Nat} (hm:m<=1073741824) {es:List D} (I:∀ d∈es,Some m d) (hl:es.length<=1000) (a:Option Addr) (c:Nat) (N:Nat) (Q:QT [.ag 9])
  (hQ:∀ d' N',N<=N'->Some (3+es.length*m) d'->Own N N' d'->Q d' N') (hk:bn k=0:=by decide):ACalls prog 82 [.ag 9] [.j k,.sv a 9 es c] N Q:=by
 obtain⟨l,U,Y⟩:=YA I;have J:=U.len;refine En k U (by omega) (λx hx=>oL x.cnt_wt (oL (Y x hx) hm)) a c N _ λd' N' O hd ho=>hQ d' N' O ⟨_,hd,?_⟩ ho
 have:=Kb Y
 simp only[Tm.wt,Ty.cnt,zL,hk,Nat.pow_zero,mr];rw[J];omega
theorem LY {m:Nat}{d:D}(h:Some m d){s:ByteArray}(hs:s.size<=4611686018427387904):Some m (.ag [d.cell 0,.t s,d.cell 2,d.cell 3,d.cell 4,d.cell 5,d.cell 6,d.cell 7,d.cell 8]):=by
 obtain⟨t,U,Y⟩:=h;cases t with
 | mk k nm ot n ty re l=>obtain⟨t0,t1,r0,r1,a,es,c,rfl,J,I,O⟩:=Tm.is_mk.1 U;exact⟨.mk k s ot n ty re l,Tm.is_mk.2 ⟨_,_,_,_,_,_,_,rfl,⟨hs,J.ot,J.ty,J.re⟩,I,O⟩,Y⟩
theorem Sm {m N N':Nat}{d:D}(h:Some m d)(J:Own N N' d)(s:ByteArray):Own N N' (.ag [d.cell 0,.t s,d.cell 2,d.cell 3,d.cell 4,d.cell 5,d.cell 6,d.cell 7,d.cell 8]):=by
 obtain⟨t,O,Y⟩:=h;cases t with
 | mk k nm ot n ty re l=>obtain⟨t0,t1,r0,r1,a,es,c,rfl,hh,I,U⟩:=Tm.is_mk.1 O;exact Nf (v2:=.string s) J
theorem Zn {s:ByteArray} (hs:s.size<=4611686018427387904) {m:Nat} (U:m<=1073741824) {es:List D} (I:∀ d∈es,Some m d) (Y:es.length<=1000) (a:Option Addr) (c:Nat) (N:Nat) (Q:QT [.ag 9])
  (hQ:∀ d' N',N<=N'->Some (3+es.length*m) d'->Own N N' d'->Q d' N'):ACalls prog 119 [.ag 9] [.str s,.sv a 9 es c] N Q:=
 ML N s a es c Q λ_ N1 J=>Hp 4 U I Y a c N1 _ λd' N2 aa hd ho _ _ N3 O=>hQ _ _ (by omega) (LY hd hs) ((Sm hd ho s).mono J O)
theorem CQ (k n:Int)(s:ByteArray)(hs:s.size<=4611686018427387904):Some 3 (.ag [.j k,.t s,.t (bytes []),.j n,.j 0,.sl none 2 [] 0,.j 0,.sl none 2 [] 0,.sl none 9 [] 0]):=
 LY (s:=s) ⟨_,XH k n,by simp only[Tm.wt,Ty.cnt,zL,ue,Nat.mul_zero];omega⟩ hs
theorem Yh (s:ByteArray)(hs:s.size<=4611686018427387904)(N:Nat)(Q:QT [.ag 9])(J:∀ d' N',N<=N'->Some 3 d'->Q d' N'):ACalls prog 41 [.ag 9] [.str s] N Q:=
 Do N s Q λN1 I=>J _ _ I (CQ 1 0 s hs)
theorem ZR (n:Int)(N:Nat)(Q:QT [.ag 9])(J:∀ d' N',N<=N'->Some 3 d'->Q d' N'):ACalls prog 112 [.ag 9] [.j n] N Q:=
 Dh N n Q λN1 I=>J _ _ I (CQ 2 n (bytes []) (by decide))
theorem X4 (n:Int)(N:Nat)(Q:QT [.ag 9])(J:∀ d' N',N<=N'->Some 3 d'->Q d' N'):ACalls prog 113 [.ag 9] [.j n] N Q:=
 Cn N n Q λN1 I=>J _ _ I (CQ 3 n (bytes []) (by decide))
theorem Yv {s:ByteArray} (hs:s.size<=4611686018427387904) {m:Nat} (hm:m<=1073741824) {d e:D} (hd:Some m d) (J:Some m e) (N:Nat) (Q:QT [.ag 9])
  (O:∀ d' N',N<=N'->Some (3+4*m) d'->Q d' N'):ACalls prog 116 [.ag 9] [.str s,.dg 9 d,.dg 9 e] N Q:=by
 obtain⟨t,U,h2⟩:=hd;obtain⟨u,Y,h4⟩:=J;have w1:=t.cnt_wt;have w2:=u.cnt_wt;refine VN s hs t u d e U Y (by omega) (by omega) N _ λd' N' I hx _=>O d' N' I ⟨_,hx,?_⟩;simp only[Tm.letN,Tm.wt,Ty.cnt,zL,ue,show bn 8=1 from rfl];omega
theorem Vm {s:ByteArray} (hs:s.size<=4611686018427387904) {ty:Ty} {O:D} (h1:ty.Is O) (U:ty.cnt<=1073741824) {m:Nat} (hm:m<=1073741824) {d:D} (hd:Some m d) (N:Nat) (Q:QT [.ag 9])
  (hQ:∀ d' N',N<=N'->Some (2+ty.cnt+2*m) d'->Q d' N'):ACalls prog 79 [.ag 9] [.str s,.dg 2 O,.dg 9 d] N Q:=by
 obtain⟨t,h2,h3⟩:=hd;have w1:=t.cnt_wt;refine LI N s O d Q λ_ _=>⟨⟨rfl,rfl⟩,λa _ N1 ab I=>?_⟩
 refine En 6 (Iy h2) (by simp) (by simpa using(by omega:t.cnt<=1073741824)) a 1 N1 _ λx N2 ac hx ho _=>⟨uC I ho,λ_ N3 ae=>?_⟩
 refine zP ty O h1 U N3 _ λx' N4 ah Y ai _ _ N5 aj=>?_;obtain⟨t0,t1,r0,r1,a',es,c,rfl,hh,J,aa⟩:=Tm.is_mk.1 hx;refine hQ _ _ (by omega) ⟨.mk 6 s (bytes []) 0 ty (.mk 0 []) [t],Tm.is_mk.2 ⟨_,_,_,_,_,_,_,rfl,⟨hs,hh.ot,Ty.is_cells Y,hh.re⟩,J,aa⟩,?_⟩;simp only[Tm.wt,Ty.cnt,zL,ue,show bn 6=1 from rfl];omega
inductive Wf:Ty->Prop
 | int:Wf tInt
 | bool:Wf tBool
 | fn {a b:Ty}:Wf a->Wf b->Wf (vV a b)
 | code {a:Ty}:Wf a->Wf (xZ a)
theorem S6 {t:Ty} (hw:Wf t):t.cnt<=20->∀ {d:D} (_:t.Is d) (n:Int) {es:List D} {i:Int} (_:Cu es i) (a:Option Addr) (c:Nat) (h:Int) (N:Nat) (Q:QT [.ag 9,.sl 0,.i,.i])
  (_:∀ d' a' O c' i' h' N',N<=N'->Cu O i'->Some (3*2 ^ t.cnt) d'->Q d' a' O c' i' h' N'),BCalls prog 76 [.ag 9,.sl 0,.i,.i] [.pb 0 0 0 0,.dg 2 d,.j n] [.var [.sv a 0 es c,.j i,.j h]] N Q:=by
 induction hw with
 | int=>
   intro hc d hd n es i I a c h N Q U;obtain⟨b,fs,k,rfl,_,h2⟩:=Ty.is_mk.1 hd;refine wB N _ n a es c i h Q λE _ _=>⟨1,rfl,Br.beq (λ_ N1 Y=>?_) λh=>absurd rfl h⟩
   exact xo I 4 (by omega) a c h N1 _ λx a' O c' i' h' N2 aa J _ _ _ _ _ N3 ab=>ZR x N3 _ λd' N4 ac ae _ _=>⟨wK,λN5 ai=>U _ _ _ _ _ _ _ (by omega) J (ae.mono (by simp[tInt,Ty.cnt,zL]))⟩
 | bool=>
   intro hc d hd n es i I a c h N Q U;obtain⟨b,fs,k,rfl,_,h2⟩:=Ty.is_mk.1 hd;refine wB N _ n a es c i h Q λE _ _=>⟨2,rfl,Br.beq (λh=>absurd h (by decide)) λ_=>Br.beq (λ_ N1 Y=>?_) λh=>absurd rfl h⟩
   exact xo I 2 (by omega) a c h N1 _ λx a' O c' i' h' N2 aa J _ _ _ _ _ N3 ab=>X4 x N3 _ λd' N4 ac ae _ _=>⟨wK,λN5 ai=>U _ _ _ _ _ _ _ (by omega) J (ae.mono (by simp[tBool,Ty.cnt,zL]))⟩
 | @fn u v hu hv aj ak=>
   intro hc d hd n es i I a c h N Q U;have ah:(vV u v).cnt=1+(u.cnt+(v.cnt+0)):=rfl;obtain⟨b,fs,k,rfl,al,d1,_,rfl,h3,d2,_,rfl,h4,rfl⟩:=Ty.is_mk.1 hd;refine wB N _ n a es c i h Q λE _ _=>⟨3,rfl,Br.beq (λh=>absurd h (by decide)) λ_=>Br.beq (λh=>absurd h (by decide)) λ_=>Br.beq (λ_=>⟨_,_,_,rfl,⟨by simp,by simp⟩,_,_,_,rfl,⟨by simp,by simp⟩,λN1 Y=>?_⟩) λh=>absurd rfl h⟩
   refine ak (by omega) h4 n I a c h N1 _ λx a' O c' i' h' N2 aa J hx _ _ _ N3 ab=>?_;have p6:2 ^ v.cnt<=2 ^ 20:=mj (by omega) (by omega);refine Vm (by decide) h3 (by omega) (by omega) hx N3 _ λy N4 ac hy _ _=>⟨wK,λN5 ai=>U _ _ _ _ _ _ _ (by omega) J (hy.mono ?_)⟩
   have p1:=Nat.two_pow_pos v.cnt;have p2:2 ^ 1<=2 ^ u.cnt:=mj (by omega) (by cases u;simp only[Ty.cnt];omega);have p3:u.cnt<2 ^ u.cnt:=Nat.lt_two_pow_self;have p4:=od (2 ^ v.cnt) p2;have p5:=mm (2 ^ u.cnt) p1;rw[ah,show 1+(u.cnt+(v.cnt+0))=u.cnt+v.cnt+1 by omega,Nat.pow_succ,Nat.pow_add];omega
 | @code u hu aj=>
   intro hc d hd n es i I a c h N Q U;have ah:(xZ u).cnt=1+(u.cnt+0):=rfl;obtain⟨b,fs,k,rfl,al,d1,_,rfl,h3,rfl⟩:=Ty.is_mk.1 hd;refine wB N _ n a es c i h Q λE _ _=>⟨4,rfl,Br.beq (λh=>absurd h (by decide)) λ_=>Br.beq (λh=>absurd h (by decide)) λ_=>Br.beq (λh=>absurd h (by decide)) λ_=>⟨_,_,_,rfl,⟨by simp,by simp⟩,λN1 Y=>?_⟩⟩
   refine aj (by omega) h3 _ I a c h N1 _ λx a' O c' i' h' N2 aa J hx _ _ _=>⟨⟨rfl,rfl⟩,⟨rfl,rfl⟩,⟨rfl,rfl⟩,λa7 N3 ab _=>⟨wK,λN4 ac=>U _ _ _ _ _ _ _ (by omega) J ?_⟩⟩
   obtain⟨e,h5,h6⟩:=hx;refine⟨.mk 10 (bytes []) (bytes []) 0 (.mk 0 []) (.mk 0 []) [e],Tm.is_mk.2 ⟨_,_,_,_,_,_,_,rfl,⟨by decide,by decide,tS 0,tS 0⟩,by simp,Iy h5⟩,?_⟩;have p1:=Nat.two_pow_pos u.cnt;simp only[Tm.wt,Ty.cnt,zL,ue,show bn 10=0 from rfl];rw[ah,show 1+(u.cnt+0)=u.cnt+1 by omega,Nat.pow_succ];omega
theorem Mb {t:Ty} (hw:Wf t) (hc:t.cnt<=9) {d:D} (hd:t.Is d) (n:Int) {es:List D} {i:Int} (J:Cu es i) (a:Option Addr) (c:Nat) (h:Int) (N:Nat) (Q:QT [.ag 9,.sl 0,.i,.i])
  (hQ:∀ d' O I U i' Y N',N<=N'->Cu I i'->Some 1536 d'->Q d' O I U i' Y N'):BCalls prog 76 [.ag 9,.sl 0,.i,.i] [.pb 0 0 0 0,.dg 2 d,.j n] [.var [.sv a 0 es c,.j i,.j h]] N Q:=
 S6 hw (by omega) hd n J a c h N Q λd' O I U i' Y N' h1 h2 h3=>hQ d' O I U i' Y N' h1 h2 (h3.mono (by have:2 ^ t.cnt<=2 ^ 9:=mj (by omega) hc;omega))
theorem S3:Some 3 (.ag [.j 0,.t (bytes []),.t (bytes []),.j 0,.j 0,.sl none 2 [] 0,.j 0,.sl none 2 [] 0,.sl none 9 [] 0]):=CQ 0 0 (bytes []) (by decide)
theorem R0 {g:List Tg} {I:List D} (O:Ctx g I) (hg:g.length<=1000000) {t:Ty} {d:D} (hd:t.Is d) (n:Int) (a0:Option Addr) (Y:Nat) {es:List D} {i:Int} (aa:Cu es i) (a:Option Addr) (c:Nat) (h:Int) (N:Nat) (Q:QT [.ag 9,.bool,.sl 0,.i,.i])
  (hQ:∀ d' b a' U c' i' h' N',N<=N'->Cu U i'->Some 3 d'->Q d' b a' U c' i' h' N'):BCalls prog 75 [.ag 9,.bool,.sl 0,.i,.i] [.pb 0 0 0 0,.sv a0 4 I Y,.dg 2 d,.j n] [.var [.sv a 0 es c,.j i,.j h]] N Q:=by
 have hl:=O.all.len;refine Db N a0 I Y d n a es c i h Q λE _ _ _=>?_;refine up O.all O.len (λk xs=>∀(r:List D) (q N':Nat),N<=N'->(∀ x∈r,Some 3 x)->r.length<=k->zr E Q N a0 I Y n r.length q k a es c i h d 0 (bytes []) (bytes []) 0 0 none [] 0 0 none [] 0 none [] 0 r q N') ?_ ?_ [] 0 N (oC _) (by simp) (by simp)
 ·intro k ae hk r q N' ab hr ah;refine qW _ _ _ _ _ _ _ _ _ _ _ _ _ _ _ _ _ _ _ _ _ _ _ _ _ _ _ _ _ _ _ _ _ _ ?_;rw[ae];refine Br.beq (λ_=>⟨wK,λN1 ac=>hQ _ _ _ _ _ _ _ _ (by omega) aa S3⟩) λh0 N1 ac=>?_;refine xo aa _ (by omega) a c h N1 _ λx a' U c' i' h' N2 ai aj x0 x1 _ _ _=>?_;have x1:=x1 (by omega);exact⟨⟨x0,x1,by omega⟩,by omega,wK,λN3 ak=>hQ _ _ _ _ _ _ _ _ (by omega) aj (hr _ (NE (by omega)))⟩
 ·intro k x xs J _ ih r q N' ab hr ah;have hb:=J.b;obtain⟨t0,t1,al,am,ao⟩:=J.r;have skip:∀ N'',N<=N''->zr E Q N a0 I Y n r.length q (IntKind.i64.wrap ((k:Int)+1)) a es c i h d 0 (bytes []) (bytes []) 0 0 none [] 0 0 none [] 0 none [] 0 r q N'':=λN'' h=>by rw[J.w];exact ih r q N'' h hr (by omega)
  refine qW _ _ _ _ _ _ _ _ _ _ _ _ _ _ _ _ _ _ _ _ _ _ _ _ _ _ _ _ _ _ _ _ _ _ ?_;rw[J.lt];simp only[oH];rw[al];have bd:(0:Int)<=(k:Int)/\(k:Int)<(I.length:Int):=⟨by omega,by omega⟩
  refine⟨bd,x.lv,rfl,Br.beq (λ_=>⟨bd,λN1 ac=>?_⟩) λ_=>skip N' ab⟩;refine yN x.ty t _ d ao hd N1 _ λN2 ai _=>Br.of (λ_=>⟨bd,x.nm,rfl,λN3 ak=>?_⟩) λ_=>skip N2 (by omega);refine u9 O a0 Y x.nm N3 _ λN4 aq _=>Br.beq (λ_=>⟨bd,x.nm,rfl,λN5 au=>?_⟩) λ_=>skip N4 (by omega);refine Yh x.nm am N5 _ λy N6 aw hy _ _=>⟨⟨by trivial,by trivial⟩,by unfold zC;rw[oJ];simp only[oO,oU];omega,λc1=>?_⟩
  rw[J.w];exact ih (r++[y]) c1 N6 (by omega) (λz hz=>by
   rcases oK.1 hz with hz | hz
   ·exact hr z hz
   ·rw[oV]at hz;subst hz;exact hy) (by simp;omega)
end Go.Proofs.YtligajflgjpdnaaGreatDoor
set_option maxRecDepth 100000
namespace Go.Proofs.YtligajflgjpdnaaGreatDoor
open Go Go.Proofs Go.Proofs.Tryz Go.IntWalk
def SmT (m:Nat)(d:D):Prop:=∃ t:Ty,t.Is d/\t.cnt<=m
theorem SmT.mono {m n:Nat}{d:D}(h:SmT m d)(J:m<=n):SmT n d:=by obtain⟨t,I,O⟩:=h;exact⟨t,I,by omega⟩
theorem SmT.cells {m:Nat}{d:D}(h:SmT m d):SmT m (.ag [d.cell 0,d.cell 1]):=by obtain⟨t,I,J⟩:=h;exact⟨t,Ty.is_cells I,J⟩
def Ex (d:D):Prop:=∃ k a es c,d=.ag [.j k,.sl a 2 es c]/\(c=es.length/\es.length<=1000)
theorem MO (k:Int):SmT 1 (.ag [.j k,.sl none 2 [] 0]):=⟨_,tS k,by simp[Ty.cnt,zL]⟩
theorem SD {m:Nat}(hm:m<=1073741824){d:D}(hd:SmT m d)(N:Nat)(Q:QT [.ag 2])(I:∀ d' N',N<=N'->SmT (1+m) d'->Ex d'->Q d' N'):ACalls prog 72 [.ag 2] [.dg 2 d] N Q:=by
 obtain⟨t,J,h2⟩:=hd;refine BS N d Q λ_ N1 O=>zP t d J (by omega) N1 _ λx N2 U Y _ _ _=>⟨⟨rfl,rfl⟩,⟨rfl,rfl⟩,⟨rfl,rfl⟩,λa N3 aa _ N4 ab=>I _ _ (by omega) ⟨xZ t,Ty.is_mk.2 ⟨_,_,_,rfl,by simp,x,[],rfl,Y,rfl⟩,?_⟩ ⟨_,_,_,_,rfl,rfl,by simp⟩⟩
 simp only[xZ,Ty.cnt,zL];omega
theorem VL {m:Nat}(hm:m<=1073741824){d e:D}(hd:SmT m d)(I:SmT m e)(N:Nat)(Q:QT [.ag 2])(J:∀ d' N',N<=N'->SmT (1+2*m) d'->Ex d'->Q d' N'):ACalls prog 73 [.ag 2] [.dg 2 d,.dg 2 e] N Q:=by
 obtain⟨t,O,h2⟩:=hd;obtain⟨u,U,h4⟩:=I;refine Dt N d e Q λ_ _ N1 Y=>zP t d O (by omega) N1 _ λx N2 aa hx _ _ _ N3 ab=>zP u e U (by omega) N3 _ λy N4 ac hy _ _ _=>⟨⟨rfl,rfl⟩,⟨rfl,rfl⟩,⟨rfl,rfl⟩,λa N5 ae _ N6 ah=>J _ _ (by omega) ⟨vV t u,Ty.is_mk.2 ⟨_,_,_,rfl,by simp,x,[y],rfl,hx,y,[],rfl,hy,rfl⟩,?_⟩ ⟨_,_,_,_,rfl,rfl,by simp⟩⟩
 simp only[vV,Ty.cnt,zL];omega
def TyC (b:Int) (X:Nat):Prop:=∀(n:Int),n<=b->∀ {es:List D} {i:Int} (_:Cu es i) (a:Option Addr) (c:Nat) (h:Int) (N:Nat) (Q:QT [.ag 2,.sl 0,.i,.i])
    (_:∀ d' J I O i' U N',N<=N'->Cu I i'->SmT X d'->Ex d'->Q d' J I O i' U N'),BCalls prog 70 [.ag 2,.sl 0,.i,.i] [.pb 0 0 0 0,.j n] [.var [.sv a 0 es c,.j i,.j h]] N Q
theorem Xp:TyC 1 1:=λn hn es i I a c h N Q O=>by refine qD N n a es c i h Q λE _=>Br.dec (λ_ N1 U=>?_) λg=>absurd (by omega) g;exact pJ (l:=[1,1,2]) I (by decide) (by decide) a c h 3 3 N1 _ λk a' Y c' i' h' N2 aa J _ _ _ _=>⟨wK,λN3 ab=>O _ _ _ _ _ _ _ (by omega) J (MO k) ⟨_,_,_,_,rfl,rfl,by simp⟩⟩
theorem Mo {b:Int}{X:Nat}(hb:b<=1000)(hX:1<=X)(a8:X<=1000000)(ih:TyC b X):TyC (b+1) (1+2*X):=λn hn es i I a c h N Q hQ=>by
 have pk:∀(E:Env) {es:List D} {i:Int} (_:Cu es i) a c h N1,N<=N1->BCalls prog 39 [.i,.sl 0,.i,.i,.sl 0] [.pb 0 0 0 0,.sb 1 0 0 3 3] [.var [.sv a 0 es c,.j i,.j h],.arr 3 0 (MR [1,1,2]) 3] N1
   (λn a es c ae ah ai Y aj N2=>N1<=N2->Bel N2 (D.sl a 0 es c)->Bel N2 (D.sl ai 0 Y aj)->xQ E [.var [.sv none 0 [] 0,.j 0,.j 0]]/\∀ J,N2<=J->Q (D.ag [D.j n,D.sl Option.none 2 [] 0]) a es c ae ah J):=λE es i I a c h N1 O=>
  pJ (l:=[1,1,2]) I (by decide) (by decide) a c h 3 3 N1 _ λk a' ba c' i' h' N2 ak al _ _ _ _=>⟨wK,λJ aa=>hQ _ _ _ _ _ _ _ (by omega) al ((MO k).mono (by omega)) ⟨_,_,_,_,rfl,rfl,by simp⟩⟩
 refine qD N n a es c i h Q λE _=>Br.dec (λ_ N1 O=>pk E I _ _ _ N1 O) λbc N1 O=>Ap I 2 (by omega) a c h N1 _ λb1 a1 bg c1 i1 h1 N2 ak ab _ _=>Br.of (λ_ J aa=>pk E ab _ _ _ J (by omega)) λ_ J aa=>?_;refine Ap ab 2 (by omega) a1 c1 h1 J _ λb2 a2 bh c2 i2 h2 N4 bi ac _ _=>Br.of (λ_ N5 am=>?_) λ_ N5 am=>?_
 ·rw[i64_in (n - 1) (by omega)];exact ih (n - 1) (by omega) ac a2 c2 h2 N5 _ λd a3 ao c3 i3 h3 N6 aq U hd _ _ _ _ N7 au=>SD (by omega) hd N7 _ λe N8 aw he hx _ _=>⟨wK,λN9 ax=>hQ _ _ _ _ _ _ _ (by omega) U (he.mono (by omega)) hx⟩
 ·rw[i64_in (n - 1) (by omega)];refine ih (n - 1) (by omega) ac a2 c2 h2 N5 _ λd a3 ao c3 i3 h3 N6 aq U hd _ _ _ _ N7 au=>?_;exact ih (n - 1) (by omega) U a3 c3 h3 N7 _ λd2 a4 bj c4 i4 h4 N8 aw ay az _ _ _ _ N9 ax=>VL (by omega) hd az N9 _ λe bm a6 he hx _ _=>⟨wK,λbp a7=>hQ _ _ _ _ _ _ _ (by omega) ay he hx⟩
theorem L0:TyC 2 3:=Mo (b:=1) (by omega) (by omega) (by omega) Xp
theorem WH:TyC 4 15:=Mo (b:=3) (by omega) (by omega) (by omega) (Mo (b:=2) (by omega) (by omega) (by omega) L0)
theorem Vi {es:List D} {i:Int} (I:Cu es i) (a:Option Addr) (c:Nat) (h:Int) (N:Nat) (Q:QT [.ag 2,.sl 0,.i,.i])
  (hQ:∀ d' a' ae c' i' h' N',N<=N'->Cu ae i'->SmT 200 d'->Q d' a' ae c' i' h' N'):BCalls prog 42 [.ag 2,.sl 0,.i,.i] [.pb 0 0 0 0] [.var [.sv a 0 es c,.j i,.j h]] N Q:=by
 refine D8 N a es c i h Q λE _ N1 aq=>WH 4 (by omega) I a c h N1 _ λd a1 au c1 i1 h1 N2 aw aj hd hx _ _ _ N3 ax=>?_;have lc:∀(m:Nat) (y:D) (a es c i h) (N':Nat) (n4 n5:Int),n4<=n5+m->0<=n5->n4<=1000->m<=6->N<=N'->Cu es i->SmT (21 - m) y->wi E Q N n4 n5 a es c i h 0 none [] 0 y N':=by
  intro m
  induction m with
  | zero=>intro y a es c i h N' n4 n5 h1 h2 h5 h6 h3 I O;exact qP _ _ _ _ _ _ _ _ _ _ _ _ _ _ _ _ (Br.dec (λg=>by omega) λ_=>⟨wK,λN4 J=>hQ _ _ _ _ _ _ _ (by omega) I (O.mono (by omega))⟩)
  | succ m ab=>intro y a es c i h N' n4 n5 h1 h2 h5 h6 h3 I O;refine qP _ _ _ _ _ _ _ _ _ _ _ _ _ _ _ _ (Br.dec (λg N4 J=>SD (by omega) O N4 _ λe N5 U he _ _ _=>?_) λ_=>⟨wK,λN4 J=>hQ _ _ _ _ _ _ _ (by omega) I (O.mono (by omega))⟩);rw[i64_in (n5+1) (by omega)];exact ab _ _ _ _ _ _ _ _ _ (by omega) (by omega) (by omega) (by omega) (by omega) I (he.mono (by omega))
 have lf:∀(m k:Nat) (y:D) (a es c i h) (N':Nat),m+k=3->N<=N'->Cu es i->SmT (16*2 ^ k - 1) y->wc E Q N k a es c i h 0 none [] 0 y N':=by
  have p3:∀ k:Nat,k<=3->2 ^ k<=8:=λk hk=>by rcases(by omega:k=0\/k=1\/k=2\/k=3)with rfl | rfl | rfl | rfl<;>decide
  intro m
  induction m with
  | zero=>
    intro k y a es c i h N' h1 h3 I O
    have:=p3 k (by omega)
    exact qC _ _ _ _ _ _ _ _ _ _ _ _ _ _ _ (Br.dec (λg=>by omega) λ_=>⟨wK,λN4 J=>hQ _ _ _ _ _ _ _ (by omega) I (O.mono (by omega))⟩)
  | succ m ab=>
    intro k y a es c i h N' h1 h3 I O
    have:=p3 k (by omega)
    have h0:1<=2 ^ k:=Nat.one_le_two_pow;refine qC _ _ _ _ _ _ _ _ _ _ _ _ _ _ _ (Br.dec (λg N4 J=>VL (by omega) O O N4 _ λe N5 U he _ _ _=>?_) λ_=>⟨wK,λN4 J=>hQ _ _ _ _ _ _ _ (by omega) I (O.mono (by omega))⟩);rw[i64_in ((k:Int)+1) (by omega)];exact ab (k+1) _ _ _ _ _ _ _ (by omega) (by omega) I (he.mono (by rw[Nat.pow_succ];omega))
 obtain⟨k,ra,rs,rc,rfl,ak,ay⟩:=hx;obtain⟨t,ht,ah⟩:=hd;obtain⟨k',l,rfl⟩:∃ k l,t=Ty.mk k l:=by cases t;exact⟨_,_,rfl⟩
 obtain⟨_,_,_,he,hl,Y⟩:=Ty.is_mk.1 ht;cases he;simp only[Ty.cnt]at ah;refine xo aj 10 (by omega) a1 c1 h1 N3 _ λx a2 az c2 i2 h2 N4 J aa _ _ _ _ _=>Br.beq (λ_ N5 U=>?_) λ_=>Br.beq (λ_=>⟨_,_,_,rfl,λN5 U=>?_⟩) λ_=>Br.beq (λ_ N5 U=>?_) λ_=>Br.beq (λ_=>?_) λ_=>⟨wK,λN5 U=>hQ _ _ _ _ _ _ _ (by omega) aa ⟨_,ht,by simp only[Ty.cnt];omega⟩⟩
 ·exact xo aa 6 (by omega) a2 c2 h2 N5 _ λy a3 al c3 i3 h3 N6 ai ac _ _ _ _ _=>⟨wK,λN7 am=>hQ _ _ _ _ _ _ _ (by omega) ac ⟨.mk y l,Ty.is_mk.2 ⟨_,_,_,rfl,hl,Y⟩,by simp only[Ty.cnt];omega⟩⟩
 ·refine ww N5 _ λy N6 ai O _ _ _=>⟨?_,by unfold zC;rw[oJ];simp only[oO,oU];omega,λc4=>⟨⟨rfl,rfl⟩,⟨rfl,rfl⟩,⟨rfl,rfl⟩,⟨rfl,rfl⟩,λa4 N7 am _=>⟨wK,λN8 a6=>hQ _ _ _ _ _ _ _ (by omega) aa ⟨.mk k (l++[tInt]),Ty.is_mk.2 ⟨_,_,_,rfl,by simp;omega,Y.snoc O⟩,?_⟩⟩⟩⟩
  ·unfold Vw;split
   ·trivial
   ·exact⟨ak,by simp⟩
  ·have:zL (l++[tInt])=zL l+1:=by
    clear ht ah Y hl
    induction l with
    | nil=>rfl
    | cons u l ao=>simp only[nS,zL,ao];omega
   simp only[Ty.cnt];omega
 ·refine xo aa 6 (by omega) a2 c2 h2 N5 _ λy a3 al c3 i3 h3 N6 ai ac y0 y1 _ _ _=>?_;have y1:=y1 (by omega);simp only[i64_in (1+y) (by omega)];exact lc 6 _ _ _ _ _ _ _ _ _ (by omega) (by omega) (by omega) (by omega) (by omega) ac ⟨_,ht,by simp only[Ty.cnt];omega⟩
 ·exact lf 3 0 _ _ _ _ _ _ _ (by omega) (by omega) aa ⟨_,ht,by simp only[Ty.cnt];omega⟩
def PkT (m:Nat)(s I:ByteArray)(x J O U:D)(es:List D):Prop:=∃(ty re:Ty) (l:List Tm),s.size<=4611686018427387904/\I.size<=4611686018427387904/\ty.Is (.ag [x,J])/\re.Is (.ag [O,U])/\All2 Tm.Is l es/\es.length<=1000/\1+ty.cnt+re.cnt+4*ue l<=m
theorem PkT.some {m:Nat}{s I:ByteArray}{x J O U:D}{es:List D}(h:PkT m s I x J O U es)(k n:Int)(a:Option Addr)(c:Nat):Some m (.ag [.j k,.t s,.t I,.j n,x,J,O,U,.sl a 9 es c]):=by obtain⟨ty,re,l,Y,h2,h3,h4,h5,h6,h7⟩:=h;exact⟨.mk k s I n ty re l,Tm.is_mk.2 ⟨_,_,_,_,_,_,_,rfl,⟨Y,h2,h3,h4⟩,by omega,h5⟩,by have h8:2 ^ bn k<=2 ^ 2:=mj (by omega) (VX k);have h9:=od (ue l) h8;simp only[Tm.wt];omega⟩
theorem PkT.mono {m n:Nat}{s I:ByteArray}{x J O U:D}{es:List D}(h:PkT m s I x J O U es)(hn:m<=n):PkT n s I x J O U es:=by obtain⟨ty,re,l,Y,h2,h3,h4,h5,h6,h7⟩:=h;exact⟨ty,re,l,Y,h2,h3,h4,h5,h6,by omega⟩
theorem PkT.name {m:Nat}{s I:ByteArray}{x J O U:D}{es:List D}(h:PkT m s I x J O U es){t:ByteArray}(ht:t.size<=1000):PkT m t I x J O U es:=by obtain⟨ty,re,l,h1,Y,h3,h4,h5,h6,h7⟩:=h;exact⟨ty,re,l,by omega,Y,h3,h4,h5,h6,h7⟩
theorem PkT.other {m:Nat}{s U:ByteArray}{x I J O:D}{es:List D}(h:PkT m s U x I J O es){t:ByteArray}(ht:t.size<=1000):PkT m s t x I J O es:=by obtain⟨ty,re,l,Y,h2,h3,h4,h5,h6,h7⟩:=h;exact⟨ty,re,l,Y,by omega,h3,h4,h5,h6,h7⟩
theorem PkT.type {m M:Nat}{s I:ByteArray}{x Y J O y U:D}{es:List D}(h:PkT m s I x Y J O es)(hy:SmT M (.ag [y,U])):PkT (m+M) s I y U J O es:=by obtain⟨ty,re,l,h1,h2,h3,h4,h5,h6,h7⟩:=h;obtain⟨t,h8,h9⟩:=hy;exact⟨t,re,l,h1,h2,h8,h4,h5,h6,by omega⟩
theorem Ii (t:Tm):∀ l:List Tm,ue (l++[t])=ue l+t.wt
 | []=>by simp[ue]
 | x::l=>by simp only[nS,ue,Ii t l];omega
theorem PkT.snoc {m M:Nat}{s I:ByteArray}{x J O U d:D}{es:List D}(h:PkT m s I x J O U es)(hd:Some M d)(hl:es.length<=999):PkT (m+4*M) s I x J O U (es++[d]):=by obtain⟨ty,re,l,Y,h2,h3,h4,h5,h6,h7⟩:=h;obtain⟨t,h8,h9⟩:=hd;exact⟨ty,re,l++[t],Y,h2,h3,h4,h5.snoc h8,by simp;omega,by rw[Ii];omega⟩
theorem IT {s I:ByteArray}(hs:s.size<=1000)(Y:I.size<=1000){x J O U:D}(h1:SmT 7 (.ag [x,J]))(h2:SmT 7 (.ag [O,U])):PkT 15 s I x J O U []:=by obtain⟨t,h3,h4⟩:=h1;obtain⟨u,h5,h6⟩:=h2;exact⟨t,u,[],by omega,by omega,h3,h5,rfl,by simp,by simp only[ue];omega⟩
theorem Mm:SmT 7 (.ag [D.j 0,D.sl none 2 [] 0]):=(MO 0).mono (by omega)
def OT (b:Int) (X:Nat):Prop:=∀(n:Int),n<=b->∀ {es:List D} {i:Int} (_:Cu es i) (a:Option Addr) (c:Nat) (h:Int) (N:Nat) (Q:QT [.pk,.i,.str,.str,.i,.dc,.dc,.dc,.dc,.row 29 9,.sl 0,.i,.i])
    (_:∀ k s J n' x O U Y r q a' I c' i' h' N',N<=N'->Cu I i'->PkT X s J x O U Y r->r.length<=3->Q k s J n' x O U Y r q a' I c' i' h' N'),BCalls prog 38 [.pk,.i,.str,.str,.i,.dc,.dc,.dc,.dc,.row 29 9,.sl 0,.i,.i] [.pb 0 0 0 0,.j n] [.var [.sv a 0 es c,.j i,.j h]] N Q
theorem Uj {es:List D} {i:Int} (ai:Cu es i) (a:Option Addr) (c:Nat) (h:Int) (N:Nat) (Q:QT [.pk,.i,.str,.str,.i,.dc,.dc,.dc,.dc,.row 29 9,.sl 0,.i,.i])
  (hQ:∀ k s s1 n' x x1 x2 x3 r q a' O c' i' h' N',N<=N'->Cu O i'->PkT 15 s s1 x x1 x2 x3 r->r.length<=3->Q k s s1 n' x x1 x2 x3 r q a' O c' i' h' N'):BCalls prog 69 [.pk,.i,.str,.str,.i,.dc,.dc,.dc,.dc,.row 29 9,.sl 0,.i,.i] [.pb 0 0 0 0] [.var [.sv a 0 es c,.j i,.j h]] N Q:=by
 have z:PkT 15 (bytes []) (bytes []) (D.j 0) (D.sl none 2 [] 0) (D.j 0) (D.sl none 2 [] 0) []:=IT (by decide) (by decide) Mm Mm;refine Ee N a es c i h Q λE _ N1 aj=>xo ai 4 (by omega) a c h N1 _ λx a1 ak c1 i1 h1 N2 al J _ _ _ _ _=>Br.beq (λ_ U Y=>?_) λ_=>Br.beq (λ_ U Y=>?_) λ_ U Y=>?_
 ·exact pJ (l:=[0,1,2,3,10006]) J (by decide) (by decide) a1 c1 h1 5 5 U _ λk a2 aa c2 i2 h2 N4 ab I _ _ _ _ N5 ac=>Hg N5 k _ λN6 ae _ _=>⟨wK,⟨rfl,rfl⟩,λN7 ah=>hQ _ _ _ _ _ _ _ _ _ _ _ _ _ _ _ _ (by omega) I z (by simp)⟩
 ·exact xo J 2 (by omega) a1 c1 h1 U _ λk a2 aa c2 i2 h2 N4 ab I _ _ _ _ _ N5 ac=>GU N5 k _ λN6 ae _ _=>⟨wK,⟨rfl,rfl⟩,λN7 ah=>hQ _ _ _ _ _ _ _ _ _ _ _ _ _ _ _ _ (by omega) I z (by simp)⟩
 ·refine qL (l:=[bytes [120],bytes [121],bytes [102]]) J (by decide) (by decide) a1 c1 h1 3 3 U _ λs a2 aa c2 i2 h2 N4 ab I hs _ _ _ N5 ac=>Af N5 s _ λN6 ae _ _=>⟨wK,⟨rfl,rfl⟩,λN7 ah=>hQ _ _ _ _ _ _ _ _ _ _ _ _ _ _ _ _ (by omega) I (z.name ?_) (by simp)⟩
  simp only[oF,oZ,nh]at hs;rcases hs with rfl | rfl | rfl<;>decide
theorem Wa:OT 1 15:=λn hn es i I a c h N Q O=>qw N n a es c i h Q λE _=>Br.dec (λ_ N1 U=>Uj I a c h N1 _ λk s s1 n' x x1 x2 x3 r q a' Y c' i' h' N2 aa J hp hr _ _ _=>⟨wK,⟨rfl,rfl⟩,λN3 ab=>O _ _ _ _ _ _ _ _ _ _ _ _ _ _ _ _ (by omega) J hp hr⟩) λg=>absurd (by omega) g
theorem ZN {b:Int} {X:Nat} (hb:b<=1000) (hX:15<=X) (ih:OT b X) {E:Env} {N:Nat} {Q:QT [.pk,.i,.str,.str,.i,.dc,.dc,.dc,.dc,.row 29 9,.sl 0,.i,.i]} {n:Int} (hn:n - 1<=b) (ah:2<=n) (kd n3:Int) (s J:ByteArray) (O U Y x7:D) {m6:Int} (hm:m6<=3)
  (hQ:∀ r q a es c i h N',N<=N'->Cu es i->PkT (15+3*(4*X)) s J O U Y x7 r->r.length<=3->Q kd s J n3 O U Y x7 r q a es c i h N') :
  ∀(rem k:Nat) (r:List D) (q:Nat) a es c i h N',m6<=k+rem->k<=3->r.length=k->N<=N'->Cu es i->PkT (15+k*(4*X)) s J O U Y x7 r->vO E Q N n m6 k a es c i h 0 (bytes []) (bytes []) 0 0 none [] 0 0 none [] 0 none [] 0 kd s J n3 O U Y x7 r.length q r q N':=by
 intro rem
 induction rem with
 | zero=>intro k r q a es c i h N' h1 h2 h3 h4 I hp;have hk:k*(4*X)<=3*(4*X):=od _ h2;refine qq _ _ _ _ _ _ _ _ _ _ _ _ _ _ _ _ _ _ _ _ _ _ _ _ _ _ _ _ _ _ _ _ _ _ _ _ _ _ _ (Br.dec (λg=>by omega) λ_=>⟨wK,⟨rfl,rfl⟩,λN4 aa=>hQ _ _ _ _ _ _ _ _ (by omega) I (hp.mono (by omega)) (by omega)⟩)
 | succ rem ab=>
   intro k r q a es c i h N' h1 h2 h3 h4 I hp;have hk:k*(4*X)<=3*(4*X):=od _ h2;refine qq _ _ _ _ _ _ _ _ _ _ _ _ _ _ _ _ _ _ _ _ _ _ _ _ _ _ _ _ _ _ _ _ _ _ _ _ _ _ _ (Br.dec (λg N1 ai=>?_) λ_=>⟨wK,⟨rfl,rfl⟩,λN4 aa=>hQ _ _ _ _ _ _ _ _ (by omega) I (hp.mono (by omega)) (by omega)⟩);rw[i64_in (n - 1) (by omega)];refine ih (n - 1) hn I a c h N1 _ λk' t t1 n' y y1 y2 y3 aj c' a' ak c2 i2 h2 N2 al ac ae _ _ _ _=>⟨⟨rfl,rfl⟩,λa1 N3 am _=>⟨⟨rfl,rfl⟩,by unfold zC;rw[oJ];simp only[oO,oU];omega,λc3=>?_⟩⟩
   rw[i64_in ((k:Int)+1) (by omega)];exact ab (k+1) _ c3 _ _ _ _ _ _ (by omega) (by omega) (by simp[h3]) (by omega) ac ((hp.snoc (ae.some _ _ _ _) (by omega)).mono (by rw[nD,mr];omega))
theorem Yo {b:Int} {X:Nat} (hb:b<=1000) (hX:15<=X) (ih:OT b X) {E:Env} {N:Nat} {Q:QT [.pk,.i,.str,.str,.i,.dc,.dc,.dc,.dc,.row 29 9,.sl 0,.i,.i]} {n:Int} (hn:n - 1<=b) (J:2<=n) (kd n3:Int) {s I:ByteArray} (hs:s.size<=1000) (O:I.size<=1000) (U Y x6 x7:D) (hT:SmT 7 (.ag [U,Y])) (hR:SmT 7 (.ag [x6,x7]))
  (hQ:∀ k s I n' x x1 x2 x3 r q a es c i h N',N<=N'->Cu es i->PkT (15+3*(4*X)) s I x x1 x2 x3 r->r.length<=3->Q k s I n' x x1 x2 x3 r q a es c i h N') {es:List D} {i:Int} (aa:Cu es i) (a:Option Addr) (c:Nat) (h:Int) {N':Nat} (ab:N<=N') :
  tR E Q N n a es c i h 0 (bytes []) (bytes []) 0 0 none [] 0 0 none [] 0 none [] 0 kd s I n3 U Y x6 x7 0 0 [] 0 N':=by
 refine Fq _ _ _ _ _ _ _ _ _ _ _ _ _ _ _ _ _ _ _ _ _ _ _ _ _ _ _ _ _ _ _ _ _ _ _ _ _ ⟨⟨rfl,rfl⟩,λa7 _ N1 ac _=>wN N1 _ λN2 ae _=>ZN hb hX ih hn J kd n3 s I U Y x6 x7 (sw _ _) (λr q a es c i h N'=>hQ _ _ _ _ _ _ _ _ r q a es c i h N') 3 0 [] 0 a es c i h N2 (by have:=sw kd s;omega) (by omega) rfl (by omega) aa ((IT hs O hT hR).mono (by omega))⟩
theorem Ta {b:Int} {X:Nat} (hb:b<=1000) (hX:15<=X) (ih:OT b X) {E:Env} {N:Nat} {Q:QT [.pk,.i,.str,.str,.i,.dc,.dc,.dc,.dc,.row 29 9,.sl 0,.i,.i]} {n:Int} (hn:n - 1<=b) (ah:2<=n) (kd n3:Int) (s J:ByteArray) (O U:D) {m6:Int} (hm:m6<=3)
  (hQ:∀ r q a es c i h N',N<=N'->Cu es i->PkT (15+3*(4*X)) s J O U (D.j 0) (D.sl none 2 [] 0) r->r.length<=3->Q kd s J n3 O U (D.j 0) (D.sl none 2 [] 0) r q a es c i h N') :
  ∀(rem k:Nat) (r:List D) (q:Nat) a es c i h N',m6<=k+rem->k<=3->r.length=k->N<=N'->Cu es i->PkT (15+k*(4*X)) s J O U (D.j 0) (D.sl none 2 [] 0) r->xg E Q N n m6 k a es c i h 0 (bytes []) (bytes []) 0 0 none [] 0 0 none [] 0 none [] 0 kd s J n3 O U 0 none [] 0 r.length q r q N':=by
 intro rem
 induction rem with
 | zero=>intro k r q a es c i h N' h1 Y h3 h4 I hp;have hk:k*(4*X)<=3*(4*X):=od _ Y;refine sT _ _ _ _ _ _ _ _ _ _ _ _ _ _ _ _ _ _ _ _ _ _ _ _ _ _ _ _ _ _ _ _ _ _ _ _ _ _ _ _ _ (Br.dec (λg=>by omega) λ_=>⟨wK,⟨rfl,rfl⟩,λN4 aa=>hQ _ _ _ _ _ _ _ _ (by omega) I (hp.mono (by omega)) (by omega)⟩)
 | succ rem ab=>
   intro k r q a es c i h N' h1 Y h3 h4 I hp;have hk:k*(4*X)<=3*(4*X):=od _ Y;refine sT _ _ _ _ _ _ _ _ _ _ _ _ _ _ _ _ _ _ _ _ _ _ _ _ _ _ _ _ _ _ _ _ _ _ _ _ _ _ _ _ _ (Br.dec (λg N1 ai=>?_) λ_=>⟨wK,⟨rfl,rfl⟩,λN4 aa=>hQ _ _ _ _ _ _ _ _ (by omega) I (hp.mono (by omega)) (by omega)⟩);rw[i64_in (n - 1) (by omega)];refine ih (n - 1) hn I a c h N1 _ λk' t t1 n' y y1 y2 y3 aj c' a' ak c2 i2 Y N2 al ac ae _ _ _ _=>⟨⟨rfl,rfl⟩,λa1 N3 am _=>⟨⟨rfl,rfl⟩,by unfold zC;rw[oJ];simp only[oO,oU];omega,λc3=>?_⟩⟩
   rw[i64_in ((k:Int)+1) (by omega)];exact ab (k+1) _ c3 _ _ _ _ _ _ (by omega) (by omega) (by simp[h3]) (by omega) ac ((hp.snoc (ae.some _ _ _ _) (by omega)).mono (by rw[nD,mr];omega))
theorem TV {b:Int} {X:Nat} (hb:b<=1000) (hX:15<=X) (ih:OT b X) {E:Env} {N:Nat} {Q:QT [.pk,.i,.str,.str,.i,.dc,.dc,.dc,.dc,.row 29 9,.sl 0,.i,.i]} {n:Int} (hn:n - 1<=b) (J:2<=n) (kd n3:Int) {s I:ByteArray} (hs:s.size<=1000) (O:I.size<=1000) (U Y:D) (hT:SmT 7 (.ag [U,Y])) (hR:SmT 7 (.ag [(D.j 0),(D.sl none 2 [] 0)]))
  (hQ:∀ k s I n' x x1 x2 x3 r q a es c i h N',N<=N'->Cu es i->PkT (15+3*(4*X)) s I x x1 x2 x3 r->r.length<=3->Q k s I n' x x1 x2 x3 r q a es c i h N') {es:List D} {i:Int} (aa:Cu es i) (a:Option Addr) (c:Nat) (h:Int) {N':Nat} (ab:N<=N') :
  vJ E Q N n a es c i h 0 (bytes []) (bytes []) 0 0 none [] 0 0 none [] 0 none [] 0 kd s I n3 U Y 0 none [] 0 0 0 [] 0 N':=by
 refine CZ _ _ _ _ _ _ _ _ _ _ _ _ _ _ _ _ _ _ _ _ _ _ _ _ _ _ _ _ _ _ _ _ _ _ _ _ _ _ _ ⟨⟨rfl,rfl⟩,λa7 _ N1 ac _=>wN N1 _ λN2 ae _=>Ta hb hX ih hn J kd n3 s I U Y (sw _ _) (λr q a es c i h N'=>hQ _ _ _ _ _ _ _ _ r q a es c i h N') 3 0 [] 0 a es c i h N2 (by have:=sw kd s;omega) (by omega) rfl (by omega) aa ((IT hs O hT hR).mono (by omega))⟩
theorem UE {b:Int} {X:Nat} (hb:b<=1000) (hX:15<=X) (ih:OT b X) {E:Env} {N:Nat} {Q:QT [.pk,.i,.str,.str,.i,.dc,.dc,.dc,.dc,.row 29 9,.sl 0,.i,.i]} {n:Int} (hn:n - 1<=b) (ah:2<=n) (kd n3:Int) (s J:ByteArray) (O U:D) {m6:Int} (hm:m6<=3)
  (hQ:∀ r q a es c i h N',N<=N'->Cu es i->PkT (15+3*(4*X)) s J (D.j 0) (D.sl none 2 [] 0) O U r->r.length<=3->Q kd s J n3 (D.j 0) (D.sl none 2 [] 0) O U r q a es c i h N') :
  ∀(rem k:Nat) (r:List D) (q:Nat) a es c i h N',m6<=k+rem->k<=3->r.length=k->N<=N'->Cu es i->PkT (15+k*(4*X)) s J (D.j 0) (D.sl none 2 [] 0) O U r->xb E Q N n m6 k a es c i h 0 (bytes []) (bytes []) 0 0 none [] 0 0 none [] 0 none [] 0 kd s J n3 0 none [] 0 O U r.length q r q N':=by
 intro rem
 induction rem with
 | zero=>intro k r q a es c i h N' h1 Y h3 h4 I hp;have hk:k*(4*X)<=3*(4*X):=od _ Y;refine sX _ _ _ _ _ _ _ _ _ _ _ _ _ _ _ _ _ _ _ _ _ _ _ _ _ _ _ _ _ _ _ _ _ _ _ _ _ _ _ _ _ (Br.dec (λg=>by omega) λ_=>⟨wK,⟨rfl,rfl⟩,λN4 aa=>hQ _ _ _ _ _ _ _ _ (by omega) I (hp.mono (by omega)) (by omega)⟩)
 | succ rem ab=>
   intro k r q a es c i h N' h1 Y h3 h4 I hp;have hk:k*(4*X)<=3*(4*X):=od _ Y;refine sX _ _ _ _ _ _ _ _ _ _ _ _ _ _ _ _ _ _ _ _ _ _ _ _ _ _ _ _ _ _ _ _ _ _ _ _ _ _ _ _ _ (Br.dec (λg N1 ai=>?_) λ_=>⟨wK,⟨rfl,rfl⟩,λN4 aa=>hQ _ _ _ _ _ _ _ _ (by omega) I (hp.mono (by omega)) (by omega)⟩);rw[i64_in (n - 1) (by omega)];refine ih (n - 1) hn I a c h N1 _ λk' t t1 n' y y1 y2 y3 aj c' a' ak c2 i2 Y N2 al ac ae _ _ _ _=>⟨⟨rfl,rfl⟩,λa1 N3 am _=>⟨⟨rfl,rfl⟩,by unfold zC;rw[oJ];simp only[oO,oU];omega,λc3=>?_⟩⟩
   rw[i64_in ((k:Int)+1) (by omega)];exact ab (k+1) _ c3 _ _ _ _ _ _ (by omega) (by omega) (by simp[h3]) (by omega) ac ((hp.snoc (ae.some _ _ _ _) (by omega)).mono (by rw[nD,mr];omega))
theorem T5 {b:Int} {X:Nat} (hb:b<=1000) (hX:15<=X) (ih:OT b X) {E:Env} {N:Nat} {Q:QT [.pk,.i,.str,.str,.i,.dc,.dc,.dc,.dc,.row 29 9,.sl 0,.i,.i]} {n:Int} (hn:n - 1<=b) (J:2<=n) (kd n3:Int) {s I:ByteArray} (hs:s.size<=1000) (O:I.size<=1000) (U Y:D) (hT:SmT 7 (.ag [(D.j 0),(D.sl none 2 [] 0)])) (hR:SmT 7 (.ag [U,Y]))
  (hQ:∀ k s I n' x x1 x2 x3 r q a es c i h N',N<=N'->Cu es i->PkT (15+3*(4*X)) s I x x1 x2 x3 r->r.length<=3->Q k s I n' x x1 x2 x3 r q a es c i h N') {es:List D} {i:Int} (aa:Cu es i) (a:Option Addr) (c:Nat) (h:Int) {N':Nat} (ab:N<=N') :
  vH E Q N n a es c i h 0 (bytes []) (bytes []) 0 0 none [] 0 0 none [] 0 none [] 0 kd s I n3 0 none [] 0 U Y 0 0 [] 0 N':=by
 refine CB _ _ _ _ _ _ _ _ _ _ _ _ _ _ _ _ _ _ _ _ _ _ _ _ _ _ _ _ _ _ _ _ _ _ _ _ _ _ _ ⟨⟨rfl,rfl⟩,λa7 _ N1 ac _=>wN N1 _ λN2 ae _=>UE hb hX ih hn J kd n3 s I U Y (sw _ _) (λr q a es c i h N'=>hQ _ _ _ _ _ _ _ _ r q a es c i h N') 3 0 [] 0 a es c i h N2 (by have:=sw kd s;omega) (by omega) rfl (by omega) aa ((IT hs O hT hR).mono (by omega))⟩
theorem Sw {b:Int} {X:Nat} (hb:b<=1000) (hX:15<=X) (ih:OT b X) {E:Env} {N:Nat} {Q:QT [.pk,.i,.str,.str,.i,.dc,.dc,.dc,.dc,.row 29 9,.sl 0,.i,.i]} {n:Int} (hn:n - 1<=b) (ah:2<=n) (kd n3:Int) (s J:ByteArray) {Y:Int} (hm:Y<=3)
  (hQ:∀ r q a es c i h N',N<=N'->Cu es i->PkT (15+3*(4*X)) s J (D.j 0) (D.sl none 2 [] 0) (D.j 0) (D.sl none 2 [] 0) r->r.length<=3->Q kd s J n3 (D.j 0) (D.sl none 2 [] 0) (D.j 0) (D.sl none 2 [] 0) r q a es c i h N') :
  ∀(rem k:Nat) (r:List D) (q:Nat) a es c i h N',Y<=k+rem->k<=3->r.length=k->N<=N'->Cu es i->PkT (15+k*(4*X)) s J (D.j 0) (D.sl none 2 [] 0) (D.j 0) (D.sl none 2 [] 0) r->xd E Q N n Y k a es c i h 0 (bytes []) (bytes []) 0 0 none [] 0 0 none [] 0 none [] 0 kd s J n3 0 none [] 0 0 none [] 0 r.length q r q N':=by
 intro rem
 induction rem with
 | zero=>intro k r q a es c i h N' h1 O h3 h4 I U;have hk:k*(4*X)<=3*(4*X):=od _ O;refine sV _ _ _ _ _ _ _ _ _ _ _ _ _ _ _ _ _ _ _ _ _ _ _ _ _ _ _ _ _ _ _ _ _ _ _ _ _ _ _ _ _ _ _ (Br.dec (λg=>by omega) λ_=>⟨wK,⟨rfl,rfl⟩,λN4 aa=>hQ _ _ _ _ _ _ _ _ (by omega) I (U.mono (by omega)) (by omega)⟩)
 | succ rem ab=>
   intro k r q a es c i h N' h1 O h3 h4 I U;have hk:k*(4*X)<=3*(4*X):=od _ O;refine sV _ _ _ _ _ _ _ _ _ _ _ _ _ _ _ _ _ _ _ _ _ _ _ _ _ _ _ _ _ _ _ _ _ _ _ _ _ _ _ _ _ _ _ (Br.dec (λg N1 ai=>?_) λ_=>⟨wK,⟨rfl,rfl⟩,λN4 aa=>hQ _ _ _ _ _ _ _ _ (by omega) I (U.mono (by omega)) (by omega)⟩);rw[i64_in (n - 1) (by omega)];refine ih (n - 1) hn I a c h N1 _ λk' t t1 n' y y1 y2 y3 aj c' a' ak c2 i2 O N2 al ac ae _ _ _ _=>⟨⟨rfl,rfl⟩,λa1 N3 am _=>⟨⟨rfl,rfl⟩,by unfold zC;rw[oJ];simp only[oO,oU];omega,λc3=>?_⟩⟩
   rw[i64_in ((k:Int)+1) (by omega)];exact ab (k+1) _ c3 _ _ _ _ _ _ (by omega) (by omega) (by simp[h3]) (by omega) ac ((U.snoc (ae.some _ _ _ _) (by omega)).mono (by rw[nD,mr];omega))
theorem Tj {b:Int} {X:Nat} (hb:b<=1000) (hX:15<=X) (ih:OT b X) {E:Env} {N:Nat} {Q:QT [.pk,.i,.str,.str,.i,.dc,.dc,.dc,.dc,.row 29 9,.sl 0,.i,.i]} {n:Int} (hn:n - 1<=b) (J:2<=n) (kd Y:Int) {s I:ByteArray} (hs:s.size<=1000) (O:I.size<=1000) (hT:SmT 7 (.ag [(D.j 0),(D.sl none 2 [] 0)])) (hR:SmT 7 (.ag [(D.j 0),(D.sl none 2 [] 0)]))
  (hQ:∀ k s I n' x x1 x2 x3 r q a es c i h N',N<=N'->Cu es i->PkT (15+3*(4*X)) s I x x1 x2 x3 r->r.length<=3->Q k s I n' x x1 x2 x3 r q a es c i h N') {es:List D} {i:Int} (U:Cu es i) (a:Option Addr) (c:Nat) (h:Int) {N':Nat} (aa:N<=N') :
  vT E Q N n a es c i h 0 (bytes []) (bytes []) 0 0 none [] 0 0 none [] 0 none [] 0 kd s I Y 0 none [] 0 0 none [] 0 0 0 [] 0 N':=by
 refine Cj _ _ _ _ _ _ _ _ _ _ _ _ _ _ _ _ _ _ _ _ _ _ _ _ _ _ _ _ _ _ _ _ _ _ _ _ _ _ _ _ _ ⟨⟨rfl,rfl⟩,λa7 _ N1 ab _=>wN N1 _ λN2 ac _=>Sw hb hX ih hn J kd Y s I  (sw _ _) (λr q a es c i h N'=>hQ _ _ _ _ _ _ _ _ r q a es c i h N') 3 0 [] 0 a es c i h N2 (by have:=sw kd s;omega) (by omega) rfl (by omega) U ((IT hs O hT hR).mono (by omega))⟩
theorem Xe {b:Int} {X:Nat} (hb:b<=1000) (hX:15<=X) (ih:OT b X) {E:Env} {N:Nat} {Q:QT [.pk,.i,.str,.str,.i,.dc,.dc,.dc,.dc,.row 29 9,.sl 0,.i,.i]} {n:Int} (hn:n - 1<=b) (I:2<=n) (kd n3:Int) {s:ByteArray} (hs:s.size<=1000) (O U:D) (hT:SmT 7 (.ag [O,U]))
  (hQ:∀ k s s1 n' x x1 x2 x3 r q a es c i h N',N<=N'->Cu es i->PkT (15+3*(4*X)) s s1 x x1 x2 x3 r->r.length<=3->Q k s s1 n' x x1 x2 x3 r q a es c i h N') {es:List D} {i:Int} (J:Cu es i) (a:Option Addr) (c:Nat) (h:Int) {N':Nat} (aa:N<=N') :
  vM E Q N n a es c i h 0 (bytes []) (bytes []) 0 0 none [] 0 0 none [] 0 none [] 0 kd s (bytes []) n3 O U 0 none [] 0 0 0 [] 0 N':=by
 refine F4 _ _ _ _ _ _ _ _ _ _ _ _ _ _ _ _ _ _ _ _ _ _ _ _ _ _ _ _ _ _ _ _ _ _ _ _ _ _ _ (Br.beq (λ_ N1 ae=>?_) λ_=>TV hb hX ih hn I kd n3 hs (by decide) O U hT Mm hQ J a c h aa);refine qL (l:=[bytes [122],bytes [119]]) J (by decide) (by decide) a c h 2 2 N1 _ λt a1 ah c1 i1 h1 N2 ai ab Y _ _ _ N3 aj=>?_;have Y:t.size<=1000:=by simp only[oF,oZ,nh]at Y;rcases Y with rfl | rfl<;>decide
 exact L0 2 (by omega) ab a1 c1 h1 N3 _ λd a2 ak c2 i2 h2 N4 al ac hd _ _ _ _=>Yo hb hX ih hn I kd n3 hs Y O U _ _ hT (hd.cells.mono (by omega)) hQ ac a2 c2 h2 (by omega)
theorem Tx {b:Int} {X:Nat} (hb:b<=1000) (hX:15<=X) (ih:OT b X) {E:Env} {N:Nat} {Q:QT [.pk,.i,.str,.str,.i,.dc,.dc,.dc,.dc,.row 29 9,.sl 0,.i,.i]} {n:Int} (hn:n - 1<=b) (I:2<=n) (kd U:Int) {s:ByteArray} (hs:s.size<=1000) (hT:SmT 7 (.ag [(D.j 0),(D.sl none 2 [] 0)]))
  (hQ:∀ k s s1 n' x x1 x2 x3 r q a es c i h N',N<=N'->Cu es i->PkT (15+3*(4*X)) s s1 x x1 x2 x3 r->r.length<=3->Q k s s1 n' x x1 x2 x3 r q a es c i h N') {es:List D} {i:Int} (J:Cu es i) (a:Option Addr) (c:Nat) (h:Int) {N':Nat} (Y:N<=N') :
  vX E Q N n a es c i h 0 (bytes []) (bytes []) 0 0 none [] 0 0 none [] 0 none [] 0 kd s (bytes []) U 0 none [] 0 0 none [] 0 0 0 [] 0 N':=by
 refine CU _ _ _ _ _ _ _ _ _ _ _ _ _ _ _ _ _ _ _ _ _ _ _ _ _ _ _ _ _ _ _ _ _ _ _ _ _ _ _ _ _ (Br.beq (λ_ N1 ac=>?_) λ_=>Tj hb hX ih hn I kd U hs (by decide) hT Mm hQ J a c h Y);refine qL (l:=[bytes [122],bytes [119]]) J (by decide) (by decide) a c h 2 2 N1 _ λt a1 ae c1 i1 h1 N2 ah aa O _ _ _ N3 ai=>?_;have O:t.size<=1000:=by simp only[oF,oZ,nh]at O;rcases O with rfl | rfl<;>decide
 exact L0 2 (by omega) aa a1 c1 h1 N3 _ λd a2 aj c2 i2 h2 N4 ak ab hd _ _ _ _=>T5 hb hX ih hn I kd U hs O _ _ hT (hd.cells.mono (by omega)) hQ ab a2 c2 h2 (by omega)
theorem Jk {b:Int}{X:Nat}(hb:b<=1000)(hX:15<=X)(ih:OT b X):OT (b+1) (15+3*(4*X)):=λn hn es i J a c h N Q hQ=>by
 have lf:∀(E:Env) {es:List D} {i:Int} (_:Cu es i) a c h N1,N<=N1->BCalls prog 69 [.pk,.i,.str,.str,.i,.dc,.dc,.dc,.dc,.row 29 9,.sl 0,.i,.i] [.pb 0 0 0 0] [.var [.sv a 0 es c,.j i,.j h]] N1 (λn s ao ab x aq au aw es c a Y aa ac ax N2=>N1<=N2->Bel N2 (D.sl a 0 Y aa)->Bel N2 (D.ag es)->xQ E [.var [.sv none 0 [] 0,.j 0,.j 0]]/\(es.length=es.length/\c=c)/\∀ N3,N2<=N3->Q n s ao ab x aq au aw es c a Y aa ac ax N3):=λE es i J a c h N1 ae=>Uj J a c h N1 _ λk s s1 n' x x1 x2 x3 r q a' ba c' i' h' N2 ay az hp hr _ _ _=>⟨wK,⟨rfl,rfl⟩,λN3 al=>hQ _ _ _ _ _ _ _ _ _ _ _ _ _ _ _ _ (by omega) az (hp.mono (by omega)) hr⟩
 refine qw N n a es c i h Q λE _=>Br.dec (λ_ N1 ae=>lf E J a c h N1 ae) λbc N1 ae=>Ap J 5 (by omega) a c h N1 _ λb1 a1 bg c1 i1 h1 N2 ay am _ _=>Br.of (λ_ N3 al=>lf E am a1 c1 h1 N3 (by omega)) λ_ N3 al=>?_;refine pJ (l:=[4,5,6,7,8,9,10,11,12,13,10,4]) am (by decide) (by decide) a1 c1 h1 12 12 N3 _ λkd a2 ah c2 i2 h2 N4 bh U _ _ _ _=>?_;have ai:∀ {s:ByteArray} (_:s.size<=1000) {es:List D} {i:Int} (_:Cu es i) a c h N',N<=N'->yI E Q N n a es c i h 0 (bytes []) (bytes []) 0 0 none [] 0 0 none [] 0 none [] 0 kd s (bytes []) 0 0 none [] 0 0 none [] 0 0 0 [] 0 N':=λhs es i J a c h N' a6=>by refine Ey _ _ _ _ _ _ _ _ _ _ _ _ _ _ _ _ _ _ _ _ _ _ _ _ _ _ _ _ _ _ _ _ _ _ _ _ _ _ _ _ _ (Br.beq (λ_ O I=>L0 2 (by omega) J a c h O _ λd a2 ah c2 i2 h2 N6 aj U hd _ _ _ _=>Xe hb hX ih (by omega) (by omega) kd 0 hs _ _ (hd.cells.mono (by omega)) hQ U a2 c2 h2 (by omega)) λ_=>Br.beq (λ_ O I=>L0 2 (by omega) J a c h O _ λd a2 ah c2 i2 h2 N6 aj U hd _ _ _ _=>Xe hb hX ih (by omega) (by omega) kd 0 hs _ _ (hd.cells.mono (by omega)) hQ U a2 c2 h2 (by omega)) λ_=>Tx hb hX ih (by omega) (by omega) kd 0 hs Mm hQ J a c h a6)
 have L3:∀ O,N4<=O->BCalls prog 40 [.str,.sl 0,.i,.i,.sl 0] [.pb 0 0 0 0,.sb 1 0 0 3 3] [.var [.sv a2 0 ah c2,.j i2,.j h2],.arr 9 0 (zA [bytes [120],bytes [121],bytes [102]]) 3] O (λs a es c ab ac a7 Y aa N6=>O<=N6->Bel N6 (D.sl a 0 es c)->Bel N6 (D.sl a7 0 Y aa)->yI E Q N n a es c ab ac 0 (bytes []) (bytes []) 0 0 none [] 0 0 none [] 0 none [] 0 kd s (bytes []) 0 0 none [] 0 0 none [] 0 0 0 [] 0 N6):=λO I=>qL (l:=[bytes [120],bytes [121],bytes [102]]) U (by decide) (by decide) a2 c2 h2 3 3 O _ λt a3 a8 c3 i3 h3 N6 aj ak ht _ _ _=>ai (by simp only[oF,oZ,nh]at ht;rcases ht with rfl | rfl | rfl<;>decide) ak a3 c3 h3 N6 (by omega);refine Br.beq (λ_ O I=>?_) λ_=>Br.beq (λ_ O I=>L3 O I) λ_=>Br.beq (λ_ O I=>L3 O I) λ_=>Br.beq (λ_ O I=>L3 O I) λ_=>ai (by decide) U a2 c2 h2 N4 (by omega);refine qL (l:=[bytes [43],bytes [45],bytes [42],bytes [61],bytes [60],bytes [38],bytes [124],bytes [33]]) U (by decide) (by decide) a2 c2 h2 8 8 O _ λt a3 a8 c3 i3 h3 N6 aj ak ht _ _ _=>ai ?_ ak a3 c3 h3 N6 (by omega);simp only[oF,oZ,nh]at ht;rcases ht with rfl | rfl | rfl | rfl | rfl | rfl | rfl | rfl<;>decide
theorem UM:OT 4 28275:=by have h:=Jk (b:=3) (by omega) (by omega) (Jk (b:=2) (by omega) (by omega) (Jk (b:=1) (by omega) (by omega) Wa));exact λn hn es i I a c J N Q O=>h n (by omega) I a c J N Q λk s s1 n' x x1 x2 x3 r q a' U c' i' J N' Y h2 h3 h4=>O _ _ _ _ _ _ _ _ _ _ _ _ _ _ _ _ Y h2 (h3.mono (by omega)) h4
theorem Rd {es:List D} {i:Int} (ah:Cu es i) (a:Option Addr) (c:Nat) (h:Int) (N:Nat) (Q:QT [.ag 9,.sl 0,.i,.i])
  (hQ:∀ d' a' ae c' i' h' N',N<=N'->Cu ae i'->Some 30000 d'->Q d' a' ae c' i' h' N'):BCalls prog 21 [.ag 9,.sl 0,.i,.i] [.pb 0 0 0 0] [.var [.sv a 0 es c,.j i,.j h]] N Q:=by
 have z:PkT 15 (bytes [120]) (bytes []) (D.j 0) (D.sl none 2 [] 0) (D.j 0) (D.sl none 2 [] 0) []:=IT (by decide) (by decide) Mm Mm;refine EC N a es c i h Q λE _ N1 al=>xo ah 4 (by omega) a c h N1 _ λx a1 am c1 i1 h1 N2 ao ai x0 x1 _ _ _ N3 aq=>?_;have x1:=x1 (by omega);rw[i64_in (1+x) (by omega)];refine UM (1+x) (by omega) ai a1 c1 h1 N3 _ λk s s1 n y y1 y2 y3 r q a2 au c2 i2 h2 N4 aw aj hp hr _ _ _ N5 ax=>?_;refine xo aj 14 (by omega) a2 c2 h2 N5 _ λz1 a3 ay c3 i3 h3 N6 az O _ _ _ _ _=>Br.beq (λ_ N7 aa=>?_) λ_=>Br.beq (λ_ N7 aa=>?_) λ_=>Br.beq (λ_ N7 aa=>?_) λ_=>Br.beq (λ_ N7 aa=>?_) λ_=>Br.beq (λ_ N7 aa=>?_) λ_=>Br.beq (λ_ N7 aa=>?_) λ_=>?_
 ·exact xo O 15 (by omega) a3 c3 h3 N7 _ λw a4 ac c4 i4 h4 N8 ab J _ _ _ _ _=>⟨⟨rfl,rfl⟩,⟨rfl,rfl⟩,⟨rfl,rfl⟩,⟨rfl,rfl⟩,λa5 N9 U _=>⟨wK,λY I=>hQ _ _ _ _ _ _ _ (by omega) J ((hp.some _ _ _ _).mono (by omega))⟩⟩
 ·exact pJ (l:=[0,1,10006,10007, -1]) O (by decide) (by decide) a3 c3 h3 5 5 N7 _ λw a4 ac c4 i4 h4 N8 ab J _ _ _ _=>⟨⟨rfl,rfl⟩,⟨rfl,rfl⟩,⟨rfl,rfl⟩,⟨rfl,rfl⟩,λa5 N9 U _=>⟨wK,λY I=>hQ _ _ _ _ _ _ _ (by omega) J ((hp.some _ _ _ _).mono (by omega))⟩⟩
 ·refine qL (l:=[bytes [],bytes [120],bytes [108,101,116],bytes [97,98,99,100,101],bytes [43]]) O (by decide) (by decide) a3 c3 h3 5 5 N7 _ λw a4 ac c4 i4 h4 N8 ab J hw _ _ _=>⟨⟨rfl,rfl⟩,⟨rfl,rfl⟩,⟨rfl,rfl⟩,⟨rfl,rfl⟩,λa5 N9 U _=>⟨wK,λY I=>hQ _ _ _ _ _ _ _ (by omega) J (((hp.name ?_).some _ _ _ _).mono (by omega))⟩⟩
  simp only[oF,oZ,nh]at hw;rcases hw with rfl | rfl | rfl | rfl | rfl<;>decide
 ·exact Af N7 _ _ λN8 ab _ _=>⟨⟨rfl,rfl⟩,λa5 N9 U _=>⟨⟨rfl,rfl⟩,by unfold zC;rw[oJ];simp only[oO,oU];omega,λc9=>⟨⟨rfl,rfl⟩,⟨rfl,rfl⟩,⟨rfl,rfl⟩,⟨rfl,rfl⟩,λa6 Y I _=>⟨wK,λa7 ak=>hQ _ _ _ _ _ _ _ (by omega) O (((hp.snoc (z.some _ _ _ _) (by omega)).some _ _ _ _).mono (by omega))⟩⟩⟩⟩
 ·exact Vi O a3 c3 h3 N7 _ λw a4 ac c4 i4 h4 N8 ab J hw _ _ _=>⟨⟨rfl,rfl⟩,⟨rfl,rfl⟩,⟨rfl,rfl⟩,⟨rfl,rfl⟩,λa5 N9 U _=>⟨wK,λY I=>hQ _ _ _ _ _ _ _ (by omega) J (((hp.type hw.cells).some _ _ _ _).mono (by omega))⟩⟩
 ·refine qL (l:=[bytes [120],bytes [122]]) O (by decide) (by decide) a3 c3 h3 2 2 N7 _ λw a4 ac c4 i4 h4 N8 ab J hw _ _ _=>⟨⟨rfl,rfl⟩,⟨rfl,rfl⟩,⟨rfl,rfl⟩,⟨rfl,rfl⟩,λa5 N9 U _=>⟨wK,λY I=>hQ _ _ _ _ _ _ _ (by omega) J (((hp.other ?_).some _ _ _ _).mono (by omega))⟩⟩
  simp only[oF,oZ,nh]at hw;rcases hw with rfl | rfl<;>decide
 ·exact⟨⟨rfl,rfl⟩,⟨rfl,rfl⟩,⟨rfl,rfl⟩,⟨rfl,rfl⟩,λa5 N9 U _=>⟨wK,λY I=>hQ _ _ _ _ _ _ _ (by omega) O ((hp.some _ _ _ _).mono (by omega))⟩⟩
end Go.Proofs.YtligajflgjpdnaaGreatDoor
set_option maxRecDepth 100000
namespace Go.Proofs.YtligajflgjpdnaaGreatDoor
open Go Go.Proofs Go.Proofs.Tryz Go.IntWalk
def WfD (m:Nat)(d:D):Prop:=∃ t:Ty,Wf t/\t.Is d/\t.cnt<=m
theorem WfD.mono {m n:Nat}{d:D}(h:WfD m d)(O:m<=n):WfD n d:=by obtain⟨t,I,J,U⟩:=h;exact⟨t,I,J,by omega⟩
theorem Uz (n:Int) {es:List D} {i:Int} (U:Cu es i) (a:Option Addr) (c:Nat) (h:Int) (N:Nat) (Q:QT [.ag 2,.sl 0,.i,.i])
  (hQ:∀ d' a' aj c' i' h' N',N<=N'->Cu aj i'->WfD 3 d'->Q d' a' aj c' i' h' N'):BCalls prog 115 [.ag 2,.sl 0,.i,.i] [.pb 0 0 0 0,.j n] [.var [.sv a 0 es c,.j i,.j h]] N Q:=by
 refine D9 N n a es c i h Q λE _ N1 a7=>ww N1 _ λx N2 a8 hx _ _ _=>?_;have i3:WfD 3 x:=⟨_,.int,hx,by decide⟩
 have fn:∀ I,ACalls prog 73 [.ag 2] [.dg 2 x,.dg 2 x] I (λy N4=>I<=N4->Bel N4 y->xQ E [.var [.sv none 0 [] 0,.j 0,.j 0]]/\∀ Y,N4<=Y->WfD 3 y/\I<=Y):=λI=>uW tInt tInt x x hx hx (by decide) (by decide) I _ λy N4 ak hy _ _ _=>⟨wK,λY ab=>⟨⟨_,.fn .int .int,hy,by decide⟩,by omega⟩⟩
 have last:∀ {es:List D} {i:Int} (_:Cu es i) a c h I,N2<=I->BCalls prog 20 [.bool,.sl 0,.i,.i] [.pb 0 0 0 0,.j 3] [.var [.sv a 0 es c,.j i,.j h]] I (λay ac J ae al am aa=>I<=aa->Bel aa (D.sl ac 0 J ae)->Br ay (∀ ah,aa
  <= ah->ACalls prog 73 [.ag 2] [.dg 2 x,.dg 2 x] ah (λao ai=>ah<=ai->Bel ai ao->xQ E [.var [.sv none 0 [] 0,.j 0,.j 0]]
  /\ ∀ aq,ai<=aq->Q ao ac J ae al am aq)) (xQ E [.var [.sv none 0 [] 0,.j 0,.j 0]]/\∀ au,aa<=au->Q x ac J ae al
  am au)):=λ{es i} U a c h I aw=>Ap U 3 (by omega) a c h I _ λb a1 az c1 i1 h1 N4 ak O _ _=>Br.of (λ_ Y ab=>uW tInt tInt x x hx hx (by decide) (by decide) Y _ λy N6 a6 hy _ _ _=>⟨wK,λN7 ax=>hQ _ _ _ _ _ _ _ (by omega) O ⟨_,.fn .int .int,hy,by decide⟩⟩) λ_=>⟨wK,λN7 ax=>hQ _ _ _ _ _ _ _ (by omega) O i3⟩
 refine Br.of (λ_ I aw=>?_) λ_ I aw=>last U a c h I (by omega);exact Ap U 2 (by omega) a c h I _ λb a1 az c1 i1 h1 N4 ak O _ _=>Br.of (λ_ Y ab=>ve tInt x hx (by decide) Y _ λy N6 a6 hy _ _ _=>⟨wK,λN7 ax=>hQ _ _ _ _ _ _ _ (by omega) O ⟨_,.code .int,hy,by decide⟩⟩) λ_ Y ab=>last O a1 c1 h1 Y (by omega)
def O5 (k S:Nat):Prop:=∀(t:Ty) (_:Wf t) (_:t.cnt+k<=10) {d:D} (_:t.Is d) {g:List Tg} {I:List D} (_:Ctx g I) (_:g.length+k<=1000) (_:∀ x∈g,x.ty.cnt<=1000) (n:Int) (a0:Option Addr) (O:Nat) {es:List D} {i:Int} (_:Cu es i) (a:Option Addr) (c:Nat) (h:Int) (N:Nat) (Q:QT [.ag 9,.sl 0,.i,.i])
    (_:∀ d' U J Y i' h' N',N<=N'->Cu J i'->Some S d'->Q d' U J Y i' h' N'),
    BCalls prog 44 [.ag 9,.sl 0,.i,.i] [.pb 0 0 0 0,.sv a0 4 I O,.dg 2 d,.j n,.j k] [.var [.sv a 0 es c,.j i,.j h]] N Q
theorem OC {m:Nat}{x y:D}(I:Some m x)(J:Some m y):∀ d∈[x,y],Some m d:=λd hd=>by simp only[oF,oZ,nh]at hd;rcases hd with rfl | rfl<;>assumption
theorem Ei {m:Nat}{x:D}(I:Some m x):∀ d∈[x],Some m d:=λd hd=>by rw[oV]at hd;subst hd;exact I
theorem rN {l:List ByteArray}{s:ByteArray}(h:s∈l)(I:(l.all λs=>decide (s.size<=1000))=true):s.size<=1000:=by
 have:=oY.1 I s h
 simpa using this
theorem X5 {k S:Nat} (hk:k<=5) (hS:S<=100000000) (hG:O5 k S) {t:Ty} {d:D} (hd:t.Is d) {g:List Tg} {U:List D} (am:Ctx g U) (hg:g.length+k<=1000) (ao:∀ x∈g,x.ty.cnt<=1000) (n:Int) (a0:Option Addr) (c0:Nat) {es:List D} {i:Int} (ac:Cu es i) (a:Option Addr) (c:Nat) (h:Int) (N:Nat) (Q:QT [.ag 9,.sl 0,.i,.i])
  (hQ:∀ d' a' a6 c' i' h' N',N<=N'->Cu a6 i'->Some (3+2*S) d'->Q d' a' a6 c' i' h' N') :
  BCalls prog 78 [.ag 9,.sl 0,.i,.i] [.pb 0 0 0 0,.sv a0 4 U c0,.dg 2 d,.j n,.j ((k+1:Nat):Int)] [.var [.sv a 0 es c,.j i,.j h]] N Q:=by
 obtain⟨kt,l,rfl⟩:∃ k l,t=Ty.mk k l:=by cases t;exact⟨_,_,rfl⟩
 obtain⟨ta,b2,tc,rfl,_,_⟩:=Ty.is_mk.1 hd;have ek:IntKind.i64.wrap (((k+1:Nat):Int) - 1)=(k:Int):=by rw[i64_in _ (by omega)];omega
 have ci:tInt.cnt+k<=10:=by have:tInt.cnt=1:=rfl;omega
 have cb:tBool.cnt+k<=10:=by have:tBool.cnt=1:=rfl;omega
 refine EW N a0 U c0 _ n _ a es c i h Q λE _ _ _ N1 b3=>ww N1 _ λx N2 b4 hx _ _ _ N3 b5=>u6 N3 _ λy N4 b6 hy _ _ _=>⟨kt,rfl,?_⟩
 rw[ek];have bin:∀ {u:Ty} {z:D} (_:Wf u) (_:u.cnt+k<=10) (_:u.Is z) {s:ByteArray} (_:s.size<=1000) {es:List D} {i:Int} (_:Cu es i) a c h N5,N4<=N5->BCalls prog 44 [.ag 9,.sl 0,.i,.i] [.pb 0 0 0 0,.sv a0 4 U c0,.dg 2 z,.j n,.j k] [.var [.sv a 0 es c,.j i,.j h]] N5 (λae a7 ak a8 bp bq N8=>N5<=N8->Bel N8 ae->Bel N8 (D.sl a7 0 ak a8)->∀ Y,N8<=Y->BCalls prog 44 [.ag 9,.sl 0,.i,.i] [.pb 0 0 0 0,.sv
   a0 4 U c0,.dg 2 z,.j n,.j k] [Bx.var [.sv a7 0 ak a8,.j bp,.j bq]] Y (λah ba al bc bt
   bv J=>Y<=J->Bel J ah->Bel J (D.sl ba 0 al bc)->(2=([ae,ah]).length/\2=2)/\∀ ai,ApA ai [ae,ah]->∀ O,J<=O->w8
   O [ai]->ACalls prog 119 [.ag 9] [.str s,.sv ai 9 [ae,ah] 2] O (λaq au=>O<=au->Off [ai] aq/\(Bel au aq->xQ E [.var [.sv none
   0 [] 0,.j 0,.j 0]]/\∀ bg,au<=bg->Q aq ba al bc bt bv bg)))):=λ{u z} hw hc hz {s} hs {es i} ac a c h N5 bh=>
  hG _ hw hc hz am hg ao n a0 c0 ac a c h N5 _ λx2 a2 aw c2 i2 h2 N6 bi I ax _ _ _ N7 aj=>hG _ hw hc hz am hg ao n a0 c0 I a2 c2 h2 N7 _ λx3 a3 b7 c3 i3 h3 N8 ay bw bz _ _ _=>⟨⟨rfl,rfl⟩,λa4 _ Y az aa=>Zn (by omega) (by omega) (OC ax bz) (by simp) a4 2 Y _ λw J bj hw ho _=>⟨uC aa ho,λ_=>⟨wK,λO bm=>hQ _ _ _ _ _ _ _ (by omega) bw (hw.mono (by simp))⟩⟩⟩
 refine Br.of (λ_ N5 bh=>?_) λ_ N5 bh=>?_
 ·exact qL (l:=[bytes [43],bytes [42],bytes [45],bytes [43]]) ac (by decide) (by decide) a c h 4 4 N5 _ λs a1 b1 c1 i1 h1 N6 bi ab hs _ _ _ N7 aj=>bin .int ci hx (rN hs (by decide)) ab a1 c1 h1 N7 (by omega)
 ·refine xo ac 4 (by omega) a c h N5 _ λr a1 b1 c1 i1 h1 N6 bi ab _ _ _ _ _=>Br.of (λ_ N7 aj=>?_) λ_=>Br.of (λ_ N7 aj=>?_) λ_ N7 aj=>?_
  ·exact hG _ .bool cb hy am hg ao n a0 c0 ab a1 c1 h1 N7 _ λx2 a2 aw c2 i2 h2 N8 ay I ax _ _ _=>⟨⟨rfl,rfl⟩,λa4 _ Y az aa=>Zn (by decide) (by omega) (Ei ax) (by simp) a4 1 Y _ λw J bj hw ho _=>⟨uC aa ho,λ_=>⟨wK,λO bm=>hQ _ _ _ _ _ _ _ (by omega) I (hw.mono (by simp;omega))⟩⟩⟩
  ·exact qL (l:=[bytes [38],bytes [124]]) ab (by decide) (by decide) a1 c1 h1 2 2 N7 _ λs a2 aw c2 i2 h2 N8 ay I hs _ _ _ Y az=>bin .bool cb hy (rN hs (by decide)) I a2 c2 h2 Y (by omega)
  ·exact qL (l:=[bytes [61],bytes [60]]) ab (by decide) (by decide) a1 c1 h1 2 2 N7 _ λs a2 aw c2 i2 h2 N8 ay I hs _ _ _ Y az=>bin .int ci hx (rN hs (by decide)) I a2 c2 h2 Y (by omega)
theorem YK {t:Ty}(O:Wf t):∀ {d:D}(_:t.Is d)(N:Nat)(Q:QT [.i])(_:∀ r N',N<=N'->Q r N'),ACalls prog 117 [.i] [.dg 2 d] N Q:=by
 have yP:∀ {k:Int} {l:List Ty} {d:D} (_:(Ty.mk k l).Is d) (_:k≠4) (N:Nat) (Q:QT [.i]) (_:∀ r N',N<=N'->Q r N'),ACalls prog 117 [.i] [.dg 2 d] N Q:=λ{k l d} hd U N Q I=>by obtain⟨b,fs,c,rfl,_,_⟩:=Ty.is_mk.1 hd;exact CW N _ Q λ_=>⟨k,rfl,Br.beq (λh=>absurd h U) λ_ N4 J=>I _ _ J⟩
 induction O with
 | int=>exact λhd=>yP hd (by decide)
 | bool=>exact λhd=>yP hd (by decide)
 | fn _ _ _ _=>exact λhd=>yP hd (by decide)
 | @code u _ Y=>intro d hd N Q I;obtain⟨b,fs,c,rfl,_,d1,_,rfl,h3,rfl⟩:=Ty.is_mk.1 hd;exact CW N _ Q λ_=>⟨4,rfl,Br.beq (λ_=>⟨_,_,_,rfl,⟨by simp,by simp⟩,λN1 aa=>Y h3 N1 _ λr N2 ab _ N3 ac=>I _ _ (by omega)⟩) λh=>absurd rfl h⟩
theorem Sy {g:List Tg}{m M:Nat}(O:g.length+m<=M)(I:∀ x∈g,x.ty.cnt<=1000)(n:Int):(rH g n).length+m<=M/\∀ x∈rH g n,x.ty.cnt<=1000:=by have h:=C8 g n g 0;exact⟨by have U:=h.2;show(vo g n g 0).length+m<=M;omega,λx J=>I x (h.1 x J)⟩
theorem Jg {g:List Tg}{k:Nat}(O:g.length+(k+1)<=1000)(I:∀ x∈g,x.ty.cnt<=1000){y:Tg}(J:y.ty.cnt<=1000):(g++[y]).length+k<=1000/\∀ x∈g++[y],x.ty.cnt<=1000:=by
 refine⟨by simp;omega,λx hx=>?_⟩;rcases oK.1 hx with hx | hx
 ·exact I x hx
 ·rw[oV]at hx;subst hx;exact J
theorem Zg {k S:Nat} (hk:k<=5) (ct:1600<=S) (hS:S<=100000000) (hG:O5 k S) {t:Ty} (hw:Wf t) (hc:t.cnt+(k+1)<=10) {d:D} (hd:t.Is d) {g:List Tg} {bt:List D} (J:Ctx g bt) (hg:g.length+(k+1)<=1000) (I:∀ x∈g,x.ty.cnt<=1000) (n:Int) (a0:Option Addr) (c0:Nat) {es:List D} {i:Int} (bv:Cu es i) (a:Option Addr) (c:Nat) (h:Int) (N:Nat) (Q:QT [.ag 9,.sl 0,.i,.i])
  (hQ:∀ d' a' b2 c' i' h' N',N<=N'->Cu b2 i'->Some (5*S) d'->Q d' a' b2 c' i' h' N') :
  BCalls prog 77 [.ag 9,.sl 0,.i,.i] [.pb 0 0 0 0,.sv a0 4 bt c0,.dg 2 d,.j n,.j ((k+1:Nat):Int)] [.var [.sv a 0 es c,.j i,.j h]] N Q:=by
 have ek:IntKind.i64.wrap (((k+1:Nat):Int) - 1)=(k:Int):=by rw[i64_in _ (by omega)];omega
 have cb:tBool.cnt+k<=10:=by have:tBool.cnt=1:=rfl;omega
 have cc:(xZ t).cnt+k<=10:=by have:(xZ t).cnt=1+(t.cnt+0):=rfl;omega
 have aa:g.length+k<=1000:=by omega
 have e3:∀ x y z:D,∀ {m:Nat},Some m x->Some m y->Some m z->∀ d∈[x,y,z],Some m d:=λx y z m hx hy hz d hd=>by simp only[oF,oZ,nh]at hd;rcases hd with rfl | rfl | rfl<;>assumption
 refine Ft N a0 bt c0 d n _ a es c i h Q λE _ _ _ N1 cy=>qL (l:=[bytes [120],bytes [121],bytes [122]]) bv (by decide) (by decide) a c h 3 3 N1 _ λs a1 cz c1 i1 h1 N2 c8 b9 hs _ _ _ N3 c9=>xo b9 5 (by omega) a1 c1 h1 N3 _ λr a2 ca c2 i2 h2 N4 da al _ _ _ _ _=>?_;have hs:=rN hs (by decide);rw[ek];have ax:∀ O,N4<=O->BCalls prog 76 [.ag 9,.sl 0,.i,.i] [.pb 0 0 0 0,.dg 2 d,.j n] [.var [.sv a2 0 ca c2,.j i2,.j h2]] O (λx a es c cd ce N6=>O<=N6->Bel N6 x->Bel N6 (D.sl a 0 es c)->xQ E [.var [.sv none 0 [] 0,.j 0,.j 0]]/\∀ U,N6<=U->Q x a es c cd ce U):=λO ab=>Mb hw (by omega) hd n al a2 c2 h2 O _ λx a3 bc c3 i3 h3 N6 ay am hx _ _ _=>⟨wK,λU ao=>hQ _ _ _ _ _ _ _ (by omega) am (hx.mono (by omega))⟩
 have nod:∀(kk:Int) (_:bn kk=0) {x:D} (_:Some S x) {es:List D} {i:Int} (_:Cu es i) a c h O,N4<=O->(1=([x]).length/\1=1)/\∀ bg,ApA bg [x]->∀ N6,O<=N6->w8 N6 [bg]->ACalls prog 82 [.ag 9] [.j kk,.sv bg 9 [x] 1] N6 (λbw U=>N6<=U->Off [bg] bw/\(Bel U bw->xQ E [.var [.sv none 0 [] 0,.j 0,.j 0]]/\∀ N8,U<=N8->Q bw a es c i h N8)):=λkk cf {x} hx {es i} bv a c h O ab=>⟨⟨rfl,rfl⟩,λa4 _ N9 az ac=>Hp kk (by omega) (Ei hx) (by simp) a4 1 N9 _ (λw bh aq hw ho _=>⟨uC ac ho,λ_=>⟨wK,λae au=>hQ _ _ _ _ _ _ _ (by omega) bv (hw.mono (by simp;omega))⟩⟩) cf⟩
 refine Br.of (λ_ O ab=>?_) λ_=>Br.of (λ_ O ab=>?_) λ_=>Br.of (λ_ O ab=>?_) λ_=>Br.of (λ_ O ab=>?_) λ_=>Br.of (λ_ O ab=>?_) λ_ O ab=>ax O ab
 ·refine u6 O _ λy N6 ay hy _ _ _ U ao=>hG _ .bool cb hy J aa I n a0 c0 al a2 c2 h2 U _ λx1 a3 bc c3 i3 h3 N8 bi am cg _ _ _ N9 az=>hG _ hw (by omega) hd J aa I n a0 c0 am a3 c3 h3 N9 _ λx2 a4 bj c4 i4 h4 bh aq Y ch _ _ _ ae au=>hG _ hw (by omega) hd J aa I n a0 c0 Y a4 c4 h4 ae _ λx3 a5 b3 c5 i5 h5 ah ai cj ck _ _ _=>⟨⟨rfl,rfl⟩,λa6 _ ba bm ac=>?_⟩
  exact Hp 5 (by omega) (e3 x1 x2 x3 cg ch ck) (by simp) a6 3 ba _ λw b4 bp hw ho _=>⟨uC ac ho,λ_=>⟨wK,λbz bq=>hQ _ _ _ _ _ _ _ (by omega) cj (hw.mono (by simp;omega))⟩⟩
 ·refine Uz n al a2 c2 h2 O _ λy a3 bc c3 i3 h3 N6 ay am hy _ _ _ U ao=>?_;obtain⟨u,hu,aw,cm⟩:=hy;refine hG _ hu (by omega) aw J aa I n a0 c0 am a3 c3 h3 U _ λx6 a4 bj c4 i4 h4 N8 bi Y cn _ _ _ N9 az=>?_;refine yT J (by omega) a0 c0 (s:=s) (by omega) aw n N9 _ λa5 b3 c5 bh aq aj _ _ ae au=>?_;obtain⟨g2,g3⟩:=Jg hg I (y:=⟨s,u,n⟩) (by show u.cnt<=1000;omega);exact hG _ hw (by omega) hd aj g2 g3 n a5 c5 Y a4 c4 h4 ae _ λx7 a6 co c6 i6 h6 ah ai b1 cp _ _ _ ba bm=>Yv (by omega) (by omega) cn cp ba _ λx8 b4 bp cq _ _=>⟨wK,λbz bq=>hQ _ _ _ _ _ _ _ (by omega) b1 (cq.mono (by omega))⟩
 ·refine Uz n al a2 c2 h2 O _ λy a3 bc c3 i3 h3 N6 ay am hy _ _ _ U ao=>?_;obtain⟨u,hu,aw,cm⟩:=hy;refine yT J (by omega) a0 c0 (s:=s) (by omega) aw n U _ λa5 b3 c5 N8 bi aj _ _ N9 az=>?_;obtain⟨g2,g3⟩:=Jg hg I (y:=⟨s,u,n⟩) (by show u.cnt<=1000;omega);refine hG _ hw (by omega) hd aj g2 g3 n a5 c5 am a3 c3 h3 N9 _ λdb a6 co c6 i6 h6 bh aq b1 b5 _ _ _ ae au=>Vm (by omega) aw (by omega) (by omega) b5 ae _ λde ah ai b6 _ _ ba bm=>?_;exact hG _ hu (by omega) aw J aa I n a0 c0 b1 a6 c6 h6 ba _ λdf a7 dh c7 i7 h7 b4 bp cr b7 _ _ _=>⟨⟨rfl,rfl⟩,λa8 _ bz bq ac=>Hp 7 (m:=5+2*S) (by omega) (OC (b6.mono (by omega)) (b7.mono (by omega))) (by simp) a8 2 bz _ λw di cw hw ho _=>⟨uC ac ho,λ_=>⟨wK,λdj cx=>hQ _ _ _ _ _ _ _ (by omega) cr (hw.mono (by simp;omega))⟩⟩⟩
 ·refine YK hw hd O _ λr2 N6 ay _=>Br.of (λ_ U ao=>?_) λ_=>Br.of (λ_ U ao=>?_) λ_ U ao=>ax U (by omega)
  ·refine sm J (by omega) (λx hx=>oL (I x hx) (by omega)) a0 c0 n U _ λa3 bc c3 N8 bi aj _ _ N9 az=>?_;obtain⟨g2,g3⟩:=Sy aa I n;refine ve t d hd (by omega) N9 _ λy bh aq hy _ _ _ ae au=>?_;exact hG _ (.code hw) cc hy aj g2 g3 n a3 c3 al a2 c2 h2 ae _ λb8 a4 bj c4 i4 h4 ah ai Y ak _ _ _=>nod 12 rfl ak Y a4 c4 h4 ah (by omega)
  ·refine ve t d hd (by omega) U _ λy N8 bi hy _ _ _ N9 az=>?_;exact hG _ (.code hw) cc hy J aa I _ a0 c0 al a2 c2 h2 N9 _ λb8 a4 bj c4 i4 h4 ah ai Y ak _ _ _=>nod 11 rfl ak Y a4 c4 h4 ah (by omega)
 ·refine ve t d hd (by omega) O _ λy N6 ay hy _ _ _ U ao=>?_;exact hG _ (.code hw) cc hy J aa I _ a0 c0 al a2 c2 h2 U _ λb8 a4 bj c4 i4 h4 ah ai Y ak _ _ _=>nod 11 rfl ak Y a4 c4 h4 ah (by omega)
theorem WT (k:Nat)(hk:k=1):O5 k 1600:=by
 intro t hw hc d hd g J Y hg ac n a0 c0 es i I a c h N Q hQ;refine pD N a0 J c0 d n _ a es c i h Q λE _ _ _ N1 ae=>?_;have L5:∀ {es:List D} {i:Int} (_:Cu es i) a c h N',N<=N'->wR E Q N a0 J c0 n k a es c i h d 0 (bytes []) (bytes []) 0 0 none [] 0 0 none [] 0 none [] 0 N':=λ{es i} I a c h N' ah=>by refine AU _ _ _ _ _ _ _ _ _ _ _ _ _ _ _ _ _ _ _ _ _ _ _ _ _ _ _ _ _ _ (Br.dec (λ_ N2 aa=>?_) λh=>by omega);exact Mb hw (by omega) hd n I a c h N2 _ λx a3 ai c3 i3 h3 N6 aj ab hx _ _ _=>⟨wK,λN7 ak=>hQ _ _ _ _ _ _ _ (by omega) ab (hx.mono (by omega))⟩
 exact Ap I 3 (by omega) a c h N1 _ λb a1 al c1 i1 h1 N2 aa O _ _=>Br.of (λ_ N3 am=>R0 Y (by omega) hd n a0 c0 O a1 c1 h1 N3 _ λx b2 a2 ao c2 i2 h2 N4 aq U hx _ _ _=>Br.of (λ_=>⟨wK,λN5 au=>hQ _ _ _ _ _ _ _ (by omega) U (hx.mono (by omega))⟩) λ_=>L5 U a2 c2 h2 N4 (by omega)) λ_=>L5 O a1 c1 h1 N2 (by omega)
theorem Nl {k S:Nat}(hk:k<=5)(ax:1600<=S)(hS:S<=100000000)(hG:O5 k S):O5 (k+1) (5*S):=by
 intro t hw hc d hd g ai aa hg ac n a0 c0 es i U a c h N Q hQ;have ek:IntKind.i64.wrap (((k+1:Nat):Int) - 1)=(k:Int):=by rw[i64_in _ (by omega)];omega
 have au:g.length+k<=1000:=by omega
 refine pD N a0 ai c0 d n _ a es c i h Q λE _ _ _ N1 b5=>?_;have ay:∀ {u:Ty} (_:t=xZ u) {es:List D} {i:Int} (_:Cu es i) a c h N',N<=N'->vK E Q N a0 ai c0 n ((k+1:Nat):Int) a es c i h d 0 (bytes []) (bytes []) 0 0 none [] 0 0 none [] 0 none [] 0 N':=λ{u} hu {es i} U a c h N' bq=>by
  subst hu;obtain⟨b,fs,kk,rfl,az,d1,_,rfl,h3,rfl⟩:=Ty.is_mk.1 hd;have a7:(xZ u).cnt=1+(u.cnt+0):=rfl;have bt:Wf u:=by cases hw;assumption
  refine Fg _ _ _ _ _ _ _ _ _ _ _ _ _ _ _ _ _ _ _ _ _ _ _ _ _ _ _ _ _ _ ⟨_,_,_,rfl,⟨by simp,by simp⟩,λN2 aw=>?_⟩;rw[ek];exact hG _ bt (by omega) h3 aa au ac _ a0 c0 U a c h N2 _ λx a3 aj c3 i3 h3 N3 a8 I hx _ _ _=>⟨⟨rfl,rfl⟩,λa4 _ N4 ab ae=>Hp 10 (by omega) (Ei hx) (by simp) a4 1 N4 _ λw N5 ak hw ho _=>⟨uC ae ho,λ_=>⟨wK,λN6 al=>hQ _ _ _ _ _ _ _ (by omega) I (hw.mono (by simp;omega))⟩⟩⟩
 have L5:∀ {es:List D} {i:Int} (_:Cu es i) a c h N',N<=N'->wR E Q N a0 ai c0 n ((k+1:Nat):Int) a es c i h d 0 (bytes []) (bytes []) 0 0 none [] 0 0 none [] 0 none [] 0 N':=λ{es i} U a c h N' bq=>by
  have base:∀ {es:List D} {i:Int} (_:Cu es i) a c h N9,N<=N9->BCalls prog 78 [.ag 9,.sl 0,.i,.i] [.pb 0 0 0 0,.sv a0 4 ai c0,.dg 2 d,.j n,.j ((k+1:Nat):Int)] [.var [.sv a 0 es c,.j i,.j h]] N9 (λba bc am bg bv bw J=>N9<=J->Bel J ba->Bel J (D.sl bc 0 am bg)->xQ E [.var [.sv none 0 [] 0,.j 0,.j 0]]/\∀ ah,J<=ah->Q ba bc am bg bv bw ah):=λ{es i} U a c h N9 bh=>X5 hk hS hG hd aa au ac n a0 c0 U a c h N9 _ λx a3 aj c3 i3 h3 J ao I hx _ _ _=>⟨wK,λah aq=>hQ _ _ _ _ _ _ _ (by omega) I (hx.mono (by omega))⟩
  refine AU _ _ _ _ _ _ _ _ _ _ _ _ _ _ _ _ _ _ _ _ _ _ _ _ _ _ _ _ _ _ (Br.of (λ_ N2 aw=>?_) λ_ N2 aw=>Ap U 3 (by omega) a c h N2 _ λb a1 bz c1 i1 h1 N3 a8 O _ _=>Br.of (λ_ N4 ab=>?_) λ_=>?_)
  ·exact Mb hw (by omega) hd n U a c h N2 _ λx a3 aj c3 i3 h3 N6 al I hx _ _ _=>⟨wK,λN7 bi=>hQ _ _ _ _ _ _ _ (by omega) I (hx.mono (by omega))⟩
  ·exact Zg hk ax hS hG hw hc hd aa hg ac n a0 c0 O a1 c1 h1 N4 _ λx a3 aj c3 i3 h3 N5 ak I hx _ _ _=>⟨wK,λN6 al=>hQ _ _ _ _ _ _ _ (by omega) I hx⟩
  ·cases hw with
   | int=>obtain⟨b,fs,kk,rfl,_,_⟩:=Ty.is_mk.1 hd;exact⟨1,rfl,Br.of (λ_ N4 ab=>base O a1 c1 h1 N4 (by omega)) λh=>by cases h⟩
   | bool=>obtain⟨b,fs,kk,rfl,_,_⟩:=Ty.is_mk.1 hd;exact⟨2,rfl,Br.beq (λh=>absurd h (by decide)) λ_=>Br.of (λ_ N4 ab=>base O a1 c1 h1 N4 (by omega)) λh=>by cases h⟩
   | @fn u v hu hv=>
     obtain⟨b,fs,kk,rfl,az,d1,_,rfl,h3,d2,_,rfl,h4,rfl⟩:=Ty.is_mk.1 hd;have a7:(vV u v).cnt=1+(u.cnt+(v.cnt+0)):=rfl;refine⟨3,rfl,Br.beq (λh=>absurd h (by decide)) λ_=>Br.beq (λh=>absurd h (by decide)) λ_=>Br.beq (λ_ N4 ab=>?_) λh=>absurd rfl h⟩;refine qL (l:=[bytes [120],bytes [121]]) O (by decide) (by decide) a1 c1 h1 2 2 N4 _ λs a2 bj c2 i2 h2 N5 ak Y hs _ _ _=>⟨_,_,_,rfl,⟨by simp,by simp⟩,_,_,_,rfl,⟨by simp,by simp⟩,_,_,_,rfl,⟨by simp,by simp⟩,λN6 al=>?_⟩
     have hs:=rN hs (by decide);rw[ek];refine yT aa (by omega) a0 c0 (s:=s) (by omega) h3 n N6 _ λa5 b6 c5 N7 bi bm _ _ N8 b1=>?_;obtain⟨g2,g3⟩:=Jg hg ac (y:=⟨s,u,n⟩) (by show u.cnt<=1000;omega);exact hG _ hv (by omega) h4 bm g2 g3 n a5 c5 Y a2 c2 h2 N8 _ λx a6 b7 c6 i6 h6 N9 bh b3 hx _ _ _ J ao=>Vm (by omega) h3 (by omega) (by omega) hx J _ λy ah aq hy _ _=>⟨wK,λb4 bp=>hQ _ _ _ _ _ _ _ (by omega) b3 (hy.mono (by omega))⟩
   | @code u hu=>obtain⟨b,fs,kk,rfl,az,d1,_,rfl,h3,rfl⟩:=Ty.is_mk.1 hd;have a7:(xZ u).cnt=1+(u.cnt+0):=rfl;refine⟨4,rfl,Br.beq (λh=>absurd h (by decide)) λ_=>Br.beq (λh=>absurd h (by decide)) λ_=>Br.beq (λh=>absurd h (by decide)) λ_=>⟨_,_,_,rfl,⟨by simp,by simp⟩,λN4 ab=>?_⟩⟩;refine qB u _ h3 N4 _ λN5 ak _=>Br.of (λ_ N6 al=>?_) λ_=>ay rfl O a1 c1 h1 N5 (by omega);refine Ap O 4 (by omega) a1 c1 h1 N6 _ λb2 a2 bj c2 i2 h2 N7 bi Y _ _=>Br.of (λ_=>⟨_,_,_,rfl,⟨by simp,by simp⟩,λN8 b1=>?_⟩) λ_=>ay rfl Y a2 c2 h2 N7 (by omega);rw[ek];exact hG _ hu (by omega) h3 aa au ac n a0 c0 Y a2 c2 h2 N8 _ λx a3 aj c3 i3 h3 N9 bh I hx _ _ _=>⟨⟨rfl,rfl⟩,λa4 _ J ao ae=>Hp 13 (by omega) (Ei hx) (by simp) a4 1 J _ λw ah aq hw ho _=>⟨uC ae ho,λ_=>⟨wK,λb4 bp=>hQ _ _ _ _ _ _ _ (by omega) I (hw.mono (by simp;omega))⟩⟩⟩
 exact Ap U 3 (by omega) a c h N1 _ λb a1 bz c1 i1 h1 N2 aw O _ _=>Br.of (λ_ N3 a8=>R0 aa (by omega) hd n a0 c0 O a1 c1 h1 N3 _ λx b2 a2 bj c2 i2 h2 N4 ab Y hx _ _ _=>Br.of (λ_=>⟨wK,λN5 ak=>hQ _ _ _ _ _ _ _ (by omega) Y (hx.mono (by omega))⟩) λ_=>L5 Y a2 c2 h2 N4 (by omega)) λ_=>L5 O a1 c1 h1 N2 (by omega)
theorem ZW {k:Nat}(hk:1<=k)(ah:k<=5):O5 k 1000000:=by
 have up:∀ {k S T:Nat},O5 k S->S<=T->O5 k T:=λh U=>λt hw hc {d} hd {g ai} Y hg aa n a0 c0 {es i} ab a c h' N Q hQ=>h t hw hc hd Y hg aa n a0 c0 ab a c h' N Q λd' a' ac c' i' ae N' I J O=>hQ d' a' ac c' i' ae N' I J (O.mono U);have I:O5 1 1600:=WT 1 (by omega);have J:O5 2 8000:=Nl (by omega) (by omega) (by omega) I;have O:O5 3 40000:=Nl (by omega) (by omega) (by omega) J;have h4:O5 4 200000:=Nl (by omega) (by omega) (by omega) O;have h5:O5 5 1000000:=Nl (by omega) (by omega) (by omega) h4;rcases(by omega:k=1\/k=2\/k=3\/k=4\/k=5)with rfl | rfl | rfl | rfl | rfl
 ·exact up (k:=1) (S:=1600) (T:=1000000) I (by omega)
 ·exact up (k:=2) (S:=8000) (T:=1000000) J (by omega)
 ·exact up (k:=3) (S:=40000) (T:=1000000) O (by omega)
 ·exact up (k:=4) (S:=200000) (T:=1000000) h4 (by omega)
 ·exact up (k:=5) (S:=1000000) (T:=1000000) h5 (by omega)
end Go.Proofs.YtligajflgjpdnaaGreatDoor
