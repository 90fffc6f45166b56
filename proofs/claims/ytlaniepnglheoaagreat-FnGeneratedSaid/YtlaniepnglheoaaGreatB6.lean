/- Levels of code that is taken out of its quote (no program in sight; for FnPreserved). -/
import Derived.Test.YtlaniepnglheoaaGreatB2
import Derived.Test.YtlaniepnglheoaaGreatA1
import Derived.RangeFuncNested
import Derived.RangeFuncBound
import Derived.RangeFuncCalls
import Derived.RangeFuncLeaves
import Derived.Shelf.Abstract
import Derived.WalkKit
import Derived.OwnWalkIn
import Derived.TacticsInMore
import Derived.LoopNIn
import Derived.LoopIn
import Derived.Test.YtlaniepnglheoaaGreatProg
import Derived.Test.YtlaniepnglheoaaGreatA9
import Derived.Test.YtlaniepnglheoaaGreatKf
import Derived.Test.YtlaniepnglheoaaGreatA5
import Derived.Deep.MidRow
import Derived.Test.YtlaniepnglheoaaGreatKa
set_option linter.unusedVariables false
set_option linter.unusedSimpArgs false
namespace Go.Proofs.YtlaniepnglheoaaGreat
open Go Go.Proofs Go.Proofs.Tryz Go.IntWalk
variable {b e p:Tm} {f:Nat} {g:List Tg} {k n:Int} {l:List Tm} {nm ot s w x:ByteArray} {re t ty u:Ty}
theorem Jf:∀ {l:List Tm}{n:Int},ui l n=true↔∀ x∈l,x.lev n=true
 | [],n=>by simp[ui]
 | t::I,n=>by simp only[ui,oE,Jf (l:=I),oH,mD]
theorem HO:∀ {l:List Tm}{n:Int},uu l n=true↔∀ x∈l,x.made n=true
 | [],n=>by simp[uu]
 | t::I,n=>by simp only[uu,oE,HO (l:=I),oH,mD]
theorem QI {α:Type}{P:List α->Prop}(sN:P [])(sC:∀ l x,P l->P (l++[x]))(l:List α):P l:=by
 have key:∀ n,∀ l:List α,l.length=n->P l:=by
  intro n
  induction n with
  | zero=>intro l I;rw[oL I];exact sN
  | succ n O=>
    intro l I;have J:l≠[]:=λhc=>by subst hc;simp at I
    rw[<-List.dropLast_concat_getLast J];exact sC _ _ (O _ (by simp[I]))
 exact key _ l rfl
theorem Gy (g:List Tg)(y:Tg)(s:ByteArray):∀ n,n<=g.length->wZ (g++[y]) s n=wZ g s n
 | 0,_=>rfl
 | n+1,h=>by
   have e:(g++[y]).getD n tg0=g.getD n tg0:=by rw[oB,oB,oO (by omega)]
   simp only[wZ,e,Gy g y s n (by omega)]
theorem tL (g:List Tg)(y:Tg)(s:ByteArray)(n:Int):yF (g++[y]) s n=if y.nm=s then(if y.lv=n then some y.ty else none)else yF g s n:=by
 have e:(g++[y]).getD g.length tg0=y:=by simp[oB]
 have J:zL (g++[y]) s=if y.nm=s then(g.length:Int)else zL g s:=by unfold zL;rw[oK,nc];simp only[wZ,e,Gy g y s _ (oD _)]
 unfold yF;rw[J];by_cases hs:y.nm=s
 ·simp only[if_pos hs];rw[if_neg (by omega),oI,e]
 ·simp only[if_neg hs];by_cases I:zL g s<0
  ·rw[if_pos I,if_pos I]
  ·rw[if_neg I,if_neg I];have hr:=AE g s g.length;have hr:zL g s = -1\/(0<=zL g s/\zL g s<g.length):=hr;have O:(g++[y]).getD (zL g s).toNat tg0=g.getD (zL g s).toNat tg0:=by rw[oB,oB,oO (by omega)]
   rw[O]
theorem Ra (n:Int)(g:List Tg):(∀ y∈g,y.nm≠s)->yF g s n=none:=by
 induction g using QI with
 | sN=>intro _;rfl
 | sC b q I=>intro h;rw[tL,if_neg (h q (by simp)),I λy J=>h y (by simp[J])]
theorem Mo (g:List Tg)(s:ByteArray):∀ n,wZ g s n = -1\/(g.getD (wZ g s n).toNat tg0).nm=s
 | 0=>.inl rfl
 | n+1=>by
   simp only[wZ];split
   ·rename_i h;right;rw[oI];exact h
   ·exact Mo g s n
theorem HF (g:List Tg)(n:Int)(y:Tg):∀(l:List Tg)(i:Nat),vL g n (l++[y]) i=vL g n l i++(if rj g n y (i+l.length)then [y]else [])
 | [],i=>by simp[vL]
 | x::xs,i=>by have h:=HF g n y xs (i+1);simp only[nE,vL,h,oJ];rw[show i+1+xs.length=i+(xs.length+1) by omega];split<;>simp
theorem Jl (g:List Tg)(s:ByteArray)(n m:Int):yF (uE g n) s m=(match yF g s m with | some t=>if m<=n/\t.base=true then some t else none | none=>none):=by
 have key:∀ b:List Tg,∀ r,g=b++r->yF (vL g n b 0) s m=if 0<=zL g s/\zL g s<b.length then(match yF g s m with | some t=>if m<=n/\t.base=true then some t else none | none=>none)else none:=by
  intro b
  induction b using QI with
  | sN=>intro r _;rw[if_neg (by simp)];rfl
  | sC b y U=>
    intro r hr;have hg:g.getD b.length tg0=y:=by rw[hr];simp[oB]
    have O:=Mo g s g.length;have O:zL g s = -1\/(g.getD (zL g s).toNat tg0).nm=s:=O;rw[HF,nT,oK,nc];have U:=U (y::r) (by simp[hr]);have pos:zL g s<=b.length->0<=zL g s->(0<=zL g s/\zL g s<((b.length+1:Nat):Int)):=λh1 h2=>by omega
    have neg:¬(0<=zL g s/\zL g s<(b.length:Int))->zL g s≠b.length->¬(0<=zL g s/\zL g s<((b.length+1:Nat):Int)):=λh1 h2 h3=>h1 (by omega);by_cases J:y.nm=s
    ·by_cases hl:zL g s=b.length
     ·have hv:yF g s m=if y.lv=m then some y.ty else none:=by unfold yF;rw[if_neg (by omega),hl,oI,hg]
      rw[if_pos (pos (by omega) (by omega)),hv];rw[if_neg (by omega)]at U;have hs:rj g n y b.length=(y.ty.base&&decide (y.lv<=n)):=by unfold rj;rw[J];simp[hl]
      rw[hs];by_cases hb:y.ty.base=true/\y.lv<=n
      ·rw[if_pos (by simp[hb]),tL,if_pos J];by_cases Y:y.lv=m
       ·rw[if_pos Y];simp only;rw[if_pos ⟨by omega,hb.1⟩]
       ·rw[if_neg Y]
      ·rw[if_neg (by simpa using hb),ou,U];by_cases Y:y.lv=m
       ·rw[if_pos Y];simp only;rw[if_neg λh=>hb ⟨h.2,by omega⟩]
       ·rw[if_neg Y]
     ·have hs:rj g n y b.length=false:=by unfold rj;rw[J];simp[hl]
      rw[hs];simp only[mI,nQ,ou];rw[U];by_cases I:0<=zL g s/\zL g s<b.length
      ·rw[if_pos I,if_pos (pos (by omega) I.1)]
      ·rw[if_neg I,if_neg (neg I hl)]
    ·have e:yF (vL g n b 0++if rj g n y b.length=true then [y]else []) s m=yF (vL g n b 0) s m:=by
      split
      ·rw[tL,if_neg J]
      ·rw[ou]
     rw[e,U];have aa:zL g s≠b.length:=λh=>by
      rcases O with h1 | h1
      ·omega
      ·rw[h,oI,hg]at h1;exact J h1
     by_cases I:0<=zL g s/\zL g s<b.length
     ·rw[if_pos I,if_pos (pos (by omega) I.1)]
     ·rw[if_neg I,if_neg (neg I aa)]
 have h:=key g [] (by simp);have ab:zL g s = -1\/(0<=zL g s/\zL g s<g.length):=AE g s g.length;unfold uE;rw[h];by_cases I:0<=zL g s/\zL g s<g.length
 ·rw[if_pos I]
 ·rw[if_neg I];have:yF g s m=none:=by unfold yF;rw[if_pos (by omega)]
  rw[this]
def Ext (g g':List Tg):Prop:=∀ s n t,yF g s n=some t->yF g' s n=some t
theorem Ext.snoc {g':List Tg}(h:Ext g g')(y:Tg):Ext (g++[y]) (g'++[y]):=λs n t I=>by
 rw[tL]at I ⊢;split
 ·rename_i hs;rw[if_pos hs]at I;exact I
 ·rename_i hs;rw[if_neg hs]at I;exact h s n t I
def Bnd (g:List Tg)(s:ByteArray):Prop:=∃ m t,yF g s m=some t
theorem Bnd.snoc {y:Tg}(h:Bnd (g++[y]) s)(hs:y.nm≠s):Bnd g s:=by obtain⟨m,t,h⟩:=h;rw[tL,if_neg hs]at h;exact⟨m,t,h⟩
theorem Bnd.safe (h:Bnd (uE g n) s):Bnd g s:=by
 obtain⟨m,t,h⟩:=h;rw[Jl]at h;cases hv:yF g s m with
 | none=>rw[hv]at h;cases h
 | some u=>exact⟨m,u,hv⟩
theorem uQ:∀ {l:List Tm}{t:Tm},t∈l->t.sz<=yI l
 | u::us,t,h=>by
   simp only[yI];rcases oH.1 h with rfl | h
   ·omega
   ·have:=uQ h;omega
theorem Tm.sz_pos (t:Tm):1<=t.sz:=by cases t;simp only[Tm.sz];omega
theorem NP:∀ {l:List Tm},AR l=true↔∀ x∈l,x.ok=true
 | []=>by simp[AR]
 | t::I=>by simp only[AR,oE,NP (l:=I),oH,mD]
theorem szL:∀ {l' l:List Tm},l'.length=l.length->(∀(i:Nat)(t' t:Tm),l'[i]?=some t'->l[i]?=some t->t.sz<=t'.sz)->yI l<=yI l'
 | [],[],_,_=>oD _
 | [],_::_,h,_=>by simp at h
 | _::_,[],h,_=>by simp at h
 | t'::I,t::J,h,hr=>by have Y:=szL (l':=I) (l:=J) (by simpa using h) λi a b O U=>hr (i+1) a b (by simpa using O) (by simpa using U);have h0:=hr 0 t' t (by simp) (by simp);simp only[yI];omega
theorem Tj (I:∀ t x y,t.V->t.sz<=(Tm.sub f t x (ru y)).sz)(k:Int)(n:Nat)(fb:List ByteArray)(x:ByteArray):∀(l:List ByteArray)(s:ByteArray × ByteArray × Tm),s.2.2.V->s.2.2.sz<=(rns (Tm.sub f) k n fb x l s).2.2.sz
 | [],s,_=>oD _
 | old::l,s,hv=>by
   have J:=Tj I k n fb x l (rn1 (Tm.sub f) k n fb x old s) ((Bl (uA f) k n fb x old s).v hv);have O:s.2.2.sz<=(rn1 (Tm.sub f) k n fb x old s).2.2.sz:=by
    unfold rn1;split
    ·split<;>exact I _ _ _ hv
    ·exact oD _
   simp only[rns];omega
theorem Jd:∀(f:Nat)(t:Tm)(x:ByteArray)(b:Tm),t.V->t.sz<=(t.sub f x b).sz
 | 0,t,x,b,_=>by simp only[Tm.sub];exact oD _
 | f + 1,.mk k nm ot n ty re l,x,b,hv=>by
   have Y:=Jd f;have O:=su.1 hv.2;simp only[Tm.sub];split
   ·rename_i hk;split
    ·rw[hv.1 (by assumption)];simp only[Tm.sz,yI];exact Tm.sz_pos b
    ·exact oD _
   ·split
    ·simp only[Tm.sz]
     have:=szL (l':=l.map λt=>Tm.sub f t x b) (l:=l) (by simp) λi t' t I J=>by rw[oG,J]at I;cases I;exact Y t x b (O t (oA J))
     omega
    ·rename_i hb;obtain⟨g1,g2⟩:=w7 hb;split
     ·simp only[Tm.sz]
      have:=szL (l':=(l.map λt=>Tm.sub f t x b).set (yB k l.length).toNat (l.getD (yB k l.length).toNat tm0)) (l:=l) (by simp) λi t' t I J=>by
       rcases EH I J with⟨h1,U⟩ | ⟨h1,U⟩
       ·rw[h1,yC g1]at J;rw[U,<-oU J];exact oD _
       ·rw[U];exact Y t x b (O t (oA J))
      omega
     ·simp only[Tm.sz]
      have:=szL (l':=(l.map λt=>Tm.sub f t x b).set (yB k l.length).toNat (Tm.sub f (rns (Tm.sub f) k l.length b.fv x (bdN k nm ot l.length) (nm,ot,l.getD (yB k l.length).toNat tm0)).2.2 x b)) (l:=l) (by simp) λi t' t I J=>by
       rcases EH I J with⟨h1,U⟩ | ⟨h1,U⟩
       ·rw[h1,yC g1]at J;rw[U,<-oU J];have aa:=O _ (oA (yC g1));exact oP (Tj (λt x y h=>Y t x _ h) k l.length b.fv x (bdN k nm ot l.length) (nm,ot,l.getD (yB k l.length).toNat tm0) aa) (Y _ x b ((AO (uA f) _ _ _ _ _ _).v aa))
       ·rw[U];exact Y t x b (O t (oA J))
      omega
theorem W4 {n:Nat}(v:ByteArray)(h:s∈bdN k w ot n):s=w\/s∈bdN k v ot n:=by
 unfold bdN at h ⊢;split at h
 ·simp at h;exact .inl h
 ·rename_i I;rw[if_neg I];split at h
  ·simp at h;exact .inl h
  ·rename_i J;rw[if_neg J];split at h
   ·rename_i O;rw[if_pos O];simp at h;rcases h with h | h
    ·exact .inl h
    ·exact .inr (by simp[h])
   ·simp at h
theorem W5 {n:Nat}(v:ByteArray)(h:s∈bdN k nm w n):s=w\/s∈bdN k nm v n:=by
 unfold bdN at h ⊢;split at h
 ·rename_i I;rw[if_pos I];exact .inr h
 ·rename_i I;rw[if_neg I];split at h
  ·rename_i J;rw[if_pos J];exact .inr h
  ·rename_i J;rw[if_neg J];split at h
   ·rename_i O;rw[if_pos O];simp at h;rcases h with h | h
    ·exact .inr (by simp[h])
    ·exact .inl h
   ·simp at h
theorem Ss:∀(f:Nat) (t:Tm) (s x:ByteArray) (b:Tm),s∈t.fv->s≠x->s∈(t.sub f x b).fv
 | 0,t,s,x,b,h,_=>by simp only[Tm.sub];exact h
 | f + 1, .mk k nm ot n ty re l,s,x,b,h,J=>by
   have ih:=Ss f;rw[Tm.fv_mem]at h;simp only[Tm.sub];split
   ·rename_i hk;rcases h with⟨_,h⟩ | ⟨h,_⟩
    ·rw[if_neg (λhc=>J (by rw[h,hc]))];rw[Tm.fv_mem];exact .inl ⟨hk,h⟩
    ·exact absurd hk h
   ·rename_i hk;obtain⟨j,p,hj,hs⟩:∃(j:Nat) (x:Tm),l[j]?=some x/\s∈fvI (yB k l.length) (bdN k nm ot l.length) j x:=by
     rcases h with⟨h,_⟩ | ⟨_,h⟩
     ·exact absurd h hk
     ·exact h
    unfold fvI at hs;split
    ·rename_i hb;rw[Tm.fv_mem];refine .inr ⟨hk,j,p.sub f x b,by rw[oG,hj];rfl,?_⟩;rw[if_neg (by omega)]at hs;unfold fvI;rw[om,if_neg (by omega)];exact ih p s x b hs J
    ·rename_i hb;obtain⟨g1,g2⟩:=w7 hb;have aa:j<l.length:=(oC.1 hj).1;have O:=yC g1;split
     ·rw[Tm.fv_mem];by_cases I:(j:Int)=yB k l.length
      ·refine .inr ⟨hk,j,p,?_,?_⟩
       ·have:(yB k l.length).toNat=j:=by omega
        rw[this]at O ⊢;rw[nV (by simpa using aa),<-oU (O.symm.trans hj)]
       ·unfold fvI;simp only[nZ,om];exact hs
      ·refine .inr ⟨hk,j,p.sub f x b,?_,?_⟩
       ·rw[nJ (by omega),oG,hj];rfl
       ·rw[if_neg I]at hs;unfold fvI;simp only[nZ,om];rw[if_neg I];exact ih p s x b hs J
     ·rw [Tm.fv_mem];by_cases I:(j:Int)=yB k l.length
      ·have ae:(yB k l.length).toNat=j:=by omega
       rw[ae]at O ⊢;have ah:l.getD j tm0=p:=oU (O.symm.trans hj);rw[ah];rw[if_pos I,xc]at hs;obtain⟨ai,ab⟩:=hs;have r1:∀(old:ByteArray) (st:ByteArray × ByteArray × Tm),s≠old->s∈st.2.2.fv->s∉bdN k st.1 st.2.1 l.length->s∈(rn1 (Tm.sub f) k l.length b.fv x old st).2.2.fv/\s∉bdN k (rn1 (Tm.sub f) k l.length b.fv x old st).1 (rn1 (Tm.sub f) k l.length b.fv x old st).2.1 l.length:=λold st h1 U Y=>by
        unfold rn1;have ac:=rQ (b.fv++(st.2.2.fv++([x]++bdN k st.1 st.2.1 l.length)));generalize fresh (b.fv++(st.2.2.fv++([x]++bdN k st.1 st.2.1 l.length)))=w at ac;have hw:s≠w:=λhc=>ac (by rw[<-hc];simp[U]);split
        ·split
         ·exact⟨ih _ _ _ _ U h1,λhc=>(W4 st.1 hc).elim hw Y⟩
         ·exact⟨ih _ _ _ _ U h1,λhc=>(W5 st.2.1 hc).elim hw Y⟩
        ·exact⟨U,Y⟩
       have rs:∀(ns:List ByteArray) (st:ByteArray × ByteArray × Tm),(∀ o∈ns,s≠o)->s∈st.2.2.fv->s∉bdN k st.1 st.2.1 l.length->s∈(rns (Tm.sub f) k l.length b.fv x ns st).2.2.fv/\s∉bdN k (rns (Tm.sub f) k l.length b.fv x ns st).1 (rns (Tm.sub f) k l.length b.fv x ns st).2.1 l.length:=by
        intro ns
        induction ns with
        | nil=>exact λst _ U Y=>⟨U,Y⟩
        | cons o os aj=>intro st h1 U Y;obtain⟨a1,a2⟩:=r1 o st (h1 o (by simp)) U Y;exact aj _ (λo' ho=>h1 o' (by simp[ho])) a1 a2
       obtain⟨a1,a2⟩:=rs (bdN k nm ot l.length) (nm,ot,p) (λo ho hc=>ab (hc ▸ ho)) ai ab;refine .inr ⟨hk,j,_,nV (by simpa using aa),?_⟩;unfold fvI;simp only[nZ,om];rw[if_pos I,xc];exact⟨ih _ _ _ _ a1 J,a2⟩
      ·refine .inr ⟨hk,j,p.sub f x b,?_,?_⟩
       ·rw[nJ (by omega),oG,hj];rfl
       ·rw[if_neg I]at hs;unfold fvI;simp only[nZ,om];rw[if_neg I];exact ih p s x b hs J
theorem Ti (k:Int)(n:Nat)(fb:List ByteArray)(x:ByteArray):∀(l:List ByteArray)(s:ByteArray × ByteArray × Tm),x∉l->x∈s.2.2.fv->x∈(rns (Tm.sub f) k n fb x l s).2.2.fv
 | [],s,_,h=>h
 | old::l,s,hx,h=>by
   refine Ti k n fb x l _ (λhc=>hx (by simp[hc])) ?_;unfold rn1;have I:x≠old:=λhc=>hx (by simp[hc]);split
   ·split<;>exact Ss f _ _ _ _ h I
   ·exact h
theorem T8:∀(f:Nat)(t:Tm)(x:ByteArray)(b:Tm),t.dp<=f->x∈t.fv->b.sz<=(t.sub f x b).sz
 | 0,t,x,b,h,_=>absurd (Tm.dp_pos t) (by omega)
 | f + 1,.mk k nm ot n ty re l,x,b,hd,h=>by
   have ih:=T8 f;rw[Tm.fv_mem]at h;simp only[Tm.dp]at hd;have ae:=λy hy=>uZ.1 (mN hd) y hy;simp only[Tm.sub];split
   ·rename_i hk;rcases h with⟨_,h⟩ | ⟨h,_⟩
    ·rw[if_pos h.symm];exact oD _
    ·exact absurd hk h
   ·rename_i hk;obtain⟨j,p,U,hs⟩:∃(j:Nat) (y:Tm),l[j]?=some y/\x∈fvI (yB k l.length) (bdN k nm ot l.length) j y:=by
     rcases h with⟨h,_⟩ | ⟨_,h⟩
     ·exact absurd h hk
     ·exact h
    unfold fvI at hs;have J:=ae p (oA U);have fin:∀(aa ab:ByteArray) (l':List Tm) (y:Tm),l'[j]?=some y->b.sz<=y.sz->b.sz<=(Tm.mk k aa ab n ty re l').sz:=λaa ab l' y h1 h2=>by
     have:=uQ (oA h1)
     simp only[Tm.sz];omega
    split
    ·rename_i hb;rw[if_neg (by omega)]at hs;exact fin _ _ _ (p.sub f x b) (by rw[oG,U];rfl) (ih p x b J hs)
    ·rename_i hb;obtain⟨g1,g2⟩:=w7 hb;have ah:j<l.length:=(oC.1 U).1;have O:=yC g1;split
     ·rename_i hc;by_cases I:(j:Int)=yB k l.length
      ·exfalso;have:(yB k l.length).toNat=j:=by omega
       rw[this]at O hc;have Y:l.getD j tm0=p:=oU (O.symm.trans U);rw[if_pos I,xc]at hs;rw[Y]at hc;rcases hc with hc | hc
       ·exact hs.2 hc
       ·exact hc hs.1
      ·rw[if_neg I]at hs;exact fin _ _ _ (p.sub f x b) (by rw[nJ (by omega),oG,U];rfl) (ih p x b J hs)
     ·rename_i hc;by_cases I:(j:Int)=yB k l.length
      ·have ai:(yB k l.length).toNat=j:=by omega
       rw[ai]at O ⊢;have Y:l.getD j tm0=p:=oU (O.symm.trans U);rw[Y];rw[if_pos I,xc]at hs;have aj:=AO (uA f) k l.length b.fv x (bdN k nm ot l.length) (nm,ot,p);have ac:=aj.d;refine fin _ _ _ _ (nV (by simpa using ah)) (ih _ x b (oP ac J) (Ti _ _ _ _ _ _ hs.2 hs.1))
      ·rw[if_neg I]at hs;exact fin _ _ _ (p.sub f x b) (by rw[nJ (by omega),oG,U];rfl) (ih p x b J hs)
theorem SZ {k:Nat}(h:k<=999):Lib.decDigits k=(if k<10 then [UInt8.ofNat (48+k)]else if k<100 then [UInt8.ofNat (48+k / 10),UInt8.ofNat (48+k % 10)]else [UInt8.ofNat (48+k / 10 / 10),UInt8.ofNat (48+k / 10 % 10),UInt8.ofNat (48+k % 10)]):=by
 have e1:∀ u,u<10->Lib.decDigits u=[UInt8.ofNat (48+u)]:=λu h=>by rw[Lib.decDigits,dif_pos h]
 have J:∀ u,¬u<10->Lib.decDigits u=Lib.decDigits (u / 10)++[UInt8.ofNat (48+u % 10)]:=λu h=>by rw[Lib.decDigits,dif_neg h]
 split
 ·rename_i I;exact e1 k I
 ·rename_i I;rw[J k I];split
  ·rename_i O;rw[e1 _ (by omega)];rfl
  ·rename_i O;rw[J (k / 10) (by omega),e1 _ (by omega)];rfl
theorem Sy:∀ a:_root_.Fin 10,yk ⟨#[118,UInt8.ofNat (48+a.val)]⟩=true:=by decide +kernel
theorem Sz:∀ a b:_root_.Fin 10,yk ⟨#[118,UInt8.ofNat (48+a.val),UInt8.ofNat (48+b.val)]⟩=true:=by decide +kernel
theorem S0:∀ a b c:_root_.Fin 10,yk ⟨#[118,UInt8.ofNat (48+a.val),UInt8.ofNat (48+b.val),UInt8.ofNat (48+c.val)]⟩=true:=by decide +kernel
theorem VJ {k:Nat}(h:k<=999):yk (sF k)=true:=by
 unfold sF;rw[SZ h];split
 ·rename_i I;exact Sy ⟨k,I⟩
 ·split
  ·rename_i I J;exact Sz ⟨k / 10,by omega⟩ ⟨k % 10,by omega⟩
  ·rename_i I J;exact S0 ⟨k / 10 / 10,by omega⟩ ⟨k / 10 % 10,by omega⟩ ⟨k % 10,by omega⟩
theorem Ml {l:List ByteArray}(h:l.length<=998):yk (fresh l)=true:=by obtain⟨k,e,_,I,_,_⟩:=rR l;rw[e];exact VJ (by omega)
theorem Tm.vc_sz:∀ t:Tm,t.vc<=t.sz:=by
 refine Tm.ind λk nm ot n ty re l J=>?_;have key:∀ l:List Tm,(∀ t∈l,t.vc<=t.sz)->A1 l<=yI l:=by
  intro l
  induction l with
  | nil=>intro _;exact oD _
  | cons t O I=>intro h;have U:=h t (by simp);have Y:=I λx hx=>h x (by simp[hx]);simp only[A1,yI];omega
 have:=key l J
 simp only[Tm.vc,Tm.sz];split<;>omega
theorem Tm.ok_mk:(Tm.mk k nm ot n ty re l).ok=true↔(∀ x∈l,x.ok=true)/\zK k nm ot n ty re=true/\(l.length:Int)=sA k nm:=by simp only[Tm.ok,oE,NP,nF]
theorem UJ (h:yk s=true):(ru s).ok=true:=by
 refine Tm.ok_mk.2 ⟨by simp,?_,rfl⟩;have:(Ty.mk 0 []).valid=false:=by decide +kernel
 simp[zK,rp,this,Ty.zero,Ty.k,Ty.as,inB,xV,h]
theorem Sj {I J:ByteArray}{m:Nat}(hb:¬yB k m<0)(h:zK k nm ot n ty re=true)(U:yk I=true)(Y:k=9->yk J=true/\I≠J)(O:k≠9->J=ot):zK k I J n ty re=true/\(sA k I=sA k nm):=by
 have hk:k=6\/k=8\/k=9:=by
  rcases wR k m with h | ⟨_,_,h | h⟩ | ⟨_,_,h⟩
  ·omega
  ·exact .inl h
  ·exact .inr (.inr h)
  ·exact .inr (.inl h)
 rcases hk with rfl | rfl | rfl
 ·have O:=O (by decide);subst O;refine⟨?_,rfl⟩;simp only[zK,xV,oE]at h ⊢;simp[U]at h ⊢;exact⟨h.1,h.2.1,h.2.2.1,h.2.2.2.1,h.2.2.2.2.1,h.2.2.2.2.2.2⟩
 ·have O:=O (by decide);subst O;refine⟨?_,rfl⟩;simp only[zK,xV,oE]at h ⊢;simp[U]at h ⊢;exact⟨h.1,h.2.1,h.2.2.1,h.2.2.2.1,h.2.2.2.2.1,h.2.2.2.2.2.2⟩
 ·obtain⟨h4,h5⟩:=Y rfl;refine⟨?_,rfl⟩;simp only[zK,xV,oE]at h ⊢;simp[U,h4,h5]at h ⊢;exact⟨h.1,h.2.1,h.2.2.1,h.2.2.2.1⟩
theorem Pw {m:Nat}(I:¬yB k m<0)(h:zK k nm ot n ty re=true):yk nm=true/\(k=9->yk ot=true/\nm≠ot):=by
 have hk:k=6\/k=8\/k=9:=by
  rcases wR k m with h | ⟨_,_,h | h⟩ | ⟨_,_,h⟩
  ·omega
  ·exact .inl h
  ·exact .inr (.inr h)
  ·exact .inr (.inl h)
 rcases hk with rfl | rfl | rfl
 ·simp only[zK,xV,oE]at h;refine⟨?_,λh=>absurd h (by decide)⟩;simp at h;exact h.2.2.2.2.2.1
 ·simp only[zK,xV,oE]at h;refine⟨?_,λh=>absurd h (by decide)⟩;simp at h;exact h.2.2.2.2.2.1
 ·simp only[zK,xV,oE]at h;simp at h;exact⟨h.2.2.2.2.1,λ_=>⟨h.2.2.2.2.2.1,h.2.2.2.2.2.2⟩⟩
theorem Wq:∀(f:Nat) (e:Tm) (x:ByteArray) (b:Tm),e.dp<=f->e.ok=true->b.ok=true->(e.sub f x b).sz<=400->(e.sub f x b).ok=true
 | 0,e,x,b,h,_,_,_=>absurd (Tm.dp_pos e) (by omega)
 | f + 1, .mk k nm ot n ty re l,x,b,hd,he,hb,hs=>by
   have ih:=Wq f;obtain⟨h1,h2,h3⟩:=Tm.ok_mk.1 he;simp only[Tm.dp]at hd;have ae:=λy hy=>uZ.1 (mN hd) y hy;simp only[Tm.sub]at hs ⊢;split
   ·rename_i hk;rw[if_pos hk]at hs;split
    ·exact hb
    ·exact he
   ·rename_i hk;rw[if_neg hk]at hs;split
    ·rename_i O;rw[if_pos O]at hs;refine Tm.ok_mk.2 ⟨λy hy=>?_,h2,by simpa using h3⟩;obtain⟨z,hz,rfl⟩:=oT.1 hy
     have:=uQ hy
     simp only[Tm.sz]at hs;exact ih z x b (ae z hz) (h1 z hz) hb (by omega)
    ·rename_i O;rw[if_neg O]at hs;obtain⟨g1,g2⟩:=w7 O;have ai:=yC g1;have U:=oA ai;generalize hp:l.getD (yB k l.length).toNat tm0=p at hs ai U ⊢;have parts:∀(v:Tm) (s:Nat),v.ok=true->yI ((l.map λt=>Tm.sub f t x b).set (yB k l.length).toNat v)<=400->∀ y∈(l.map λt=>Tm.sub f t x b).set (yB k l.length).toNat v,y.ok=true:=λv s hv hs y hy=>by
      have a6:=uQ hy;rcases nA hy with hy | rfl
      ·obtain⟨z,hz,rfl⟩:=oT.1 hy;exact ih z x b (ae z hz) (h1 z hz) hb (by omega)
      ·exact hv
     split
     ·rename_i hc;rw[if_pos hc]at hs;simp only[Tm.sz]at hs;exact Tm.ok_mk.2 ⟨parts _ 0 (h1 p U) (by omega),h2,by simpa using h3⟩
     ·rename_i hc;rw[if_neg hc]at hs;have ao:x∉bdN k nm ot l.length:=λh=>hc (.inl h);have aq:x∈p.fv:=mU.1 λh=>hc (.inr h);have aj:=YO p (h1 p U);have Y:=ae p U;obtain⟨n1,n2⟩:=Pw O h2;have ab:=AO (uA f) k l.length b.fv x (bdN k nm ot l.length) (nm,ot,p);have ac:=ab.d;have au:=uQ (oA (nV (l:=l.map λt=>Tm.sub f t x b) (i:=(yB k l.length).toNat) (a:=Tm.sub f (rns (Tm.sub f) k l.length b.fv x (bdN k nm ot l.length) (nm,ot,p)).2.2 x b) (by simpa using g1)));simp only[Tm.sz]at hs;have aw:=Ti (f:=f) k l.length b.fv x (bdN k nm ot l.length) (nm,ot,p) ao aq;have a7:=T8 f _ x b (oP ac Y) aw;have a8:=Jd f (rns (Tm.sub f) k l.length b.fv x (bdN k nm ot l.length) (nm,ot,p)).2.2 x b (ab.v aj);have a9:=Tm.fv_len b;have ba:=Tm.vc_sz b;have bb:b.fv.length<=400:=by omega
      have r1:∀(old:ByteArray) (st:ByteArray × ByteArray × Tm),old∈bdN k st.1 st.2.1 l.length->st.2.2.ok=true->st.2.2.dp<=f->(rn1 (Tm.sub f) k l.length b.fv x old st).2.2.sz<=400->yk st.1=true->(k=9->yk st.2.1=true/\st.1≠st.2.1) ->
        (rn1 (Tm.sub f) k l.length b.fv x old st).2.2.ok=true/\yk (rn1 (Tm.sub f) k l.length b.fv x old st).1=true/\(k=9->yk (rn1 (Tm.sub f) k l.length b.fv x old st).2.1=true/\(rn1 (Tm.sub f) k l.length b.fv x old st).1≠(rn1 (Tm.sub f) k l.length b.fv x old st).2.1)/\(k≠9->(rn1 (Tm.sub f) k l.length b.fv x old st).2.1=st.2.1):=λold st ho a1 a2 a3 a4 a5=>by
       have ak:=rQ (b.fv++(st.2.2.fv++([x]++bdN k st.1 st.2.1 l.length)));unfold rn1 at a3 ⊢;split
       ·rename_i hold;rw[if_pos hold]at a3;have bc:st.2.2.sz<=400:=by
         split at a3
         ·exact oP (Jd f _ _ _ (YO _ a1)) a3
         ·exact oP (Jd f _ _ _ (YO _ a1)) a3
        have bg:=Tm.fv_len st.2.2;have bh:=Tm.vc_sz st.2.2;have bi:=GE k st.1 st.2.1 l.length;have aa:=Ml (l:=b.fv++(st.2.2.fv++([x]++bdN k st.1 st.2.1 l.length))) (by simp only[oK,oJ,oN];omega);generalize fresh (b.fv++(st.2.2.fv++([x]++bdN k st.1 st.2.1 l.length)))=w at ak aa a3 ⊢;have hw:w∉bdN k st.1 st.2.1 l.length:=λh=>ak (by simp[h]);split
        ·rename_i hq;rw[if_pos hq]at a3;refine⟨ih _ _ _ a2 a1 (UJ aa) a3,aa,λh9=>⟨(a5 h9).1,λJ=>hw ?_⟩,λ_=>rfl⟩;subst h9;have h9:l.length=1:=by rcases wR 9 l.length with h | ⟨_,h,_⟩ | ⟨_,_,h⟩<;>first | exact h | omega
         have J:w=st.2.1:=J;rw[h9,J];simp[bdN]
        ·rename_i hq;rw[if_neg hq]at a3;have h9:k=9:=by
          unfold bdN at ho
          (repeat' split at ho)<;>simp_all
         subst h9;have ah:l.length=1:=by rcases wR 9 l.length with h | ⟨_,h,_⟩ | ⟨_,_,h⟩<;>first | exact h | omega
         refine⟨ih _ _ _ a2 a1 (UJ aa) a3,a4,λ_=>⟨aa,λJ=>hw ?_⟩,λh=>absurd rfl h⟩;have J:st.1=w:=J;rw[ah,<-J];simp[bdN]
       ·exact⟨a1,a4,a5,λ_=>rfl⟩
      have al:∀(os:List ByteArray) (st:ByteArray × ByteArray × Tm),st.2.2.V->(rns (Tm.sub f) k l.length b.fv x os st).2.2.sz<=400->st.2.2.sz<=400:=λos st hv h=>oP (Tj (λt x y h=>Jd f t x _ h) _ _ _ _ _ _ hv) h;have fin:(rns (Tm.sub f) k l.length b.fv x (bdN k nm ot l.length) (nm,ot,p)).2.2.ok=true/\yk (rns (Tm.sub f) k l.length b.fv x (bdN k nm ot l.length) (nm,ot,p)).1=true /\
        (k=9->yk (rns (Tm.sub f) k l.length b.fv x (bdN k nm ot l.length) (nm,ot,p)).2.1=true/\(rns (Tm.sub f) k l.length b.fv x (bdN k nm ot l.length) (nm,ot,p)).1≠(rns (Tm.sub f) k l.length b.fv x (bdN k nm ot l.length) (nm,ot,p)).2.1) /\
        (k≠9->(rns (Tm.sub f) k l.length b.fv x (bdN k nm ot l.length) (nm,ot,p)).2.1=ot):=by
       have I:(rns (Tm.sub f) k l.length b.fv x (bdN k nm ot l.length) (nm,ot,p)).2.2.sz<=400:=by omega
       have ax:bdN k nm ot l.length=[nm]\/(k=9/\l.length=1/\bdN k nm ot l.length=[nm,ot]):=by
        rcases wR k l.length with h | ⟨_,h,h | h⟩ | ⟨_,h,h'⟩
        ·omega
        ·left;subst h;rw[show l.length=1 from ‹_›];simp[bdN]
        ·right;subst h;rw[show l.length=1 from ‹_›];simp[bdN]
        ·left;subst h';rw[h];simp[bdN]
       rcases ax with e | ⟨am,ah,e⟩
       ·rw[e]at I ⊢;simp only[rns]at I ⊢;exact r1 nm (nm,ot,p) (by rw[e];simp) (h1 p U) Y I n1 n2
       ·rw[e]at I ⊢;simp only[rns]at I ⊢;have q1:=Bl (uA f) k l.length b.fv x nm (nm,ot,p);have q2:=al [ot] _ (q1.v aj) (by simpa only[rns]using I);obtain⟨b1,b2,b3,b4⟩:=r1 nm (nm,ot,p) (by rw[e];simp) (h1 p U) Y q2 n1 n2;have ay:=q1.d;have az:ot∈bdN k (rn1 (Tm.sub f) k l.length b.fv x nm (nm,ot,p)).1 (rn1 (Tm.sub f) k l.length b.fv x nm (nm,ot,p)).2.1 l.length:=by
         have:(rn1 (Tm.sub f) k l.length b.fv x nm (nm,ot,p)).2.1=ot:=by unfold rn1;simp only[nj];split<;>rfl
         rw[this,am,ah];simp[bdN]
        obtain⟨d1,d2,d3,d4⟩:=r1 ot _ az b1 (oP ay Y) I b2 b3;exact⟨d1,d2,d3,λh=>absurd am h⟩
      obtain⟨fa,a0,fc,fd⟩:=fin;obtain⟨u1,u2⟩:=Sj O h2 a0 fc fd;exact Tm.ok_mk.2 ⟨parts _ 0 (ih _ x b (oP ac Y) fa hb (by omega)) (by omega),u1,by rw[u2];simpa using h3⟩
abbrev Rho:=ByteArray->Int->Option Ty
variable {r r':Rho}
def Rho.set (r:Rho)(x:ByteArray)(n:Int)(t:Ty):Rho:=λs m=>if x=s then(if n=m then some t else none)else r s m
def Rho.safe (r:Rho)(n:Int):Rho:=λs m=>match r s m with
 | some t=>if m<=n/\t.base=true then some t else none
 | none=>none
class LvB (n:Int):Prop where
 h:0<=n/\n<=2
instance:LvB 0:=⟨by omega⟩
instance:LvB 1:=⟨by omega⟩
instance:LvB (0+1):=⟨by omega⟩
inductive HT:Rho->Tm->Int->Ty->Prop
 | var {r nm ot m ty re l n u} [LvB n]:r nm n=some u->u.valid=true->HT r (.mk 1 nm ot m ty re l) n u
 | int {r nm ot m ty re l n} [LvB n]:HT r (.mk 2 nm ot m ty re l) n tInt
 | bool {r nm ot m ty re l n} [LvB n]:HT r (.mk 3 nm ot m ty re l) n tBool
 | op {r nm ot m ty re l n} [LvB n]:(∀ x∈l,HT r x n (if G3 nm=1 then tInt else tBool))->HT r (.mk 4 nm ot m ty re l) n (rh nm)
 | ite {r nm ot m ty re a b c n u} [LvB n]:HT r a n tBool->HT r b n u->HT r c n u->HT r (.mk 5 nm ot m ty re [a,b,c]) n u
 | lam {r nm ot m ty re b n v} [LvB n]:HT (r.set nm n ty) b n v->(wD ty v).valid=true->HT r (.mk 6 nm ot m ty re [b]) n (wD ty v)
 | app {r nm ot m ty re f x n a b} [LvB n]:HT r f n (wD a b)->HT r x n a->HT r (.mk 7 nm ot m ty re [f,x]) n b
 | lt {r nm ot m ty re a b n t u} [LvB n]:HT r a n t->HT (r.set nm n t) b n u->HT r (.mk 8 nm ot m ty re [a,b]) n u
 | fix {r nm ot m ty re b n} [LvB n]:nm≠ot->HT ((r.set nm n (wD ty re)).set ot n ty) b n re->(wD ty re).valid=true->HT r (.mk 9 nm ot m ty re [b]) n (wD ty re)
 | quote {r nm ot m ty re b n t} [LvB n]:HT r b (n+1) t->(wM t).valid=true->HT r (.mk 10 nm ot m ty re [b]) n (wM t)
 | splice {r nm ot m ty re b n t} [LvB n]:HT r b (n - 1) (wM t)->HT r (.mk 11 nm ot m ty re [b]) n t
 | run {r nm ot m ty re b n t} [LvB n]:HT (r.safe n) b n (wM t)->HT r (.mk 12 nm ot m ty re [b]) n t
 | lift {r nm ot m ty re b n t} [LvB n]:HT r b n t->t.base=true->(wM t).valid=true->HT r (.mk 13 nm ot m ty re [b]) n (wM t)
theorem LD (I:t.cnt<=30)(J:t.dep<=8)(O:t.form=true):t.valid=true:=by simp only[Ty.valid,oE,oq];exact⟨⟨I,J⟩,O⟩
theorem P1 (h:t.valid=true):t.cnt<=30/\t.dep<=8/\t.form=true:=by simp only[Ty.valid,oE,oq]at h;exact⟨h.1.1,h.1.2,h.2⟩
theorem Jk (h:(wM t).valid=true):t.valid=true:=by obtain⟨O,U,I⟩:=P1 h;have e1:(wM t).cnt=1+(t.cnt+0):=rfl;have Y:(wM t).dep=max t.dep 0+1:=rfl;have J:(wM t).form=(uC [t]&&s7 4 1):=rfl;rw[J]at I;simp only[uC,oE]at I;exact LD (by omega) (by omega) I.1.1
theorem UI {a b:Ty}(h:(wD a b).valid=true):a.valid=true/\b.valid=true:=by obtain⟨O,U,I⟩:=P1 h;have e1:(wD a b).cnt=1+(a.cnt+(b.cnt+0)):=rfl;have Y:(wD a b).dep=max a.dep (max b.dep 0)+1:=rfl;have J:(wD a b).form=(uC [a,b]&&s7 3 2):=rfl;rw[J]at I;simp only[uC,oE]at I;exact⟨LD (by omega) (by omega) I.1.1,LD (by omega) (by omega) I.1.2.1⟩
theorem Oe (s:ByteArray):(rh s).valid=true:=by unfold rh;(repeat' split)<;>decide
theorem HT.valid (h:HT r e n u):u.valid=true:=by
 induction h with
 | var _ h=>exact h
 | int=>decide
 | bool=>decide
 | op _ _=>exact Oe _
 | ite _ _ _ _ I _=>exact I
 | lam _ h _=>exact h
 | app _ _ I _=>exact(UI I).2
 | lt _ _ _ I=>exact I
 | fix _ _ h _=>exact h
 | quote _ h _=>exact h
 | splice _ I=>exact Jk I
 | run _ I=>exact Jk I
 | lift _ _ h _=>exact h
theorem vz (g:List Tg)(y:Tg):yF (g++[y])=Rho.set (yF g) y.nm y.lv y.ty:=by funext s m;rw[tL];rfl
theorem QE (g:List Tg)(n:Int):yF (uE g n)=Rho.safe (yF g) n:=by funext s m;rw[Jl];rfl
theorem Md (h:t.valid=true)(hk:t.k=1\/t.k=2):t=if t.k=1 then tInt else tBool:=by
 cases t with
 | mk k l=>
 have hk:k=1\/k=2:=hk;simp only[Ty.valid,Ty.form,oE]at h;have I:=h.2.2;unfold s7 at I;rw[if_pos hk]at I;have:l=[]:=oL (by have:=nF.1 I;omega);subst this;rcases hk with rfl | rfl<;>rfl
theorem VE (h:t.valid=true)(hk:t.k=3):∃ a b,t=wD a b:=by
 cases t with
 | mk k l=>
 have hk:k=3:=hk;subst hk;simp only[Ty.valid,Ty.form,oE]at h;have I:=h.2.2;unfold s7 at I;rw[if_neg (by decide),if_pos rfl]at I;have:l.length=2:=by have:=nF.1 I;omega
 match l,this with
 | [a,b],_=>exact⟨a,b,rfl⟩
theorem Me (h:t.valid=true)(hk:t.k=4):∃ a,t=wM a:=by
 cases t with
 | mk k l=>
 have hk:k=4:=hk;subst hk;simp only[Ty.valid,Ty.form,oE]at h;have I:=h.2.2;unfold s7 at I;rw[if_neg (by decide),if_neg (by decide),if_pos rfl]at I;have:l.length=1:=by have:=nF.1 I;omega
 match l,this with
 | [a],_=>exact⟨a,rfl⟩
theorem len1 (h:l.length=1):∃ b,l=[b]:=by
 match l,h with
 | [b],_=>exact⟨b,rfl⟩
theorem YM (h:l.length=2):∃ a b,l=[a,b]:=by
 match l,h with
 | [a,b],_=>exact⟨a,b,rfl⟩
theorem zA5 (h:l.length=3):∃ a b c,l=[a,b,c]:=by
 match l,h with
 | [a,b,c],_=>exact⟨a,b,c,rfl⟩
theorem TL (s:ByteArray):G3 s=1\/G3 s=2:=by unfold G3;(repeat' split)<;>simp
theorem PN {w:Int}:∀ {I:List Ty},Qj w I=true->∀ t∈I,t.k=w
 | [],_,t,ht=>by simp at ht
 | x::I,h,t,ht=>by
   simp only[Qj,oE,nF,oq]at h;rcases oH.1 ht with rfl | ht
   ·exact h.1
   ·exact PN h.2 t ht
theorem GB:∀ {l:List Tm}{us:List Ty},zS l g n=some us->∀ x∈l,∃ u∈us,x.type g n=some u
 | [],us,h,x,hx=>by simp at hx
 | y :: l,us,h,x,hx=>by
   simp only[zS]at h;split at h
   ·rename_i u J;split at h
    ·rename_i vs I;cases h;rcases oH.1 hx with rfl | hx
     ·exact⟨u,by simp,J⟩
     ·obtain⟨v,hv,O⟩:=GB I x hx;exact⟨v,by simp[hv],O⟩
    ·cases h
   ·cases h
theorem D2:∀(t:Tm),t.ok=true->∀(g:List Tg)(n:Int)(u:Ty),t.lev n=true->t.type g n=some u->HT (yF g) t n u:=by
 refine Tm.ind λk nm ot m ty re l U ab g n u aa h=>?_;simp only[Tm.lev,oE]at aa
 haveI:LvB n:=⟨za.1 aa.1⟩
 have lv:=λx hx=>EJ (x:=x) aa.2 hx;have nd:=zT ab;have O:=nd.ar;have ac:=GA (k:=k) (nm:=nm) (by omega);simp only[Tm.type]at h;obtain⟨h,hv⟩:=Au h;have sub:=nd.sub;rcases ac with rfl | rfl | rfl | rfl | rfl | rfl | rfl | rfl | rfl | rfl | rfl | rfl | rfl
 ·exact .var h hv
 ·cases h;exact .int
 ·cases h;exact .bool
 ·have h:(match zS l g n with | some ts=>zm 4 nm ts | none=>none)=some u:=h;split at h
  ·rename_i ts ah;have h:Ri nm ts=some u:=h;unfold Ri at h;split at h
   ·rename_i ae;cases h;refine .op λx hx=>?_;obtain⟨v,ai,I⟩:=GB ah x hx;have hk:=PN ae v ai;have Y:=Md (Tm.type_valid I) (by rw[hk];exact TL nm);rw[hk]at Y;rw[<-Y];exact U x hx (sub x hx) g n v (lv x hx) I
   ·cases h
  ·cases h
 ·have hl:l.length=3:=by have:(l.length:Int)=3:=O;omega
  obtain⟨a,b,c,rfl⟩:=zA5 hl;have h:(match zS [a,b,c] g n with | some ts=>zm 5 nm ts | none=>none)=some u:=h;simp only[zS]at h;cases ha:a.type g n with
  | none=>rw[ha]at h;cases h
  | some ta=>
  cases Y:b.type g n with
  | none=>rw[ha,Y]at h;cases h
  | some tb=>
  cases hc:c.type g n with
  | none=>rw[ha,Y,hc]at h;cases h
  | some tc=>
  rw[ha,Y,hc]at h;have h:zm 5 nm [ta,tb,tc]=some u:=h;unfold zm at h;rw[if_neg (by decide),if_pos rfl]at h;split at h
  ·rename_i J;cases h;simp only[nk,mV]at J ⊢;obtain⟨c1,c2⟩:ta.k=2/\sB tb tc=true:=by first | exact⟨by simpa using J.1,by simpa using J.2⟩ | (simp at J;exact J)
   have e2:=(w6 tb tc).1 c2;subst e2;have e1:=Md (Tm.type_valid ha) (.inr c1);rw[if_neg (by omega)]at e1;subst e1;exact .ite (U a (by simp) (sub a (by simp)) g n _ (lv a (by simp)) ha) (U b (by simp) (sub b (by simp)) g n _ (lv b (by simp)) Y) (U c (by simp) (sub c (by simp)) g n _ (lv c (by simp)) hc)
  ·cases h
 ·obtain⟨b,rfl⟩:=len1 (l:=l) (by have:(l.length:Int)=1:=O;omega);have h:(match b.type (g++[⟨nm,ty,n⟩]) n with | some b=>some (wD ty b) | none=>none)=some u:=h;split at h
  ·rename_i v I;cases h
   have:=U b (by simp) (sub b (by simp)) _ n v (lv b (by simp)) I
   rw[vz]at this;exact .lam this hv
  ·cases h
 ·obtain⟨f,x,rfl⟩:=YM (l:=l) (by have:(l.length:Int)=2:=O;omega);have h:(match zS [f,x] g n with | some ts=>zm 7 nm ts | none=>none)=some u:=h;simp only[zS]at h;cases ha:f.type g n with
  | none=>rw[ha]at h;cases h
  | some ta=>
  cases Y:x.type g n with
  | none=>rw[ha,Y]at h;cases h
  | some tb=>
  rw[ha,Y]at h;have h:zm 7 nm [ta,tb]=some u:=h;unfold zm at h;rw[if_neg (by decide),if_neg (by decide)]at h;split at h
  ·rename_i J;cases h;simp only[nk,mV]at J ⊢;obtain⟨c1,c2⟩:ta.k=3/\sB (ta.as.getD 0 tZero) tb=true:=by first | exact⟨by simpa using J.1,by simpa using J.2⟩ | (simp at J;exact J)
   obtain⟨a1,b1,rfl⟩:=VE (Tm.type_valid ha) c1;have e2:=(w6 _ _).1 c2;have e2:a1=tb:=e2;subst e2;exact .app (U f (by simp) (sub f (by simp)) g n _ (lv f (by simp)) ha) (U x (by simp) (sub x (by simp)) g n _ (lv x (by simp)) Y)
  ·cases h
 ·obtain⟨a,b,rfl⟩:=YM (l:=l) (by have:(l.length:Int)=2:=O;omega);have h:(match a.type g n with | some a=>b.type (g++[⟨nm,a,n⟩]) n | none=>none)=some u:=h;split at h
  ·rename_i v I
   have:=U b (by simp) (sub b (by simp)) _ n u (lv b (by simp)) h
   rw[vz]at this;exact .lt (U a (by simp) (sub a (by simp)) _ n v (lv a (by simp)) I) this
  ·cases h
 ·obtain⟨b,rfl⟩:=len1 (l:=l) (by have:(l.length:Int)=1:=O;omega);have h:(match b.type ((g++[⟨nm,wD ty re,n⟩])++[⟨ot,ty,n⟩]) n with | some b=>if sB b re then some (wD ty re)else none | none=>none)=some u:=h;split at h
  ·rename_i v I;split at h
   ·rename_i he;cases h
    have:=U b (by simp) (sub b (by simp)) _ n v (lv b (by simp)) I
    rw[vz,vz,(w6 v re).1 he]at this;exact .fix ((Pw (m:=1) (by decide) (Tm.ok_mk.1 ab).2.1).2 rfl).2 this hv
   ·cases h
  ·cases h
 ·obtain⟨b,rfl⟩:=len1 (l:=l) (by have:(l.length:Int)=1:=O;omega);have h:(match b.type g (n+1)with | some t=>z9 10 t | none=>none)=some u:=h;split at h
  ·rename_i v I;have h:some (wM v)=some u:=h;cases h;exact .quote (U b (by simp) (sub b (by simp)) g (n+1) v (lv b (by simp)) I) hv
  ·cases h
 ·obtain⟨b,rfl⟩:=len1 (l:=l) (by have:(l.length:Int)=1:=O;omega);have h:(match b.type g (n - 1)with | some t=>z9 11 t | none=>none)=some u:=h;split at h
  ·rename_i v I;have h:(if v.k=4 then some (v.as.getD 0 tZero)else none)=some u:=h;split at h
   ·rename_i h4;obtain⟨a,rfl⟩:=Me (Tm.type_valid I) h4;cases h;exact .splice (U b (by simp) (sub b (by simp)) g (n - 1) _ (lv b (by simp)) I)
   ·cases h
  ·cases h
 ·obtain⟨b,rfl⟩:=len1 (l:=l) (by have:(l.length:Int)=1:=O;omega);have h:(match b.type (uE g n) n with | some t=>z9 12 t | none=>none)=some u:=h;split at h
  ·rename_i v I;have h:(if v.k=4 then some (v.as.getD 0 tZero)else none)=some u:=h;split at h
   ·rename_i h4;obtain⟨a,rfl⟩:=Me (Tm.type_valid I) h4;cases h
    have:=U b (by simp) (sub b (by simp)) _ n _ (lv b (by simp)) I
    rw[QE]at this;exact .run this
   ·cases h
  ·cases h
 ·obtain⟨b,rfl⟩:=len1 (l:=l) (by have:(l.length:Int)=1:=O;omega);have h:(match b.type g n with | some t=>z9 13 t | none=>none)=some u:=h;split at h
  ·rename_i v I;have h:(if v.base then some (wM v)else none)=some u:=h;split at h
   ·rename_i Y;cases h;exact .lift (U b (by simp) (sub b (by simp)) g n v (lv b (by simp)) I) Y hv
   ·cases h
  ·cases h
theorem rt {o:Option Ty}(h:o=some u)(hv:u.valid=true):vld o=some u:=by rw[h];simp[vld,hv]
theorem L6 {w:Int}{v:Ty}(hk:v.k=w):∀ {l:List Tm},(∀ x∈l,x.type g n=some v)->∃ us,zS l g n=some us/\Qj w us=true
 | [],_=>⟨[],rfl,rfl⟩
 | x::l,h=>by obtain⟨us,I,J⟩:=L6 hk (l:=l) λy O=>h y (by simp[O]);refine⟨v::us,by simp only[zS,h x (by simp),I],by simp[Qj,hk,J]⟩
theorem RX {t:Tm}(h:HT r t n u):∀ g:List Tg,r=yF g->t.type g n=some u:=by
 have I:=h.valid
 induction h with
 | var h hv=>intro g J;subst J;simp only[Tm.type];exact rt h hv
 | int=>intro g J;simp only[Tm.type];exact rt rfl (by decide)
 | bool=>intro g J;simp only[Tm.type];exact rt rfl (by decide)
 | @op r nm ot m ty re l n _ hx U=>
   intro g J;have hk:(if G3 nm=1 then tInt else tBool).k=G3 nm:=by rcases TL nm with h | h<;>rw[h]<;>rfl
   obtain⟨us,h1,h2⟩:=L6 (g:=g) (n:=n) hk (l:=l) λx ab=>U x ab (hx x ab).valid g J;simp only[Tm.type];refine rt ?_ I;show(match zS l g n with | some ts=>zm 4 nm ts | none=>none)=_;rw[h1];show Ri nm us=_;unfold Ri;rw[if_pos h2]
 | @ite r nm ot m ty re a b c n u _ ha O hc Y aa ac=>intro g J;simp only[Tm.type];refine rt ?_ I;show(match zS [a,b,c] g n with | some ts=>zm 5 nm ts | none=>none)=_;simp only[zS,Y ha.valid g J,aa O.valid g J,ac hc.valid g J];have:sB u u=true:=(w6 u u).2 rfl;simp[zm,this,tBool,Ty.k]
 | @lam r nm ot m ty re b n v _ O hv U=>intro g J;simp only[Tm.type];refine rt ?_ I;show(match b.type (g++[⟨nm,ty,n⟩]) n with | some b=>some (wD ty b) | none=>none)=_;have e:=U O.valid (g++[(⟨nm,ty,n⟩:Tg)]) (by rw[vz,J]);rw[e]
 | @app r nm ot m ty re f x n a b _ hf hx ae ah=>intro g J;simp only[Tm.type];refine rt ?_ I;show(match zS [f,x] g n with | some ts=>zm 7 nm ts | none=>none)=_;simp only[zS,ae hf.valid g J,ah hx.valid g J];have:sB a a=true:=(w6 a a).2 rfl;simp[zm,this,wD,Ty.k,Ty.as]
 | @lt r nm ot m ty re a b n t u _ ha O Y aa=>intro g J;simp only[Tm.type];refine rt ?_ I;show(match a.type g n with | some a=>b.type (g++[(⟨nm,a,n⟩:Tg)]) n | none=>none)=_;rw[Y ha.valid g J];exact aa O.valid (g++[(⟨nm,t,n⟩:Tg)]) (by rw[vz,J])
 | @fix r nm ot m ty re b n _ ai O hv U=>intro g J;simp only[Tm.type];refine rt ?_ I;show(match b.type ((g++[⟨nm,wD ty re,n⟩])++[⟨ot,ty,n⟩]) n with | some b=>if sB b re then some (wD ty re)else none | none=>none)=_;have e:=U O.valid ((g++[(⟨nm,wD ty re,n⟩:Tg)])++[(⟨ot,ty,n⟩:Tg)]) (by rw[vz,vz,J]);rw[e];simp only;rw[if_pos ((w6 re re).2 rfl)]
 | @quote r nm ot m ty re b n t _ O hv U=>intro g J;simp only[Tm.type];refine rt ?_ I;show(match b.type g (n+1)with | some t=>z9 10 t | none=>none)=_;rw[U O.valid g J];rfl
 | @splice r nm ot m ty re b n t _ O U=>intro g J;simp only[Tm.type];refine rt ?_ I;show(match b.type g (n - 1)with | some t=>z9 11 t | none=>none)=_;rw[U O.valid g J];rfl
 | @run r nm ot m ty re b n t _ O U=>intro g J;simp only[Tm.type];refine rt ?_ I;show(match b.type (uE g n) n with | some t=>z9 12 t | none=>none)=_;rw[U O.valid (uE g n) (by rw[QE,J])];rfl
 | @lift r nm ot m ty re b n t _ O ht hv U=>intro g J;simp only[Tm.type];refine rt ?_ I;show(match b.type g n with | some t=>z9 13 t | none=>none)=_;rw[U O.valid g J];show(if t.base then some (wM t)else none)=_;rw[if_pos ht]
theorem zM (r:Rho)(x:ByteArray)(n:Int)(t:Ty)(m:Int):r.set x n t x m=if n=m then some t else none:=by unfold Rho.set;rw[if_pos rfl]
theorem zB (r:Rho)(h:s≠x)(n:Int)(t:Ty)(m:Int):r.set x n t s m=r s m:=by unfold Rho.set;rw[if_neg (λI=>h I.symm)]
theorem rk {m:Int}:r.safe n s m=some t↔r s m=some t/\m<=n/\t.base=true:=by
 unfold Rho.safe;split
 ·rename_i u I;rw[I];split
  ·rename_i h;constructor
   ·intro e;cases e;exact⟨rfl,h⟩
   ·intro e;exact e.1
  ·rename_i h;constructor
   ·intro e;cases e
   ·intro e;cases e.1;exact absurd e.2 h
 ·rename_i I;rw[I];simp
theorem pD (hk:k≠1){j:Nat}(I:l[j]?=some p)(hs:s∈p.fv)(hn:s∉bdN k nm ot l.length):s∈(Tm.mk k nm ot n ty re l).fv:=by
 refine Tm.fv_mem.2 (.inr ⟨hk,j,p,I,?_⟩);unfold fvI;split
 ·exact xc.2 ⟨hs,hn⟩
 ·exact hs
theorem Mh (hk:k≠1){j:Nat}(I:l[j]?=some p)(hs:s∈p.fv)(hn:(j:Int)≠yB k l.length):s∈(Tm.mk k nm ot n ty re l).fv:=by refine Tm.fv_mem.2 (.inr ⟨hk,j,p,I,?_⟩);unfold fvI;rw[if_neg hn];exact hs
theorem qI (h:HT r e n u):∀ r':Rho,(∀ s∈e.fv,∀ m,r s m=r' s m)->HT r' e n u:=by
 induction h with
 | @var r nm ot m ty re l n u _ h hv=>exact λr' hr=>.var (by rw[<-hr nm (Tm.fv_mem.2 (.inl ⟨rfl,rfl⟩))];exact h) hv
 | int=>exact λr' hr=>.int
 | bool=>exact λr' hr=>.bool
 | op h I=>exact λr' hr=>.op λx hx=>I x hx r' λs hs m=>hr s (by obtain⟨j,hj,aa⟩:=List.getElem_of_mem hx;exact pD (by decide) (oC.2 ⟨hj,aa⟩) hs (by simp[bdN])) m
 | ite _ _ _ J O ab=>
   exact λr' hr=>.ite (J r' λs hs m=>hr s (pD (by decide) (j:=0) rfl hs (by simp[bdN])) m) (O r' λs hs m=>hr s (pD (by decide) (j:=1) rfl hs (by simp[bdN])) m)
    (ab r' λs hs m=>hr s (pD (by decide) (j:=2) rfl hs (by simp[bdN])) m)
 | @lam r nm ot m ty re b n v _ _ hv I=>
   refine λr' hr=>.lam (I _ λs hs U=>?_) hv;by_cases e:s=nm
   ·subst e;rw[zM,zM]
   ·rw[zB _ e,zB _ e];exact hr s (pD (by decide) (j:=0) rfl hs (by simpa [bdN]using e)) U
 | app _ _ ac ae=>exact λr' hr=>.app (ac r' λs hs m=>hr s (pD (by decide) (j:=0) rfl hs (by simp[bdN])) m) (ae r' λs hs m=>hr s (pD (by decide) (j:=1) rfl hs (by simp[bdN])) m)
 | @lt r nm ot m ty re a b n t u _ _ _ J O=>
   refine λr' hr=>.lt (J r' λs hs U=>hr s (Mh (by decide) (j:=0) rfl hs (by simp[yB])) U) (O _ λs hs U=>?_);by_cases e:s=nm
   ·subst e;rw[zM,zM]
   ·rw[zB _ e,zB _ e];exact hr s (pD (by decide) (j:=1) rfl hs (by simpa [bdN]using e)) U
 | @fix r nm ot m ty re b n _ ah _ hv I=>
   refine λr' hr=>.fix ah (I _ λs hs U=>?_) hv;by_cases e:s=ot
   ·subst e;rw[zM,zM]
   ·rw[zB _ e,zB _ e];by_cases Y:s=nm
    ·subst Y;rw[zM,zM]
    ·rw[zB _ Y,zB _ Y];exact hr s (pD (by decide) (j:=0) rfl hs (by simp[bdN,e,Y])) U
 | quote _ hv I=>exact λr' hr=>.quote (I r' λs hs m=>hr s (pD (by decide) (j:=0) rfl hs (by simp[bdN])) m) hv
 | splice _ I=>exact λr' hr=>.splice (I r' λs hs m=>hr s (pD (by decide) (j:=0) rfl hs (by simp[bdN])) m)
 | run _ I=>exact λr' hr=>.run (I _ λs hs m=>by unfold Rho.safe;rw[hr s (pD (by decide) (j:=0) rfl hs (by simp[bdN])) m])
 | lift _ hb hv I=>exact λr' hr=>.lift (I r' λs hs m=>hr s (pD (by decide) (j:=0) rfl hs (by simp[bdN])) m) hb hv
theorem ZH (h:HT r e n u):∀ r':Rho,(∀ s m t,r s m=some t->r' s m=some t)->HT r' e n u:=by
 have I:∀ {r r':Rho} {x:ByteArray} {n:Int} {t:Ty},(∀ s m t,r s m=some t->r' s m=some t)->∀ s m u,r.set x n t s m=some u->r'.set x n t s m=some u:=by
  intro r r' x n t h s m u Y;by_cases e:s=x
  ·subst e;rw[zM]at Y ⊢;exact Y
  ·rw[zB _ e]at Y ⊢;exact h _ _ _ Y
 induction h with
 | var h hv=>exact λr' hr=>.var (hr _ _ _ h) hv
 | int=>exact λr' hr=>.int
 | bool=>exact λr' hr=>.bool
 | op h J=>exact λr' hr=>.op λx hx=>J x hx r' hr
 | ite _ _ _ O U aa=>exact λr' hr=>.ite (O r' hr) (U r' hr) (aa r' hr)
 | lam _ hv J=>exact λr' hr=>.lam (J _ (I hr)) hv
 | app _ _ ab ac=>exact λr' hr=>.app (ab r' hr) (ac r' hr)
 | lt _ _ O U=>exact λr' hr=>.lt (O r' hr) (U _ (I hr))
 | fix ae _ hv J=>exact λr' hr=>.fix ae (J _ (I (I hr))) hv
 | quote _ hv J=>exact λr' hr=>.quote (J r' hr) hv
 | splice _ J=>exact λr' hr=>.splice (J r' hr)
 | run _ J=>exact λr' hr=>.run (J _ λs m t ht=>by obtain⟨h1,h2⟩:=rk.1 ht;exact rk.2 ⟨hr _ _ _ h1,h2⟩)
 | lift _ hb hv J=>exact λr' hr=>.lift (J r' hr) hb hv
theorem Xc (h:HT r e n u):e.made n=true->1<=n->HT (λs m=>r s (m+1)) e (n - 1) u:=by
 have O:∀(r:Rho) (x:ByteArray) (n:Int) (t:Ty),(λs m=>r.set x n t s (m+1))=Rho.set (λs m=>r s (m+1)) x (n - 1) t:=by
  intro r x n t;funext s m;unfold Rho.set;split
  ·by_cases e:n=m+1
   ·rw[if_pos e,if_pos (by omega)]
   ·rw[if_neg e,if_neg (by omega)]
  ·rfl
 have Y:∀(r:Rho) (n:Int),(λs m=>r.safe n s (m+1))=Rho.safe (λs m=>r s (m+1)) (n - 1):=by
  intro r n;funext s m;unfold Rho.safe;split
  ·rename_i t ht;simp only[ht];by_cases e:m+1<=n/\t.base=true
   ·rw[if_pos e,if_pos ⟨by omega,e.2⟩]
   ·rw[if_neg e,if_neg (λh=>e ⟨by omega,h.2⟩)]
  ·rename_i ht;simp only[ht]
 have lv:∀ {n:Int},LvB n->1<=n->LvB (n - 1):=λh I=>⟨by have:=h.h;omega⟩
 have mp:∀ {k:Int} {nm ot:ByteArray} {m:Int} {ty re:Ty} {l:List Tm} {n:Int},(Tm.mk k nm ot m ty re l).made n=true->∀ x∈l,x.made (zP k n)=true:=λh x hx=>by simp only[Tm.made,oE]at h;exact HO.1 h.2 x hx
 have m0:∀ {k:Int} {nm ot:ByteArray} {m:Int} {ty re:Ty} {b:Tm} {n:Int},(Tm.mk k nm ot m ty re [b]).made n=true->b.made (zP k n)=true:=λh=>mp h _ (by simp)
 induction h with
 | @var _ _ _ _ _ _ _ _ _ i h hv=>exact λJ I=>haveI:=lv i I;.var (by simpa using h) hv
 | @int _ _ _ _ _ _ _ _ i=>exact λJ I=>haveI:=lv i I;.int
 | @bool _ _ _ _ _ _ _ _ i=>exact λJ I=>haveI:=lv i I;.bool
 | @op _ _ _ _ _ _ _ _ i h U=>exact λJ I=>haveI:=lv i I;.op λx hx=>U x hx (mp J x hx) I
 | @ite _ _ _ _ _ _ _ _ _ _ _ i _ _ _ aa ab ac=>exact λJ I=>haveI:=lv i I;.ite (aa (mp J _ (by simp)) I) (ab (mp J _ (by simp)) I) (ac (mp J _ (by simp)) I)
 | @lam _ _ _ _ _ _ _ _ _ i _ hv U=>exact λJ I=>haveI:=lv i I;.lam (by have:=U (m0 J) I;rwa[O]at this) hv
 | @app _ _ _ _ _ _ _ _ _ _ _ i _ _ ae ah=>exact λJ I=>haveI:=lv i I;.app (ae (mp J _ (by simp)) I) (ah (mp J _ (by simp)) I)
 | @lt _ _ _ _ _ _ _ _ _ _ _ i _ _ aa ab=>exact λJ I=>haveI:=lv i I;.lt (aa (mp J _ (by simp)) I) (by have:=ab (mp J _ (by simp)) I;rwa[O]at this)
 | @fix _ _ _ _ _ _ _ _ i ai _ hv U=>exact λJ I=>haveI:=lv i I;.fix ai (by have:=U (m0 J) I;rwa[O,O]at this) hv
 | @quote _ _ _ _ _ _ _ n _ i _ hv U=>exact λJ I=>haveI:=lv i I;.quote (by have:=U (m0 J) (by omega);rwa[show n+1 - 1=n - 1+1 from by omega]at this) hv
 | @splice _ _ _ _ _ _ _ n _ i hb U=>
   intro J I
   haveI:=lv i I
   have h2:¬n=1:=λe=>by
    simp only[Tm.made,oE]at J
    have:=J.1
    rw[e]at this;exact absurd this (by decide)
   exact .splice (U (m0 J) (by omega))
 | @run _ _ _ _ _ _ _ _ _ i _ U=>exact λJ I=>haveI:=lv i I;.run (by have:=U (m0 J) I;rwa[Y]at this)
 | @lift _ _ _ _ _ _ _ _ _ i _ hb hv U=>exact λJ I=>haveI:=lv i I;.lift (U (m0 J) I) hb hv
def PutOk (b:Tm)(r:Rho)(k:Int)(t:Ty):Prop:=(HT r b k t/\(t.base=true->∀ I,HT I b k t))\/∃ y,b=ru y/\r y k=some t
theorem PutOk.cong (h:PutOk b r k t)(hr:∀ s∈b.fv,∀ m,r s m=r' s m):PutOk b r' k t:=by
 rcases h with⟨I,J⟩ | ⟨y,rfl,O⟩
 ·exact .inl ⟨qI I r' hr,J⟩
 ·exact .inr ⟨y,rfl,by rw[<-hr y (by rw[LE];simp)];exact O⟩
theorem PutOk.safe (h:PutOk b r k t)(I:t.base=true)(hk:k<=n):PutOk b (r.safe n) k t:=by
 rcases h with⟨U,J⟩ | ⟨y,rfl,O⟩
 ·exact .inl ⟨J I _,J⟩
 ·exact .inr ⟨y,rfl,rk.2 ⟨O,hk,I⟩⟩
def UV (f:Nat):Prop:=∀(e:Tm) (x:ByteArray) (b:Tm) (r r':Rho) (n:Int) (u:Ty),e.dp<=f->HT r e n u->(∀ s,s≠x->∀ m,r s m=r' s m)->(∀ k t,r x k=some t->PutOk b r' k t)->HT r' (e.sub f x b) n u
theorem PA (U:UV f){old:ByteArray}{R R':Rho}(hd:p.dp<=f)(h:HT R p n u)(Y:∀ s,s≠old->s≠w->∀ m,R s m=R' s m)(hw:w∉p.fv)(I:w≠old)(J:∀ k,R old k=R' w k):
  HT R' (p.sub f old (ru w)) n u:=by
 have h2:=qI h (λs m=>if s=w then R' w m else R s m) λs hs m=>by have e:¬s=w:=λe=>hw (e ▸ hs);rw[if_neg e]
 refine U p old (ru w) _ R' n u hd h2 (λs hs m=>?_) λk t O=>?_
 ·split
  ·rename_i e;rw[e]
  ·rename_i e;exact Y s hs e m
 ·rw[if_neg (λe=>I e.symm),J]at O;exact .inr ⟨w,rfl,O⟩
theorem zAs (f:Nat)(nm ot:ByteArray)(m:Int)(ty re:Ty)(p:Tm)(x:ByteArray)(b:Tm):(Tm.mk 6 nm ot m ty re [p]).sub (f+1) x b =
  if x∈[nm]\/x∉p.fv then .mk 6 nm ot m ty re [p]else .mk 6 (rn1 (Tm.sub f) 6 1 b.fv x nm (nm,ot,p)).1 (rn1 (Tm.sub f) 6 1 b.fv x nm (nm,ot,p)).2.1 m ty re [Tm.sub f (rn1 (Tm.sub f) 6 1 b.fv x nm (nm,ot,p)).2.2 x b]:=by
 simp only[Tm.sub];rfl
theorem zAt (f:Nat)(nm ot:ByteArray)(m:Int)(ty re:Ty)(a p:Tm)(x:ByteArray)(b:Tm):(Tm.mk 8 nm ot m ty re [a,p]).sub (f+1) x b =
  if x∈[nm]\/x∉p.fv then .mk 8 nm ot m ty re [a.sub f x b,p]else .mk 8 (rn1 (Tm.sub f) 8 2 b.fv x nm (nm,ot,p)).1 (rn1 (Tm.sub f) 8 2 b.fv x nm (nm,ot,p)).2.1 m ty re [a.sub f x b,Tm.sub f (rn1 (Tm.sub f) 8 2 b.fv x nm (nm,ot,p)).2.2 x b]:=by
 simp only[Tm.sub];rfl
theorem zAu (f:Nat)(nm ot:ByteArray)(m:Int)(ty re:Ty)(p:Tm)(x:ByteArray)(b:Tm):(Tm.mk 9 nm ot m ty re [p]).sub (f+1) x b =
  if x∈[nm,ot]\/x∉p.fv then .mk 9 nm ot m ty re [p]else .mk 9 (rn1 (Tm.sub f) 9 1 b.fv x ot (rn1 (Tm.sub f) 9 1 b.fv x nm (nm,ot,p))).1 (rn1 (Tm.sub f) 9 1 b.fv x ot (rn1 (Tm.sub f) 9 1 b.fv x nm (nm,ot,p))).2.1 m ty re
   [Tm.sub f (rn1 (Tm.sub f) 9 1 b.fv x ot (rn1 (Tm.sub f) 9 1 b.fv x nm (nm,ot,p))).2.2 x b]:=by
 simp only[Tm.sub];rfl
theorem uB {m:Int}(I:¬k=1)(J:yB k l.length<0):(Tm.mk k nm ot m ty re l).sub (f+1) x b=.mk k nm ot m ty re (l.map λt=>t.sub f x b):=by simp only[Tm.sub];rw[if_neg I,if_pos J]
theorem QK (hS:UV f){c:Nat}(hd:p.dp<=f)(hm:nm∈bdN k nm ot c)(h:HT (r.set nm n ty) p n u)(hr:∀ s,s≠x->∀ m,r s m=r' s m)(hg:∀ k t,r x k=some t->PutOk b r' k t)(hx:x≠nm):HT (r'.set (rn1 (Tm.sub f) k c b.fv x nm (nm,ot,p)).1 n ty) (Tm.sub f (rn1 (Tm.sub f) k c b.fv x nm (nm,ot,p)).2.2 x b) n u:=by
 have fin:∀(w:ByteArray) (q:Tm),q.dp<=f->w∉b.fv->x≠w->HT (r.set w n ty) q n u->HT (r'.set w n ty) (Tm.sub f q x b) n u:=by
  intro w q hq O U h2;refine hS q x b _ _ n u hq h2 (λs hs m=>?_) λk t ht=>?_
  ·by_cases e:s=w
   ·subst e;rw[zM,zM]
   ·rw[zB _ e,zB _ e];exact hr s hs m
  ·rw[zB _ U]at ht;refine(hg k t ht).cong λs hs m=>?_;have e:s≠w:=λe=>O (e ▸ hs);rw[zB _ e]
 have I:=(Bl (uA f) k c b.fv x nm (nm,ot,p)).d;unfold rn1 at I ⊢;split
 ·rename_i hold;rw[if_pos hold]at I;simp only[nj]at I ⊢;have J:=rQ (b.fv++(p.fv++([x]++bdN k nm ot c)));generalize fresh (b.fv++(p.fv++([x]++bdN k nm ot c)))=w at J I ⊢;simp only[oM,oH,oh,mK,not_or]at J;obtain⟨Y,aa,ab,ac⟩:=J;refine fin w _ (oP I hd) Y (λe=>ab e.symm) (PA hS hd h (λs hs O m=>?_) aa (λe=>ac (e ▸ hm)) λk=>?_)
  ·rw[zB _ hs,zB _ O]
  ·rw[zM,zM]
 ·rename_i hold;exact fin nm p hd hold hx h
theorem T5 (hS:UV f){tf:Ty}(hd:p.dp<=f)(ae:nm≠ot)(h:HT ((r.set nm n tf).set ot n ty) p n u)(hr:∀ s,s≠x->∀ m,r s m=r' s m)(hg:∀ k t,r x k=some t->PutOk b r' k t)(hx:x≠nm)(ah:x≠ot):∃ a c q,rn1 (Tm.sub f) 9 1 b.fv x ot (rn1 (Tm.sub f) 9 1 b.fv x nm (nm,ot,p))=(a,c,q)/\a≠c/\HT ((r'.set a n tf).set c n ty) (Tm.sub f q x b) n u:=by
 have fin:∀(a c:ByteArray) (q:Tm),q.dp<=f->a∉b.fv->c∉b.fv->x≠a->x≠c->HT ((r.set a n tf).set c n ty) q n u->HT ((r'.set a n tf).set c n ty) (Tm.sub f q x b) n u:=by
  intro a c q hq ha hc ai aj h2;refine hS q x b _ _ n u hq h2 (λs hs m=>?_) λk t ht=>?_
  ·by_cases e:s=c
   ·subst e;rw[zM,zM]
   ·rw[zB _ e,zB _ e];by_cases e2:s=a
    ·subst e2;rw[zM,zM]
    ·rw[zB _ e2,zB _ e2];exact hr s hs m
  ·rw[zB _ aj,zB _ ai]at ht;refine(hg k t ht).cong λs hs m=>?_;have e:s≠c:=λe=>hc (e ▸ hs);have e2:s≠a:=λe=>ha (e ▸ hs);rw[zB _ e,zB _ e2]
 obtain⟨a,O,e1,d1,a1,a2,a3,h1⟩:∃ a O,rn1 (Tm.sub f) 9 1 b.fv x nm (nm,ot,p)=(a,ot,O)/\O.dp<=f/\a∉b.fv/\x≠a/\a≠ot/\HT ((r.set a n tf).set ot n ty) O n u:=by
  have I:=(Bl (uA f) 9 1 b.fv x nm (nm,ot,p)).d;unfold rn1 at I ⊢;split
  ·rename_i hold;rw[if_pos hold]at I;simp only[nj]at I ⊢;have J:=rQ (b.fv++(p.fv++([x]++bdN 9 nm ot 1)));generalize fresh (b.fv++(p.fv++([x]++bdN 9 nm ot 1)))=w at J I ⊢;rw[show bdN 9 nm ot 1=[nm,ot]from rfl]at J;simp only[oM,oH,oh,mK,not_or]at J;obtain⟨Y,aa,ab,ac,U⟩:=J;refine⟨w,_,rfl,oP I hd,Y,λe=>ab e.symm,U,PA hS hd h (λs hs hw m=>?_) aa ac λk=>?_⟩
   ·by_cases e:s=ot
    ·subst e;rw[zM,zM]
    ·rw[zB _ e,zB _ e,zB _ hs,zB _ hw]
   ·rw[zB _ ae,zB _ U,zM,zM]
  ·rename_i hold;exact⟨nm,p,rfl,hd,hold,hx,ae,h⟩
 rw[e1];have I:=(Bl (uA f) 9 1 b.fv x ot (a,ot,O)).d;unfold rn1 at I ⊢;split
 ·rename_i hold;rw[if_pos hold]at I;simp only[if_neg a3]at I ⊢;have J:=rQ (b.fv++(O.fv++([x]++bdN 9 a ot 1)));generalize fresh (b.fv++(O.fv++([x]++bdN 9 a ot 1)))=w at J I ⊢;rw[show bdN 9 a ot 1=[a,ot]from rfl]at J;simp only[oM,oH,oh,mK,not_or]at J;obtain⟨Y,aa,ab,ac,U⟩:=J;refine⟨a,w,_,rfl,λe=>ac e.symm,fin a w _ (oP I d1) a1 Y a2 (λe=>ab e.symm) (PA hS d1 h1 (λs hs hw m=>?_) aa U λk=>?_)⟩
  ·rw[zB _ hs,zB _ hw]
  ·rw[zM,zM]
 ·rename_i hold;exact⟨a,ot,O,rfl,a3,fin a ot O d1 a1 hold a2 ah h1⟩
theorem T6:∀ f,UV f
 | 0,e,x,b,r,r',n,u,h,_,_,_=>absurd (Tm.dp_pos e) (by omega)
 | f + 1,e,x,b,r,r',n,u,hd,h,hr,O=>by
   have U:=T6 f;have I:∀ {k nm ot m ty re l},(Tm.mk k nm ot m ty re l).dp<=f+1->∀ y∈l,y.dp<=f:=λh y hy=>by simp only[Tm.dp]at h;exact uZ.1 (mN h) y hy
   cases h with
   | @var _ nm ot m ty re l _ _ _ hv aa=>
     simp only[Tm.sub,nj];split
     ·rename_i e;subst e;rcases O _ _ hv with⟨h1,_⟩ | ⟨y,rfl,hy⟩
      ·exact h1
      ·exact .var hy aa
     ·rename_i e;exact .var (by rw[<-hr nm e];exact hv) aa
   | int=>rw[uB (by decide) (by simp[yB])];exact .int
   | bool=>rw[uB (by decide) (by simp[yB])];exact .bool
   | op h1=>rw[uB (by decide) (by simp[yB])];refine .op λy hy=>?_;obtain⟨z,hz,rfl⟩:=oT.1 hy;exact U z x b r r' n _ (I hd z hz) (h1 z hz) hr O
   | ite ha J hc=>rw[uB (by decide) (by simp[yB])];exact .ite (U _ x b r r' n _ (I hd _ (by simp)) ha hr O) (U _ x b r r' n _ (I hd _ (by simp)) J hr O) (U _ x b r r' n _ (I hd _ (by simp)) hc hr O)
   | @lam _ nm ot m ty re p _ v _ J hv=>
     rw[zAs];split
     ·rename_i hc;refine .lam (qI J _ λs hs k=>?_) hv;by_cases e:s=nm
      ·subst e;rw[zM,zM]
      ·rw[zB _ e,zB _ e];refine hr s (λY=>?_) k;subst Y;rcases hc with hc | hc
       ·exact e (by simpa using hc)
       ·exact hc hs
     ·rename_i hc;exact .lam (QK U (I hd _ (by simp)) (by simp[bdN]) J hr O (λe=>hc (.inl (by simp[e])))) hv
   | app hf hx=>rw[uB (by decide) (by simp[yB])];exact .app (U _ x b r r' n _ (I hd _ (by simp)) hf hr O) (U _ x b r r' n _ (I hd _ (by simp)) hx hr O)
   | @lt _ nm ot m ty re a p _ t _ _ ha J=>
     have ab:=U _ x b r r' n _ (I hd a (by simp)) ha hr O;rw[zAt];split
     ·rename_i hc;refine .lt ab (qI J _ λs hs k=>?_);by_cases e:s=nm
      ·subst e;rw[zM,zM]
      ·rw[zB _ e,zB _ e];refine hr s (λY=>?_) k;subst Y;rcases hc with hc | hc
       ·exact e (by simpa using hc)
       ·exact hc hs
     ·rename_i hc;exact .lt ab (QK U (I hd p (by simp)) (by simp[bdN]) J hr O (λe=>hc (.inl (by simp[e]))))
   | @fix _ nm ot m ty re p _ _ ac J hv=>
     rw[zAu];split
     ·rename_i hc;refine .fix ac (qI J _ λs hs k=>?_) hv;by_cases e:s=ot
      ·subst e;rw[zM,zM]
      ·rw[zB _ e,zB _ e];by_cases e1:s=nm
       ·subst e1;rw[zM,zM]
       ·rw[zB _ e1,zB _ e1];refine hr s (λY=>?_) k;subst Y;rcases hc with hc | hc
        ·simp[e,e1]at hc
        ·exact hc hs
     ·rename_i hc;obtain⟨a,c,q,e1,Y,e3⟩:=T5 U (I hd p (by simp)) ac J hr O (λe=>hc (.inl (by simp[e]))) (λe=>hc (.inl (by simp[e])));rw[e1];exact .fix Y e3 hv
   | quote J hv=>rw[uB (by decide) (by simp[yB])];exact .quote (U _ x b r r' _ _ (I hd _ (by simp)) J hr O) hv
   | splice J=>rw[uB (by decide) (by simp[yB])];exact .splice (U _ x b r r' _ _ (I hd _ (by simp)) J hr O)
   | run J=>rw[uB (by decide) (by simp[yB])];refine .run (U _ x b _ _ _ _ (I hd _ (by simp)) J (λs hs m=>by unfold Rho.safe;rw[hr s hs m]) λk t ht=>?_);obtain⟨h1,h2,h3⟩:=rk.1 ht;exact(O k t h1).safe h3 h2
   | lift J ht hv=>rw[uB (by decide) (by simp[yB])];exact .lift (U _ x b r r' _ _ (I hd _ (by simp)) J hr O) ht hv
theorem ZI (h:HT r e n u)(hr:∀ s,s≠x->∀ m,r s m=r' s m)(I:∀ k t,r x k=some t->PutOk b r' k t):HT r' (e.sb x b) n u:=
 T6 _ e x b r r' n u (oD _) h hr I
open Go Go.Proofs Go.RowKit Go.Shelf
attribute [local go_sem] Oper.semAt_some
set_option maxRecDepth 100000 in
set_option maxHeartbeats 2000000 in
theorem W6 (F:Fence) (n:Nat) (h8:F.fn 89) (hro:F.round=none) (hn:1<=n) (l Bs b off len cap:Nat) (a:Option Addr) (ha:0<len->a=some ⟨b,off,none⟩) (f:Nat->ByteArray × Int × (Option Addr × Nat × Nat) × Bool) (hreach:len*24<=140737488351232) (J Jx:Nat->World->Prop)
  (hJ:∀ i W,J i W->W.cell? ⟨Bs,0,none⟩=some (.slice a len cap)/\∀ j,j<len->W.cell? ⟨b,off+j*4,none⟩=some (.string (f j).1)/\W.cell? ⟨b,off+j*4+1,none⟩=some (.int .i64 (f j).2.1)/\W.cell? ⟨b,off+j*4+2,none⟩=some (.slice (f j).2.2.1.1 (f j).2.2.1.2.1 (f j).2.2.1.2.2)/\W.cell? ⟨b,off+j*4+3,none⟩=some (.bool (f j).2.2.2))
  (hY:∀ i W,i<len->J i W->YieldAt F (n - 1) Tryz.prog l #[.int .i64 ((len - 1 - i:Nat):Int),.agg #[.string (f (len - 1 - i)).1,.int .i64 (f (len - 1 - i)).2.1,.slice (f (len - 1 - i)).2.2.1.1 (f (len - 1 - i)).2.2.1.2.1 (f (len - 1 - i)).2.2.1.2.2,.bool (f (len - 1 - i)).2.2.2]] W fun e W'=>(e=.returned (.bool true)/\J (i+1) W')\/(e=.returned (.bool false)/\Jx (i+1) W'))
  (W:World) (h0:J 0 W) :
  CallsIn F n Tryz.prog 89 #[.func (.yield l) #[] #[],.pointer (some ⟨Bs,0,none⟩)] W fun e W'=>(∃ v,e=.returned v)/\(J len W'\/∃ k,k<=len/\Jx k W'):=by
 have hBs:=(hJ 0 W h0).1;refine callsIn_of_wp Tryz.func89 rfl h8 ?_ hro;simp only[Tryz.ntmps89,nM,oJ,oN,Nat.reduceAdd,Nat.reduceSub,ma,mb,mu,me,oV,nE]
 gi_wp2
 gi_loopw [3] (fun i wr=>∃ k:Nat,k<=len/\i=.int .i64 ((len:Int) - 1 - k)/\J k wr)
  (fun i _=>(intOf i+1).toNat)
 case atStart=>exact⟨0,Nat.zero_le _,by simp,h0⟩
 case round=>
  obtain⟨k,hk,rfl,hJs⟩:=hrel;by_cases hlt:k<len
  ·obtain rfl:=ha (by omega);obtain⟨fn,tmps,assign,body,hy,hR⟩:=hY k wr hlt hJs;obtain⟨hB2,hc⟩:=hJ k wr hJs;obtain⟨h1,h2,h3,h4⟩:=hc (len - 1 - k) (by omega);have hnn:(0:Int)<=(len:Int) - 1 - k:=by omega
   have e1:((len:Int) - 1 - k).toNat=len - 1 - k:=by omega
   have e2:((len - 1 - k:Nat):Int)=(len:Int) - 1 - k:=by omega
   rw[e2]at hy
   gi_wp2
   refine hR.mono ?_
   rintro e W3 (⟨rfl,hJ3⟩ | ⟨rfl,hJx3⟩)
   ·gi_wp2
    go_roundw
    case rel=>exact⟨k+1,by omega,by simp;omega,hJ3⟩
    case measure=>simp[intOf];omega
   ·gi_wp2
    refine bodyPost_ret (results_none rfl _ _ _) rfl ?_;exact⟨⟨_,rfl⟩,.inr ⟨k+1,by omega,hJx3⟩⟩
  ·obtain rfl:k=len:=by omega
   gi_wp2
   go_end0
   exact⟨⟨_,rfl⟩,.inl hJs⟩
theorem Yt (F:Fence) (n:Nat) (h:F.fn 40) (I:F.round=none) (a:Option Addr) (len cap:Nat) (W:World) :
  CallsIn F n Tryz.prog 40 #[.slice a len cap] W λe W'=>e=.returned (.func (.func 89) #[] #[.pointer (some ⟨W.heap.size,0,none⟩)])/\W'=W.alloc (.cells #[.slice a len cap] 24 (0,0)):=by
 refine callsIn_of_wp Tryz.func40 rfl h ?_ I;simp only[Tryz.ntmps40,nM,oJ,oN,Nat.reduceAdd,Nat.reduceSub,ma,mb,mu,me,oV,nE]
 gi_wp2
 go_ret
 exact⟨rfl,rfl⟩
theorem Qh {t u x:Tm}{d e f:D}(h:t.Is d)(g:u.Is e)(i:x.Is f):All2 Tm.Is [t,u,x] [d,e,f]:=⟨d,[e,f],rfl,h,J4 g i⟩
theorem Nx {k:Int}(h:s5 k=true):k=1\/k=2\/k=3\/k=4\/k=5\/k=8:=by simp only[s5,nB,za,nF]at h;omega
theorem SD:∀(t:Tm),YV 121 t:=by
 refine Tm.ind λk nm ot n0 ty re l ih d hd aq hB v a c hc N Q hQ=>?_;have aj:=hd;have al:=aq;have az:=hB;have a0:=hc;have node:=zT aq;simp only[Tm.isB,oE]at hB;obtain⟨t0,t1,r0,r1,a1,es,c1,rfl,hh,bg,au⟩:=Tm.is_mk.1 hd;simp only[Tm.cnt]at hc;have p1:=ty.cnt_pos;have p2:=re.cnt_pos;have ae:(k=8->wg l v=true)->(Tm.mk k nm ot n0 ty re l).code v=Tm.nod 10 [.mk k nm ot n0 ty re (uH l k nm v)]->∀ N1,N<=N1->∀ Q':QT [.ag 9],(∀ d' N2,N1<=N2->(∀ N3,N2<=N3->Q d' N3)->Q' d' N2) ->
   ACalls prog 177 [.ag 9] [.dg 9 (.ag [.j k,.t nm,.t ot,.j n0,t0,t1,r0,r1,.sl a1 9 es c1]),.sv a 2 (v.map bdD) c] N1 Q':=λh8 he N1 aw Q' a3=>by
  refine Up ih aj al az v a c a0 h8 N1 Q' λd' N2 ax J ho=>a3 d' N2 ax λN3 ac=>hQ _ _ (by omega) (by rw[he];exact J) (ho.mono aw ac)
 refine Ik N _ a _ c Q λ_ _ N1 aw=>?_;refine rI _ _ aj al v a c (by omega) N1 _ λN2 ax _=>Br.not (λhb=>⟨⟨rfl,rfl⟩,λa2 _ N3 ac ah=>?_⟩) λhb=>⟨_,rfl,Br.beq (λhk N3 ac=>?_) λhk=>⟨_,rfl,?_⟩⟩
 ·refine uW 13 (sQ aj) (by simp) (by simp only[oW,forall_eq];omega) a2 1 N3 _ λd' N4 am J ho _=>⟨xI ah ho,λ_ N5 aa=>?_⟩
  refine hQ _ _ (by omega) ?_ (ho.mono (by omega) aa);simp only[Tm.code,hb,nj];exact J
 ·refine Dn _ _ aj (by omega) N3 _ λd' N4 am J ho _ _ N5 aa=>?_;refine hQ _ _ (by omega) ?_ (ho.mono (by omega) aa);simp only[Tm.code,hb,ni,nQ,if_pos hk];exact J
 ·have I:(Tm.mk k nm ot n0 ty re l).code v=if k≠4/\wg l v=false then .mk k nm ot n0 ty re (t5 l k nm v)else Tm.nod 10 [.mk k nm ot n0 ty re (uH l k nm v)]:=by simp only[Tm.code,hb,ni,nQ,if_neg hk]
  have kc:=Nx hB.2;refine Br.beq (λh5=>?_) λh5=>⟨_,rfl,Br.beq (λh8=>?_) λh8 N3 ac=>?_⟩
  ·have U:=node.ar;subst h5;rw[show sA 5 nm=3 from rfl]at U;obtain⟨Y,x1,x2,d0,d1,d2,rfl,rfl,h0,h1,h2⟩:=t3 au U;obtain⟨rfl,rfl,rfl,rfl,a4⟩:=G1 node (.inl rfl);obtain rfl:=a4 rfl;simp only[zG]at hc;have q0:=Y.cnt3;have q1:=x1.cnt3;have q2:=x2.cnt3;have g1:=sU x1 v;have g2:=sU x2 v;have m0:Y∈[Y,x1,x2]:=by simp
   have m1:x1∈[Y,x1,x2]:=by simp
   have m2:x2∈[Y,x1,x2]:=by simp
   refine⟨_,_,_,rfl,⟨by decide,by simp⟩,λN3 ac=>?_⟩;refine rI Y d0 h0 (node.sub Y m0) v a c (by omega) N3 _ λN4 am _=>Br.not (λO=>⟨_,_,_,rfl,⟨by decide,by simp⟩,_,_,_,rfl,⟨by decide,by simp⟩,_,_,_,rfl,⟨by decide,by simp⟩,λN5 aa=>?_⟩) λO=>⟨_,rfl,Br.beq (λh=>absurd h (by decide)) λ_ N5 aa=>?_⟩
   ·refine ih x1 m1 d1 h1 (node.sub x1 m1) (yo hB.1 m1) v a c (by omega) N5 _ λe1 N6 ak ao a6 _ _ N7 ab=>?_;refine ih x2 m2 d2 h2 (node.sub x2 m2) (yo hB.1 m2) v a c (by omega) N7 _ λe2 N8 a8 a9 bh _ _=>⟨⟨rfl,rfl⟩,λa5 _ N9 ba ah=>?_⟩
    refine uW 5 (Qh h0 ao a9) (by simp) (by simp only[oH,oh,mK,mD,forall_eq];omega) a5 3 N9 _ λd' bb ay J ho _=>⟨xI ah ho,λ_ bc ai=>?_⟩
    refine hQ _ _ (by omega) ?_ (ho.mono (by omega) ai);rw[I,if_pos ⟨by decide,O⟩];simp only[t5,qS,bdE];rw[if_neg (by decide)];exact J
   ·exact ae (λh=>absurd h (by decide)) (by rw[I,if_neg (by simp[wg,O])]) N5 (by omega) _ λd' N6 ak hq _ _ N7 ab=>hq N7 ab
  ·have U:=node.ar;subst h8;rw[show sA 8 nm=2 from rfl]at U;obtain⟨Y,x1,d0,d1,rfl,rfl,h0,h1⟩:=uj au U;obtain⟨rfl,rfl,rfl,rfl,_⟩:=G1 node (.inr rfl);simp only[zG]at hc;have q0:=Y.cnt3;have q1:=x1.cnt3;have g1:=sU x1 (v++[(nm,false)]);have m0:Y∈[Y,x1]:=by simp
   have m1:x1∈[Y,x1]:=by simp
   refine⟨_,_,_,rfl,⟨by decide,by simp⟩,λN3 ac=>?_⟩;refine rI Y d0 h0 (node.sub Y m0) v a c (by omega) N3 _ λN4 am _=>Br.not (λO=>⟨_,rfl,_,_,_,rfl,⟨by decide,by simp⟩,_,_,_,rfl,⟨by decide,by simp⟩,_,rfl,λN5 aa=>?_⟩) λO N5 aa=>?_
   ·refine GQ v (by omega) a c nm false N5 _ λa7 c7 N6 ak _ _ N7 ab=>?_;refine ih x1 m1 d1 h1 (node.sub x1 m1) (yo hB.1 m1) _ a7 c7 (by rw[oK,nc];omega) N7 _ λe1 N8 a8 ao a6 _ _ N9 ba=>?_;refine OD nm hh.nm Y _ d0 e1 h0 ao (by omega) (by omega) N9 _ λd' bb ay J ho _ _ bc ai=>?_;refine hQ _ _ (by omega) ?_ (ho.mono (by omega) ai);rw[I,if_pos ⟨by decide,O⟩];simp only[t5,qS,bdE,nj];rw[show Y.late v=false from O];exact J
   ·exact ae (λ_=>O) (by rw[I,if_neg (by simp[wg,O])]) N5 (by omega) _ λd' N6 ak hq _ _ N7 ab=>hq N7 ab
  ·refine ae (λh=>absurd h h8) ?_ N3 (by omega) _ λd' N6 ak hq _ _ N7 ab=>hq N7 ab;rw[I,if_neg];intro⟨h4,hl⟩;have U:=node.ar;have:l=[]:=by
    rcases kc with h | h | h | h | h | h
    ·exact absurd h hk
    ·subst h;rw[show sA 2 nm=0 from rfl]at U;exact oL (by omega)
    ·subst h;rw[show sA 3 nm=0 from rfl]at U;exact oL (by omega)
    ·exact absurd h h4
    ·exact absurd h h5
    ·exact absurd h h8
   subst this;simp[wg]at hl
def spB (p:Pl):D:=.ag [.t p.1,.lit (.bool p.2.2),.j p.2.1]
theorem NG:∀ v:List Pl,All2 (λb d=>d=spB b) v (v.map spB)
 | []=>rfl
 | b::v=>⟨_,_,rfl,rfl,NG v⟩
theorem Mq (k n:Int):(Tm.mk k (bytes []) (bytes []) n (.mk 0 []) (.mk 0 []) []).Is (.ag [.j k,.t (bytes []),.t (bytes []),.j n,.j 0,.sl none 2 [] 0,.j 0,.sl none 2 [] 0,.sl none 9 [] 0]):=
 Tm.is_mk.2 ⟨_,_,_,_,_,_,_,rfl,⟨by decide,by decide,xm _,xm _⟩,by simp,rfl⟩
theorem Fu {N N':Nat}(k n:Int):Own N N' (.ag [.j k,.t (bytes []),.t (bytes []),.j n,.j 0,.sl none 2 [] 0,.j 0,.sl none 2 [] 0,.sl none 9 [] 0]):=
 tv (zH (zH (zH (zH (zH (EA (zH (EA (zl ⟨by simp[D.foot,zF],⟨by simp,trivial⟩,by simp[D.foot,zF],by simp[D.foot,zF]⟩))))))))) 
theorem WY {t:Ty}{n:Int}(h:t.k=2):C1 t n=.mk 3 (bytes []) (bytes []) n (.mk 0 []) (.mk 0 []) []:=by unfold C1;rw[if_pos h]
theorem WZ {t:Ty}{n:Int}(h:¬t.k=2):C1 t n=.mk 2 (bytes []) (bytes []) n (.mk 0 []) (.mk 0 []) []:=by unfold C1;rw[if_neg h]
theorem pW:∀ {u v:List D},xX (u++v)->xX u/\xX v
 | [],v,h=>⟨trivial,h⟩
 | y::u,v,h=>by obtain⟨I,J⟩:=pW (u:=u) h.2;exact⟨⟨h.1,I⟩,J⟩
theorem Og {N0 N1 N3:Nat}{hd es ds:List D}{a:Option Addr}{z c:Nat}(h:OwnL N0 N1 (hd++es))(J:Fresh N0 N3 a (.ag es::(hd++ds)))(hN:N1<=N3):OwnL N0 N3 (hd++[.sl a z es c]):=by
 obtain⟨f1,f2⟩:=pW h.fl;have hn:=h.nd;rw[zC,nN]at hn;have e:zF (hd++[D.sl a z es c])=zF hd++(D.sl a z es c).foot:=by simp only[zC,zF,ou]
 have hE:∀ ad,a=some ad->ad.block∉zF es:=λad h=>J.ap ad h (.ag es) (by simp);have hH:∀ ad,a=some ad->ad.block∉zF hd:=λad h hc=>by obtain⟨d,U,hb⟩:=zQ.1 hc;exact J.ap ad h d (by simp[U]) hb
 refine⟨?_,xE f1 ⟨⟨λad h=>J.off ad h,f2⟩,trivial⟩,λb hb=>?_,λb hb=>?_⟩
 ·rw[e,nN];refine⟨hn.1,Kl hn.2.1 hE,λx hx y hy Y=>?_⟩;subst Y;rcases xe x hy with I | ⟨ad,I,O⟩
  ·exact hn.2.2 x hx x I rfl
  ·subst O;exact hH ad I hx
 ·rw[e]at hb;rcases oM.1 hb with hb | hb
  ·exact h.lo b (by rw[zC];exact ol _ hb)
  ·rcases xe b hb with I | ⟨ad,I,O⟩
   ·exact h.lo b (by rw[zC];exact nP _ I)
   ·subst O;exact J.lo ad I
 ·rw[e]at hb;rcases oM.1 hb with hb | hb
  ·have:=h.hi b (by rw[zC];exact ol _ hb);omega
  ·rcases xe b hb with I | ⟨ad,I,O⟩
   ·have:=h.hi b (by rw[zC];exact nP _ I);omega
   ·subst O;exact J.hi ad I
theorem rL {t:Ty}{d:D}(hd:t.Is d)(n:Int):Cop 29 9 [.dg 2 d,.j n] (C1 t n).Is:=λN Q I=>by
 obtain⟨kk,l⟩:=t;obtain⟨a,es,c,rfl,Y,aa⟩:=Ty.is_mk.1 hd;refine Ea N _ n Q λ_=>⟨_,rfl,Br.beq (λh N1 J=>?_) λh N1 J=>?_⟩
 ·rw[WY (t:=.mk kk l) h]at I;exact qY N1 n _ λN2 O _ _ N3 U=>I _ _ (by omega) (Mq _ _) (Fu _ _)
 ·rw[WZ (t:=.mk kk l) h]at I;exact AY N1 n _ λN2 O _ _ N3 U=>I _ _ (by omega) (Mq _ _) (Fu _ _)
theorem I0 (w:List Pl)(hw:w.length<=1073741824)(a:Option Addr)(c:Nat):Z3 64 [.sv a 3 (w.map spB) c] (w.map plB):=λN Q hQ=>by
 have hl:=(NG w).len;refine Ho N a _ c Q λ_=>?_;refine up (NG w) (by omega) (λi xs=>∀(q:Nat) (N':Nat),N<=N'->wQ Q N a (w.map spB) c ((w.map plB).take i).length q i (((w.map plB).take i).map bdD) q N') ?_ ?_ 0 N (oD _)
 ·intro i ab hi q N' U;refine rd ?_;rw[oX (by simp;omega),ab];have I:(w.map plB).length=((w.map plB).map bdD).length:=by simp
  exact⟨⟨I,rfl⟩,⟨I,rfl⟩,⟨I,rfl⟩,λa2 N1 ae _ N2 ah=>hQ _ _ _ (by omega)⟩
 ·intro i x xs J _ ac q N' U;have hb:=J.b;have hr:=J.r;have Y:(w.map plB)[i]?=some (plB x):=by rw[oG,J.g];rfl
  have I:((w.map plB).take i).length=(((w.map plB).take i).map bdD).length:=by simp
  have aa:((w.map plB).take i).map bdD++[D.ag [.t x.1,.lit (.bool x.2.2)]]=((w.map plB).take (i+1)).map bdD:=by rw[zX Y,mF];rfl
  have O:(((w.map plB).take (i+1)).map bdD).length=((w.map plB).take (i+1)).length:=by simp
  have ai:((w.map plB).take (i+1)).length<=i+1:=by rw[nC];omega
  refine rd ?_;rw[J.lt,oI,hr];refine⟨⟨by omega,by omega⟩,_,rfl,⟨by omega,by omega⟩,_,rfl,⟨I,rfl⟩,by unfold zA;rw[aa,O];omega,λc1=>?_⟩;rw[aa,O,J.w];exact ac _ _ U
def zA8 (f:FuncId)(args:List PV)(v:List Nb):Prop:=∀(N:Nat) (Q:QT [.sl 2]),(∀ a c N',N<=N'->Q a (v.map nbD) c N')->ACalls prog f [.sl 2] args N Q
theorem Bb (w:List Pl)(hw:w.length<=1073741824)(a:Option Addr)(c:Nat):zA8 68 [.sv a 3 (w.map spB) c] (w.map plN):=λN Q hQ=>by
 have hl:=(NG w).len;refine Fg N a _ c Q λ_=>?_;refine up (NG w) (by omega) (λi xs=>∀(q:Nat) (N':Nat),N<=N'->xw Q N a (w.map spB) c ((w.map plN).take i).length q i (((w.map plN).take i).map nbD) q N') ?_ ?_ 0 N (oD _)
 ·intro i ab hi q N' U;refine sg ?_;rw[oX (by simp;omega),ab];have I:(w.map plN).length=((w.map plN).map nbD).length:=by simp
  exact⟨⟨I,rfl⟩,⟨I,rfl⟩,⟨I,rfl⟩,λa2 N1 ae _ N2 ah=>hQ _ _ _ (by omega)⟩
 ·intro i x xs J _ ac q N' U;have hb:=J.b;have hr:=J.r;have Y:(w.map plN)[i]?=some (plN x):=by rw[oG,J.g];rfl
  have I:((w.map plN).take i).length=(((w.map plN).take i).map nbD).length:=by simp
  have aa:((w.map plN).take i).map nbD++[D.ag [.t x.1,.j x.2.1]]=((w.map plN).take (i+1)).map nbD:=by rw[zX Y,mF];rfl
  have O:(((w.map plN).take (i+1)).map nbD).length=((w.map plN).take (i+1)).length:=by simp
  have ai:((w.map plN).take (i+1)).length<=i+1:=by rw[nC];omega
  refine sg ?_;rw[J.lt,oI,hr];refine⟨⟨by omega,by omega⟩,_,rfl,⟨by omega,by omega⟩,_,rfl,⟨I,rfl⟩,by unfold zA;rw[aa,O];omega,λc1=>?_⟩;rw[aa,O,J.w];exact ac _ _ U
theorem MC (w:List Pl) (hw:w.length<=1073741824) (p:Pl) (a:Option Addr) (c:Nat) (N:Nat) (Q:QT [.sl 3]) (I:∀ J O N',N<=N'->Q J ((w++[p]).map spB) O N') :
  ACalls prog 119 [.sl 3] [.sv a 3 (w.map spB) c,.dg 3 (spB p)] N Q:=by
 have e:([]++w.map spB)++[spB p]=(w++[p]).map spB:=by simp
 refine Il N a _ c _ Q λ_ _=>⟨⟨rfl,rfl⟩,by unfold zA;simp;omega,λc1=>⟨⟨rfl,rfl⟩,by unfold zA;simp;omega,λc2=>⟨⟨rfl,rfl⟩,⟨rfl,rfl⟩,λa2 N1 U _ N2 Y=>?_⟩⟩⟩
 rw[e];exact I _ _ _ (by omega)
theorem Qu {t:Tm} {d:D} (hd:t.Is d) {w:List Pl} {g:List Tg} (h:SpC t w g) {es:List D} (I:Ctx g es) (hw:w.length+t.cnt<=536870000) (a1 J:Option Addr) (c1 O:Nat) :
  Cop 66 9 [.dg 9 d,.sv a1 3 (w.map spB) c1,.sv J 4 es O] (C1 (tyZ t g 0) (t.ev (w.map plN))).Is:=λN Q hQ=>by
 obtain⟨u,hu⟩:=h.ty;refine Hn N d a1 _ c1 J es O Q λ_ _ _ N1 aa=>?_;refine qF t d hd g es J O 0 h.pre I N1 _ λx N2 ab hx _ _ N3 ac=>?_;refine Bb w (by omega) a1 c1 N3 _ λa3 c3 N4 ae _ _ N5 ah=>?_;refine GP t d hd h.ok h.b g u hu _ h.fit a3 c3 (by simp;omega) N5 _ λN6 ai _ N7 aj=>?_;refine rL hx _ N7 _ λd' N8 ak U ho _ _ N9 Y=>?_;exact hQ _ _ (by omega) U (ho.mono (by omega) Y)
theorem Uq:∀(t:Tm) (d:D),t.Is d->∀(w:List Pl) (g:List Tg) (es:List D),SpC t w g->Ctx g es->w.length+t.cnt<=536870000->∀(a1 a2:Option Addr) (c1 c2:Nat),
  Cop 24 9 [.dg 9 d,.sv a1 3 (w.map spB) c1,.sv a2 4 es c2] (t.sp w g).Is:=by
 refine Tm.ind λk nm ot n0 ty re l ih d hd w g es hC ab hc a1 a2 c1 c2 N Q hQ=>?_;have az:=hd;have cc:=hc;have node:=zT hC.ok;have hB:=hC.b;simp only[Tm.isB,oE]at hB;obtain⟨t0,t1,r0,r1,a,fs,c,rfl,hh,bj,ae⟩:=Tm.is_mk.1 hd;simp only[Tm.cnt]at hc;have p1:=ty.cnt_pos;have p2:=re.cnt_pos;have a0:=hC.pre.len
 try simp only[Tm.cnt]at a0
 have copy:k≠8->(Tm.mk k nm ot n0 ty re l).sp w g=.mk k nm ot n0 ty re (xq l k nm w g)->∀ N1,N<=N1->ACalls prog 32 [.pk,.i,.str,.str,.i,.dc,.dc,.dc,.dc,.row 30 9] [.dg 9 (.ag [.j k,.t nm,.t ot,.j n0,t0,t1,r0,r1,.sl a 9 fs c])] N1
   (λn s s1 n1 x U x2 x3 a7 c3 N2=>N1<=N2->Bel N2 (D.ag a7)->yr Q N a1 (w.map spB) c1 a2 es c2 0 (.ag [.j k,.t nm,.t ot,.j n0,t0,t1,r0,r1,.sl a 9 fs c]) 0 (bytes []) (bytes []) 0 0 none [] 0 0 none [] 0 none [] 0 n s s1 n1 x U x2 x3 a7.length c3 a7 c3 N2):=λh8 he N1 a8=>by
  refine Fr _ _ az (by simp only[Tm.cnt];omega) N1 _ ?_;intro x4 x5 x6 x7 es' c' N2 bm cd bp I _ _;have cy:=bp.len;have ce:OwnL N1 N2 ([x4,x5,x6,x7]++[]):=by
   have hf:∀ b,b∈zF ([x4,x5,x6,x7]++[])->b∈zF ([x4,x5,x6,x7]++es'):=λb hb=>by
    rw[zC]at hb ⊢;rcases oM.1 hb with hb | hb
    ·exact ol _ hb
    ·simp[zF]at hb
   have hn:=I.nd;rw[zC,nN]at hn;exact⟨by simpa using hn.1,⟨I.fl.1,I.fl.2.1,I.fl.2.2.1,I.fl.2.2.2.1,trivial⟩,λb hb=>I.lo b (hf b hb),λb hb=>I.hi b (hf b hb)⟩
  refine up ae bj (λi xs=>∀(done rest:List D) (m q:Nat) (N':Nat),N2<=N'->All2 Tm.Is ((xq l k nm w g).take i) done->done.length=i->rest.length=xs.length->m=(done++rest).length->OwnL N1 N' ([x4,x5,x6,x7]++done) ->
   yr Q N a1 (w.map spB) c1 a2 es c2 i (.ag [.j k,.t nm,.t ot,.j n0,t0,t1,r0,r1,.sl a 9 fs c]) 0 (bytes []) (bytes []) 0 0 none [] 0 0 none [] 0 none [] 0 k nm ot n0 x4 x5 x6 x7 m q (done++rest) q N') ?_ ?_ [] es' es'.length c' N2 (oD _) rfl rfl (by omega) rfl ce
  ·intro i cf hi done rest m q N' cg hd bq hr hm ho;have ch:rest=[]:=oL (by simpa using hr);subst ch;refine qv ⟨_,_,_,rfl,?_⟩;rw[ou]at hm ⊢;rw[oX (by rw[Bn];have:=ae.len;omega)]at hd;rw[cf];refine⟨⟨hm,rfl⟩,⟨hm,rfl⟩,⟨hm,rfl⟩,λa5 N3 ah hf N4 ai=>?_⟩;refine hQ _ _ (by omega) (by rw[he];exact Tm.is_mk.2 ⟨_,_,_,_,_,_,_,rfl,cd,by have:=ae.len;omega,hd⟩) ?_;exact tv (zH (zH (zH (zH ((Og (hd:=[x4,x5,x6,x7]) (ds:=[]) (ho.mono a8 (oD _)) hf ah).mono (oD _) ai)))))
  ·intro i x xs Y _ ci done rest m q N' cg hd bq hr hm ho;have hb:=Y.b;have cz:=yJ Y.m;cases rest with
   | nil=>simp at hr
   | cons y rest=>
     subst bq;have bt:=hC.part Y.g;have eW:wI k nm w done.length=w:=by unfold wI;rw[if_neg h8];simp
     have eG:gI k nm l g done.length=g:=by unfold gI;rw[if_neg h8];simp
     rw[eW,eG]at bt;have c0:(done++y::rest).length=done.length+rest.length+1:=by simp;omega
     refine qv ⟨_,_,_,rfl,?_⟩;rw[Y.lt];simp only[oI];refine⟨_,_,_,rfl,⟨by omega,by omega⟩,λN3 ah=>?_⟩;refine ih x Y.m _ Y.r w g es bt ab (by omega) a1 a2 c1 c2 N3 _ λd2 N4 ai cj ck _ _=>⟨⟨by omega,by omega,by omega⟩,by omega,?_⟩
     rw[Y.w,nT,QF];have e:done++d2::rest=(done++[d2])++rest:=by simp
     rw[e];have hg:=Bm l k nm w g _ x Y.g;rw[eW,eG]at hg;refine ci (done++[d2]) rest m q N4 (by omega) (by rw[zX hg];exact hd.snoc cj) (by simp) (by simpa using hr) (by rw[hm];simp) ?_;rw[<-nq];exact xJ (ho.mono (oD _) ah) (zl ck) (by omega) ai
 have bv:k=8->(Tm.mk k nm ot n0 ty re l).late (w.map plB)=true->∀ N1,N<=N1->∀ Q':QT [.ag 9],(∀ d' N2,N1<=N2->(∀ N3,N2<=N3->Q d' N3)->Q' d' N2)->ACalls prog 69 [.ag 9] [.dg 9 (.ag [.j k,.t nm,.t ot,.j n0,t0,t1,r0,r1,.sl a 9 fs c]),.sv a1 3 (w.map spB) c1,.sv a2 4 es c2] N1 Q':=λh8 aj N1 a8 Q' bw=>by
  subst h8;have ak:=node.ar;rw[show sA 8 nm=2 from rfl]at ak;obtain⟨J,U,d0,d1,rfl,rfl,h0,h1⟩:=uj ae ak;obtain⟨rfl,rfl,rfl,rfl,_⟩:=G1 node (.inr rfl);simp only[zG]at hc a0;obtain⟨s0,s1,s2⟩:=hC.let_;have m0:J∈[J,U]:=by simp
  have m1:U∈[J,U]:=by simp
  have q0:=J.cnt3;have q1:=U.cnt3;obtain⟨u0,a9⟩:=s0.ty;have cx:∀(es':List D),Ctx (g++[⟨nm,tyZ J g 0,0⟩]) es'->Ctx (g++[⟨nm,tyZ J g 0,0⟩]) es':=λ_ h=>h;refine Lb N1 _ a1 _ c1 a2 es c2 Q' λ_ _ _=>⟨_,_,_,rfl,⟨by decide,by simp⟩,λN2 bm=>?_⟩
  refine qF J d0 h0 g es a2 c2 0 s0.pre ab N2 _ λx N3 ah hx _ _=>⟨_,rfl,λN4 ai=>?_⟩
  refine xD ab (by omega) a2 c2 hh.nm hx 0 N4 _ λa3 bz c3 N5 au ax _ _=>⟨_,_,_,rfl,⟨by decide,by simp⟩,λN6 ba=>?_⟩
  refine I0 w (by omega) a1 c1 N6 _ λa4 c4 N7 ac _ _ N8 cm=>?_;refine rI J d0 h0 s0.ok _ a4 c4 (by simp;omega) N8 _ λN9 cn _=>Br.not (λhb=>⟨_,_,_,rfl,⟨by decide,by simp⟩,λaw ay=>?_⟩) λhb=>⟨_,rfl,_,_,_,rfl,⟨by decide,by simp⟩,_,_,_,rfl,⟨by decide,by simp⟩,_,rfl,λaw ay=>?_⟩
  ·refine Bb w (by omega) a1 c1 aw _ λa5 c5 al am _ _ ao aq=>?_;refine GP J d0 h0 s0.ok s0.b g u0 a9 _ s0.fit a5 c5 (by simp;omega) ao _ λbb aa _=>⟨_,_,_,rfl,⟨by decide,by simp⟩,_,rfl,λbc b1=>?_⟩
   refine MC w (by omega) (nm,J.ev (w.map plN),false) a1 c1 bc _ λa6 c6 co b2 _ _ bg b6=>?_;refine ih U m1 d1 h1 _ _ bz s2 ax (by simp;omega) a6 a3 c6 c3 bg _ λd' cp b7 O I _ _ cq b9=>?_;refine bw _ _ (by omega) λcr ca=>hQ _ _ (by omega) ?_ (I.mono (by omega) (by omega));simp only[Tm.sp,aj,ni,nQ];rw[if_neg (by simp),if_pos ⟨by trivial,hb⟩];simp only[K1,O2];exact O
  ·refine ih J m0 d0 h0 w g es s0 ab (by omega) a1 a2 c1 c2 aw _ λe0 al am ct c7 _ _ ao aq=>?_;refine MC w (by omega) (nm,0,true) a1 c1 ao _ λa6 c6 bb aa _ _ bc b1=>?_;refine ih U m1 d1 h1 _ _ bz s1 ax (by simp;omega) a6 a3 c6 c3 bc _ λe1 co b2 cw c8 _ _ bg b6=>?_;have k0:=Jb J w g;have k1:=Jb U (w++[(nm,0,true)]) (g++[⟨nm,tyZ J g 0,0⟩]);refine OD nm hh.nm _ _ e0 e1 ct cw (by omega) (by omega) bg _ λd' cp b7 O I _ _ cq b9=>?_;refine bw _ _ (by omega) λcr ca=>hQ _ _ (by omega) ?_ (I.mono (by omega) (by omega));simp only[Tm.sp,aj,ni,nQ];rw[if_neg (by simp),if_neg (by simp[wg,hb])];simp only[xq,FP,nj];exact O
 refine La N _ a1 _ c1 a2 es c2 Q λ_ _ _ N1 a8=>?_;refine I0 w (by omega) a1 c1 N1 _ λa4 c4 N2 bm _ _ N3 ah=>?_;refine rI _ _ az hC.ok _ a4 c4 (by simp only[Tm.cnt,om];omega) N3 _ λN4 ai _=>Br.not (λhb N5 au=>?_) λhb=>⟨_,rfl,Br.beq (λh5=>?_) λh5=>⟨_,rfl,Br.beq (λh8 N5 au=>?_) λh8 N5 au=>?_⟩⟩
 ·refine Qu az hC ab cc a1 a2 c1 c2 N5 _ λd' N6 ba O I _ _ N7 ac=>?_;refine hQ _ _ (by omega) ?_ (I.mono (by omega) ac);simp only[Tm.sp,hb,nj];exact O
 ·subst h5;have ak:=node.ar;rw[show sA 5 nm=3 from rfl]at ak;obtain⟨J,U,x2,d0,d1,d2,rfl,rfl,h0,h1,h2⟩:=t3 ae ak;simp only[zG]at hc a0;have m0:J∈[J,U,x2]:=by simp
  have m1:U∈[J,U,x2]:=by simp
  have m2:x2∈[J,U,x2]:=by simp
  have s0:=hC.flat (.inr rfl) m0;obtain⟨u0,a9⟩:=s0.ty;have bh:=hC.cond;refine⟨_,_,_,rfl,⟨by decide,by simp⟩,λN5 au=>?_⟩;refine rI J d0 h0 s0.ok _ a4 c4 (by simp;omega) N5 _ λN6 ba _=>Br.not (λbi=>⟨_,_,_,rfl,_,_,_,rfl,⟨by decide,by simp⟩,λN7 ac=>?_⟩) λbi=>⟨_,rfl,Br.beq (λh=>absurd h (by decide)) λ_ N7 ac=>?_⟩
  ·have he:(Tm.mk 5 nm ot n0 ty re [J,U,x2]).sp w g=O2 [J,U,x2] (2 - J.ev (w.map plN)).toNat w g:=by simp only[Tm.sp,hb,ni,nQ];rw[if_pos ⟨by trivial,bi⟩];simp only[sD]
   rw[he]at hQ;refine Bb w (by omega) a1 c1 N7 _ λa5 c5 N8 cm _ _ N9 cn=>?_;refine GP J d0 h0 s0.ok s0.b g u0 a9 _ s0.fit a5 c5 (by simp;omega) N9 _ λaw ay _=>?_;rcases bh with hv | hv
   ·rw[hv]at hQ ⊢;rw[show IntKind.i64.wrap (2 - 0)=2 from rfl];refine⟨⟨by decide,by simp⟩,λal am=>?_⟩;refine ih x2 m2 d2 h2 w g es (hC.flat (.inr rfl) m2) ab (by omega) a1 a2 c1 c2 al _ λd' ao aq O I _ _ bb aa=>?_;exact hQ _ _ (by omega) O (I.mono (by omega) aa)
   ·rw[hv]at hQ ⊢;rw[show IntKind.i64.wrap (2 - 1)=1 from rfl];refine⟨⟨by decide,by simp⟩,λal am=>?_⟩;refine ih U m1 d1 h1 w g es (hC.flat (.inr rfl) m1) ab (by omega) a1 a2 c1 c2 al _ λd' ao aq O I _ _ bb aa=>?_;exact hQ _ _ (by omega) O (I.mono (by omega) aa)
  ·exact copy (by decide) (by simp only[Tm.sp,hb,ni,nQ];rw[if_neg (by simp[wg,bi]),if_neg (by simp)]) N7 (by omega)
 ·exact bv h8 hb N5 (by omega) _ λd' N6 ba hq _ _ N7 ac=>hq N7 ac
 ·exact copy h8 (by simp only[Tm.sp,hb,ni,nQ];rw[if_neg (by simp[h5]),if_neg (by simp[h8])]) N5 (by omega)
theorem Fresh.mono {N0 N1 N M:Nat}{a:Option Addr}{ds:List D}(h:Fresh N0 N a ds)(J:N1<=N0)(O:N<=M):Fresh N1 M a ds:=
 ⟨λad I=>oP J (h.lo ad I),λad I=>nI (h.hi ad I) O,h.off,h.ap⟩
theorem JK {k:Int} {a:Option Addr} {es:List D} {c:Nat} {l:List Tm} (h:All2 Tm.Is l es) (I:es.length<=4611686018427387904) :
  (Tm.nod k l).Is (.ag [.j k,.t (bytes []),.t (bytes []),.j 0,.j 0,.sl none 2 [] 0,.j 0,.sl none 2 [] 0,.sl a 9 es c]):=
 Tm.is_mk.2 ⟨_,_,_,_,_,_,_,rfl,⟨by decide,by decide,xm _,xm _⟩,I,h⟩
theorem Am {N N':Nat}(k:Int):Own N N' (.ag [.j k,.t (bytes []),.t (bytes []),.j 0,.j 0,.sl none 2 [] 0,.j 0,.sl none 2 [] 0,.sl none 9 [] 0]):=
 tv (zH (zH (zH (zH (zH (EA (zH (EA (zl ⟨by simp[D.foot,zF],⟨by simp,trivial⟩,by simp[D.foot,zF],by simp[D.foot,zF]⟩))))))))) 
theorem Uu (t:Ty)(n:Int):Cop 53 9 [.j n,.bool (t.k==2)] (C1 t n).Is:=λN Q I=>by
 refine IU N n _ Q (Br.beq (λh N1 J=>?_) λh N2 O=>?_)
 ·rw[WY h]at I;exact I _ _ J (Mq _ _) (Fu _ _)
 ·rw[WZ h]at I;exact Nd N2 n _ λN3 U _ _ N4 Y=>I _ _ (by omega) (Mq _ _) (Fu _ _)
theorem VC {a:Option Addr}{z c:Nat}{es:List D}{b:Nat}(h:b∈zF es):b∈(D.sl a z es c).foot:=by
 cases a with
 | none=>simpa only[D.foot]using h
 | some ad=>
   have I:es≠[]:=λJ=>by subst J;simp[zF]at h
   simp[D.foot,I,h]
theorem MH {g:List Tg} {es:List D} (J:Ctx g es) {k:Int} {nm ot:ByteArray} {n0:Int} {t0 t1 r0 r1:D} {a1:Option Addr} {fs:List D} {c1:Nat} (ab:nm.size<=4611686018427387904) {O:Tm} (hp:Pre g O 0) (hx:O.Is (fs.getD 0 default)) (hf:0<fs.length) (a:Option Addr) (c:Nat) (N:Nat) (Q:QT [.sl 4])
  (hQ:∀ a' es' c' N',N<=N'->Ctx (g++[⟨nm,tyZ O g 0,0⟩]) es'->Q a' es' c' N'):ACalls prog 56 [.sl 4] [.sv a 4 es c,.dg 9 (.ag [.j k,.t nm,.t ot,.j n0,t0,t1,r0,r1,.sl a1 9 fs c1])] N Q:=by
 have ai:=hp.len1;refine IV N a es c _ Q λ_ _=>⟨_,rfl,_,_,_,rfl,⟨by decide,by omega⟩,λN1 aj=>?_⟩
 refine OG O _ hx g es a c 0 hp J N1 _ λx N2 ak ac _ _ _=>⟨⟨rfl,rfl⟩,λa2 ae U N3 al Y=>?_⟩
 have hh:Ctx [⟨nm,tyZ O g 0,0⟩] [D.ag [.t nm,x.cell 0,x.cell 1,.j 0]]:=⟨by simp,_,[],rfl,⟨_,_,rfl,ab,Ty.is_cells ac⟩,rfl⟩
 refine PU J hh (by simp;omega) a a2 c 1 N3 _ λa3 am c3 N4 ao aa ah _=>⟨λb hb ad I hc=>?_,λ_ N5 aq=>hQ _ _ _ _ (by omega) aa⟩
 simp only[oW]at hb;subst hb;rcases ah _ hc with h | h | h
 ·exact U _ (by simp) ad I (VC h)
 ·obtain⟨d,hd,hm⟩:=zQ.1 h;exact ae ad I d hd hm
 ·have:=Y _ (by simp) ad I;omega
theorem Sx {k:Int}{nm:ByteArray}{w:List Pl}{i:Nat}{b:Bool}(h:k=8->b=true):te k nm b w i=wI k nm w i:=by
 unfold te wI;by_cases hi:i=0
 ·simp[hi]
 ·by_cases hk:k=8
  ·simp[hi,hk,h hk]
  ·simp[hi,hk]
theorem SI:∀(t:Tm) (d:D),t.Is d->∀(w:List Pl) (g:List Tg) (es:List D),SpC t w g->Ctx g es->w.length+t.cnt<=536870000->∀(a1 a2:Option Addr) (c1 c2:Nat),
  Cop 21 9 [.sv a1 3 (w.map plD) c1,.sv a2 4 es c2,.dg 9 d] (t.sp w g).Is:=by
 refine Tm.ind λk nm ot n0 ty re l ih d hd w g es hC al hc a1 a2 c1 c2 N Q hQ=>?_;have ay:=hd;have ca:=hc;have node:=zT hC.ok;have hB:=hC.b;simp only[Tm.isB,oE]at hB;obtain⟨t0,t1,r0,r1,a,fs,c,rfl,hh,a8,am⟩:=Tm.is_mk.1 hd;simp only[Tm.cnt]at hc;have p1:=ty.cnt_pos;have p2:=re.cnt_pos;have hl:=am.len;have cc:=xh l;have ab:=node.ar;obtain⟨u,hu⟩:=hC.ty;have Y:l≠[]->vM 52 [.sv a1 3 (w.map plD) c1,.dg 9 (fs.getD 0 default)] (wg l (w.map plB)):=λao=>by
  cases l with
  | nil=>exact absurd rfl ao
  | cons U rest=>
    have m0:U∈U::rest:=by simp
    have:=yJ m0
    exact GM U _ (am.get (i:=0) rfl) (node.sub U m0) w a1 c1 (by omega)
 have a9:l≠[]->fs≠[]:=λao h=>by rw[h]at hl;exact ao (oL (by simpa using hl.symm))
 have loop:(Tm.mk k nm ot n0 ty re l).sp w g=.mk k nm ot n0 ty re (xq l k nm w g)->(k=8->wg l (w.map plB)=true)->∀ N1,N<=N1 ->
   zE Q N a1 (w.map plD) c1 a2 es c2 0 0 a fs c (fs.length:Int) 0 (.ag [.j k,.t nm,.t ot,.j n0,t0,t1,r0,r1,.sl a 9 fs c]) 0 (bytes []) (bytes []) 0 0 none [] 0 0 none [] 0 none [] 0 [] 0 N1:=λhe h8 N1 ba=>by
  refine up am a8 (λi xs=>∀(done:List D) (q N':Nat),N<=N'->All2 Tm.Is ((xq l k nm w g).take i) done->done.length=i->OwnL N N' done ->
   zE Q N a1 (w.map plD) c1 a2 es c2 done.length q a fs c (fs.length:Int) i (.ag [.j k,.t nm,.t ot,.j n0,t0,t1,r0,r1,.sl a 9 fs c]) 0 (bytes []) (bytes []) 0 0 none [] 0 0 none [] 0 none [] 0 done q N') ?_ ?_ [] 0 N1 ba rfl rfl Kp
  ·intro i bp hi done q N' bq hd bb ho;refine vH ?_;rw[oX (by rw[Bn];omega)]at hd;rw[bp];refine⟨⟨rfl,rfl⟩,⟨rfl,rfl⟩,λa5 N3 I hf N4 ah=>?_⟩;refine WM hh (by omega) (by omega) hd (by omega) a5 q N N4 (by omega) ((AH ho hf I).mono (oD _) ah) _ λd' N5 ai J O _ _ N6 aj=>?_;exact hQ _ _ (by omega) (by rw[he];exact J) (O.mono (oD _) aj)
  ·intro i x xs aa _ bt done q N' bq hd bb ho;have hb:=aa.b;have cd:=yJ aa.m;have ao:l≠[]:=λh=>by have:=aa.m;rw[h]at this;simp at this
   have bv:=hC.part aa.g;have ce:(wI k nm w i).length<=w.length+1:=by unfold wI;(repeat' split)<;>simp
   have bc:Z5 57 [.sv a1 3 (w.map plD) c1,.dg 9 (.ag [.j k,.t nm,.t ot,.j n0,t0,t1,r0,r1,.sl a 9 fs c]),.j i] (wI k nm w i):=by
    have:=PS (k:=k) (nm:=nm) (ot:=ot) (n0:=n0) (t0:=t0) (t1:=t1) (r0:=r0) (r1:=r1) (a1:=a) (es:=fs) (c1:=c) w (by omega) a1 c1 i (wg l (w.map plB)) (λ_=>a9 ao) (λ_=>Y ao)
    rwa[Sx h8]at this
   have call:∀(a6:Option Addr) (c6:Nat) (a7:Option Addr) (ac:List D) (c7:Nat),Ctx (gI k nm l g i) ac->Cop 21 9 [.sv a6 3 ((wI k nm w i).map plD) c6,.sv a7 4 ac c7,.dg 9 (fs.getD i default)] (x.sp (wI k nm w i) (gI k nm l g i)).Is:=λa6 c6 a7 ac c7 bg=>ih x aa.m _ aa.r _ _ ac bv bg (by omega) a6 a7 c6 c7;have next:∀(d2:D) (N6 N7:Nat),N'<=N6->N6<=N7->(x.sp (wI k nm w i) (gI k nm l g i)).Is d2->Own N6 N7 d2->(done.length=done.length/\q=q)/\zA done [d2] 136/\∀(c4:Nat),
     zE Q N a1 (w.map plD) c1 a2 es c2 (done++[d2]).length c4 a fs c (fs.length:Int) (IntKind.i64.wrap ((i:Int)+1)) (.ag [.j k,.t nm,.t ot,.j n0,t0,t1,r0,r1,.sl a 9 fs c]) 0 (bytes []) (bytes []) 0 0 none [] 0 0 none [] 0 none [] 0 (done++[d2]) c4 N7:=λd2 N6 N7 h6 h7 au aw=>by
    refine⟨⟨rfl,rfl⟩,by unfold zA;rw[oK];simp only[oJ,oN];omega,λc4=>?_⟩;rw[aa.w];exact bt _ _ _ (by omega) (by rw[zX (Bm l k nm w g i x aa.g)];exact hd.snoc au) (by simp[bb]) (xJ (ho.mono (oD _) h6) (zl aw) (by omega) h7)
   refine vH ?_;rw[aa.lt,oI];have plain:gI k nm l g i=g->∀ N3,N'<=N3->ACalls prog 57 [.sl 3] [.sv a1 3 (w.map plD) c1,.dg 9 (.ag [.j k,.t nm,.t ot,.j n0,t0,t1,r0,r1,.sl a 9 fs c]),.j i] N3 λa3 bh c3 N4=>N3<=N4->Bel N4 (D.sl a3 3 bh c3)->∀ N5,N4<=N5->ACalls prog 21 [.ag 9] [.sv a3 3 bh c3,.sv a2 4 es c2,.dg 9 (fs.getD i default)] N5 λx1 N6=>N5<=N6->Bel N6 x1->(done.length=done.length/\q=q)/\zA done [x1] 136/\∀(c4:Nat),
     zE Q N a1 (w.map plD) c1 a2 es c2 (done++[x1]).length c4 a fs c (fs.length:Int) (IntKind.i64.wrap ((i:Int)+1)) (.ag [.j k,.t nm,.t ot,.j n0,t0,t1,r0,r1,.sl a 9 fs c]) 0 (bytes []) (bytes []) 0 0 none [] 0 0 none [] 0 none [] 0 (done++[x1]) c4 N6:=λhg N3 I=>
    bc N3 _ λa3 c3 N4 ah _ _ N5 ai=>call a3 c3 a2 es c2 (by rw[hg];exact al) N5 _ λd2 N6 aj au aw _ _=>next d2 N5 N6 (by omega) aj au aw
   refine⟨⟨by omega,by omega⟩,_,rfl,Br.beq (λhk=>Br.beq (λbw N3 I=>?_) λbw N3 I=>?_) λhk N3 I=>?_⟩
   ·subst hk;rw[show sA 8 nm=2 from rfl]at ab;obtain⟨U,x1,d0,d1,rfl,rfl,h0,h1⟩:=uj am ab;have eG:gI 8 nm [U,x1] g i=g++[⟨nm,tyZ U g 0,0⟩]:=by unfold gI;rw[if_neg (by omega)];rfl
    refine MH (fs:=[d0,d1]) al hh.nm hC.let_.1.pre h0 (by simp) a2 c2 N3 _ λa7 ac c7 N4 ah ak _ _ N5 ai=>?_;exact bc N5 _ λa3 c3 N6 aj _ _ N7 az=>call a3 c3 a7 ac c7 (by rw[eG];exact ak) N7 _ λd2 N8 ax au aw _ _=>next d2 N7 N8 (by omega) ax au aw
   ·refine plain ?_ N3 I;have bz:i=0:=by subst hk;rw[show sA 8 nm=2 from rfl]at ab;omega
    unfold gI;rw[if_pos bz]
   ·refine plain ?_ N3 I;unfold gI;rw[if_neg hk];simp
 have bi:=λ(N1:Nat) (Q':QT [.bool])=>GM _ _ ay hC.ok w a1 c1 (by simp only[Tm.cnt];omega) N1 Q';refine AV N a1 _ c1 a2 es c2 _ Q λ_ _ _ N1 ba=>?_;refine bi N1 _ λN2 cf _=>Br.not (λhb N3 I=>?_) λhb=>⟨_,rfl,Br.beq (λhk N3 I=>?_) λhk=>⟨_,rfl,Br.beq (λh5=>?_) λh5=>⟨_,rfl,Br.beq (λh8=>?_) λh8=>⟨_,_,_,rfl,?_⟩⟩⟩⟩
 ·refine OH _ _ ay hC.ok hC.b g u hu w hC.fit a1 c1 (by simp only[Tm.cnt];omega) N3 _ λN4 ah _ N5 ai=>?_;refine OG _ _ ay g es a2 c2 0 hC.pre al N5 _ λx N6 aj hx _ _ _=>?_;have bj:(Tm.mk k nm ot n0 ty re l).sp w g=C1 (tyZ (.mk k nm ot n0 ty re l) g 0) ((Tm.mk k nm ot n0 ty re l).ev (w.map plN)):=by simp only[Tm.sp,hb,nj]
  rw[bj]at hQ;generalize tyZ (.mk k nm ot n0 ty re l) g 0=tt at hx hQ;obtain⟨kk,lt⟩:=tt;obtain⟨aT,cg,cT,rfl,_,_⟩:=Ty.is_mk.1 hx;refine⟨_,rfl,λN7 az=>?_⟩;refine Uu (.mk kk lt) _ N7 _ λd' N8 ax J O _ _ N9 aq=>?_;exact hQ _ _ (by omega) J (O.mono (by omega) aq)
 ·refine SH _ _ ay (by simp only[Tm.cnt];omega) N3 _ λd' N4 ah J O _ _ N5 ai=>?_;refine hQ _ _ (by omega) ?_ (O.mono (by omega) ai);subst hk;rw[show sA 1 nm=0 from rfl]at ab;have b1:l=[]:=oL (by omega);subst b1;simp only[Tm.sp,hb,ni,nQ];rw[if_neg (by simp),if_neg (by simp)];simp only[xq];exact J
 ·subst h5;rw[show sA 5 nm=3 from rfl]at ab;obtain⟨U,x1,x2,d0,d1,d2,rfl,rfl,h0,h1,h2⟩:=t3 am ab;simp only[zG]at hc;have m0:U∈[U,x1,x2]:=by simp
  have m1:x1∈[U,x1,x2]:=by simp
  have m2:x2∈[U,x1,x2]:=by simp
  have s0:=hC.flat (.inr rfl) m0;obtain⟨u0,a0⟩:=s0.ty;have a4:=hC.cond;refine⟨_,_,_,rfl,⟨by decide,by simp⟩,λN3 I=>?_⟩;refine Y (by simp) N3 _ λN4 ah _=>Br.not (λae=>⟨_,_,_,rfl,_,_,_,rfl,⟨by decide,by simp⟩,λN5 ai=>?_⟩) λae=>⟨_,rfl,Br.beq (λh=>absurd h (by decide)) λ_=>⟨_,_,_,rfl,?_⟩⟩
  ·have he:(Tm.mk 5 nm ot n0 ty re [U,x1,x2]).sp w g=O2 [U,x1,x2] (2 - U.ev (w.map plN)).toNat w g:=by simp only[Tm.sp,hb,ni,nQ];rw[if_pos ⟨by trivial,ae⟩];simp only[sD]
   rw[he]at hQ;refine OH U d0 h0 s0.ok s0.b g u0 a0 w s0.fit a1 c1 (by omega) N5 _ λN6 aj _=>?_;rcases a4 with hv | hv
   ·rw[hv]at hQ ⊢;rw[show IntKind.i64.wrap (2 - 0)=2 from rfl];refine⟨⟨by decide,by simp⟩,λN7 az=>?_⟩;refine ih x2 m2 d2 h2 w g es (hC.flat (.inr rfl) m2) al (by omega) a1 a2 c1 c2 N7 _ λd' N8 ax J O _ _ N9 aq=>?_;exact hQ _ _ (by omega) J (O.mono (by omega) aq)
   ·rw[hv]at hQ ⊢;rw[show IntKind.i64.wrap (2 - 1)=1 from rfl];refine⟨⟨by decide,by simp⟩,λN7 az=>?_⟩;refine ih x1 m1 d1 h1 w g es (hC.flat (.inr rfl) m1) al (by omega) a1 a2 c1 c2 N7 _ λd' N8 ax J O _ _ N9 aq=>?_;exact hQ _ _ (by omega) J (O.mono (by omega) aq)
  ·exact loop (by simp only[Tm.sp,hb,ni,nQ];rw[if_neg (by simp[ae]),if_neg (by simp)]) (λh=>absurd h (by decide)) N4 (by omega)
 ·subst h8;rw[show sA 8 nm=2 from rfl]at ab;obtain⟨U,x1,d0,d1,rfl,rfl,h0,h1⟩:=uj am ab;simp only[zG]at hc;have m1:x1∈[U,x1]:=by simp
  obtain⟨s0,s1,s2⟩:=hC.let_;obtain⟨u0,a0⟩:=s0.ty;have q0:=U.cnt3;refine⟨_,_,_,rfl,⟨by decide,by simp⟩,λN3 I=>?_⟩;refine Y (by simp) N3 _ λN4 ah _=>Br.not (λae=>⟨_,rfl,_,_,_,rfl,⟨by decide,by simp⟩,λN5 ai=>?_⟩) λae=>⟨_,_,_,rfl,?_⟩
  ·refine OH U d0 h0 s0.ok s0.b g u0 a0 w s0.fit a1 c1 (by omega) N5 _ λN6 aj _=>⟨_,_,_,rfl,⟨by decide,by simp⟩,λN7 az=>?_⟩
   refine R7 w (by omega) (nm,U.ev (w.map plN),false) a1 c1 N7 _ λa6 c6 N8 ax _ _ _ N9 aq=>?_;refine MH (fs:=[d0,d1]) al hh.nm s0.pre h0 (by simp) a2 c2 N9 _ λa7 ac c7 ch b6 ak _ _ b2 b7=>?_;refine ih x1 m1 d1 h1 _ _ ac s2 ak (by simp;omega) a6 a7 c6 c7 b2 _ λd' ci b9 J O _ _ cj bm=>?_;refine hQ _ _ (by omega) ?_ (O.mono (by omega) bm);simp only[Tm.sp,hb,ni,nQ];rw[if_neg (by simp),if_pos ⟨by trivial,ae⟩];simp only[K1,O2];exact J
  ·exact loop (by simp only[Tm.sp,hb,ni,nQ];rw[if_neg (by simp),if_neg (by simp[ae])]) (λ_=>ae) N4 (by omega)
 ·exact loop (by simp only[Tm.sp,hb,ni,nQ];rw[if_neg (by simp[h5]),if_neg (by simp[h8])]) (λh=>absurd h h8) N2 (by omega)
def yp (l:List Int):List D:=l.map λn=>.j n
theorem tg (l:List Int):(yp l).length=l.length:=by simp[yp]
theorem Gn {l:List Int}{i:Nat}{b:Int}(h:l[i]?=some b):(yp l).getD i default=.j b:=by simp[yp,oB,oG,h]
def uF:List Pm->List Int->Bool
 | [],_=>true
 | p::g,[]=>true
 | p::g,n::ns=>Gi p.ty n&&uF g ns
def D8:List Pm->List Int->List Nb
 | p::g,n::ns=>(p.nm,n)::D8 g ns
 | _,_=>[]
theorem Ny {g:List Pm}{e:Tm}(h:(xW g e).isSome=true):∃ u,e.type (xS g) 0=some u:=by
 unfold xW at h;split at h
 ·exact mQ.1 h
 ·cases h
theorem H9 {g:List Pm} {es:List D} (h:Pms g es) (hg:g.length<=1073741824) (ns:List Int) (hn:ns.length<=1073741824) (a a2:Option Addr) (c c2:Nat) :
  vM 19 [.sv a 4 es c,.sv a2 0 (yp ns) c2] (decide (ns.length=g.length)&&uF g ns):=λN Q Y=>by
 have hl:=h.all.len;have am:=tg ns;refine IS N a es c a2 _ c2 Q λ_ _=>Br.bne (λao N1 aa=>?_) λheq=>?_
 ·exact Qb (Y _ aa) (by rw[md (by omega)];rfl)
 ·have ab:ns.length=g.length:=by omega
  rw[mJ ab,lB]at Y;have key:=up h.all h.len (λi xs=>∀(N':Nat),N<=N'->(uF g ns=uF xs (ns.drop i))->wo Q N a2 (yp ns) c2 a es c es.length i N') ?_ ?_
  ·exact key N (by omega) rfl
  ·intro i O hi N' ac I;refine qm ?_
   repeat' first|with_reducible intro _|simp only[O,Y1]|with_reducible refine X ?_ ?_|refine⟨_,_,_,rfl,?_⟩|refine⟨_,rfl,?_⟩|refine X0 ?_|fail
   exact Qb (Y _ (by omega)) (by rw[I];rfl)
  ·intro i x xs J aq ae N' ac I;have au:=J.b;have O:i<ns.length:=by omega
   have ah:ns[i]?=some ns[i]:=oF O;have ai:=Gn ah;obtain⟨t0,t1,aj,aw,ak⟩:=J.r;have al:ns.drop i=ns[i]::ns.drop (i+1):=by rw[mi]
   rw[al]at I;simp only[uF]at I;refine qm ?_;have U:=MB ak ns[i]
   repeat' first|with_reducible intro _|simp only[J.lt,J.w,oI,aj,ai,Y1]|with_reducible refine X ?_ ?_|refine⟨_,_,_,rfl,?_⟩|refine⟨_,rfl,?_⟩|refine X0 ?_|refine U _ _ ?_|fail
   ·rename_i hx _ _;exact Qb (Y _ (by omega)) (by rw[I,hx];rfl)
   ·refine ae _ (by omega) ?_;rename_i hx;rw[I,hx,lB]
def wL (g:List Pm):List Pm:=g.filter λp=>!p.dy
def wK (g:List Pm):List Pm:=g.filter λp=>p.dy
theorem wy (g:List Pm):(wL g).length<=g.length:=mO _ _
theorem wU (g:List Pm):(wK g).length<=g.length:=mO _ _
theorem C5 {g:List Pm}{x:Pm}:wL (g++[x])=if x.dy then wL g else wL g++[x]:=by unfold wL;rw[List.filter_append];cases h:x.dy<;>simp[h]
theorem qJ {g:List Pm}{x:Pm}:wK (g++[x])=if x.dy then wK g++[x]else wK g:=by unfold wK;rw[List.filter_append];cases h:x.dy<;>simp[h]
theorem xC {g:List Pm} {es:List D} (h:Pms g es) (hg:g.length<=1073741824) (hc:∀ x∈g,x.ty.cnt<=1073741824) (a:Option Addr) (c:Nat) (N:Nat) (Q:QT [.sl 4,.sl 4])
  (hQ:∀ a1 Y c1 a2 aa c2 N',N<=N'->Pms (wL g) Y->Pms (wK g) aa->Q a1 Y c1 a2 aa c2 N'):ACalls prog 16 [.sl 4,.sl 4] [.sv a 4 es c] N Q:=by
 have hl:=h.all.len;refine DT N a es c Q λ_=>?_;refine up h.all h.len (λi xs=>∀(d1 d2:List D) (q1 q2 N':Nat),N<=N'->All2 Pm.Is (wL (g.take i)) d1->All2 Pm.Is (wK (g.take i)) d2->yX Q N a es c d1.length q1 d2.length q2 i d1 q1 d2 q2 N') ?_ ?_ [] [] 0 0 N (oD _) rfl rfl
 ·intro i ae hi d1 d2 q1 q2 N' ah O U;refine u5 ?_;rw[oX (by omega)]at O U;have k1:=O.len;have k2:=U.len;have n1:=wy g;have n2:=wU g;rw[ae];exact⟨⟨rfl,rfl⟩,⟨rfl,rfl⟩,⟨rfl,rfl⟩,λa1 N1 ai _=>⟨⟨rfl,rfl⟩,⟨rfl,rfl⟩,⟨rfl,rfl⟩,λa2 N2 aj _ N3 am=>hQ _ _ _ _ _ _ _ (by omega) ⟨by omega,O⟩ ⟨by omega,U⟩⟩⟩
 ·intro i x xs I _ ab d1 d2 q1 q2 N' ah O U;have hb:=I.b;obtain⟨t0,t1,ak,ac,al⟩:=I.r;have k1:=O.len;have k2:=U.len;have n1:=wy (g.take i);have n2:=wU (g.take i);rw[nC]at n1 n2;refine u5 ?_;rw[I.lt,oI,ak,I.w];refine⟨⟨by omega,by omega⟩,_,rfl,⟨by omega,by omega⟩,⟨by omega,by omega⟩,_,rfl,λN1 ai=>?_⟩;refine zO x.ty _ al (hc x I.m) N1 _ λx' N2 aj hx ao _ _=>Br.of (λJ=>?_) λJ=>?_
  ·refine⟨⟨rfl,rfl⟩,by unfold zA;rw[oK];simp only[oJ,oN];omega,λc1=>?_⟩;refine ab _ _ _ _ _ (by omega) ?_ ?_
   ·rw[zX I.g,C5,if_pos J];exact O
   ·rw[zX I.g,qJ,if_pos J];exact U.snoc ⟨_,_,rfl,ac,Ty.is_cells hx⟩
  ·refine⟨⟨rfl,rfl⟩,by unfold zA;rw[oK];simp only[oJ,oN];omega,λc1=>?_⟩;refine ab _ _ _ _ _ (by omega) ?_ ?_
   ·rw[zX I.g,C5,if_neg (by simp[J])];exact O.snoc ⟨_,_,rfl,ac,Ty.is_cells hx⟩
   ·rw[zX I.g,qJ,if_neg (by simp[J])];exact U
theorem sS {g:List Pm} {es:List D} (h:Pms g es) (hg:g.length<=1073741824) (hc:∀ x∈g,x.ty.cnt<=1073741824) (a:Option Addr) (c:Nat) (N:Nat) (Q:QT [.sl 4,.sl 4])
  (hQ:∀ a1 Y c1 a2 aa c2 N',N<=N'->Pms (wL g) Y->Pms (wK g) aa->Q a1 Y c1 a2 aa c2 N'):ACalls prog 14 [.sl 4,.sl 4] [.sv a 4 es c] N Q:=by
 have hl:=h.all.len;refine DM N a es c Q λ_=>?_;refine up h.all h.len (λi xs=>∀(d1 d2:List D) (q1 q2 N':Nat),N<=N'->All2 Pm.Is (wL (g.take i)) d1->All2 Pm.Is (wK (g.take i)) d2->yW Q N d1.length q1 d2.length q2 a es c es.length i d1 q1 d2 q2 N') ?_ ?_ [] [] 0 0 N (oD _) rfl rfl
 ·intro i ae hi d1 d2 q1 q2 N' ah O U;refine uy ?_;rw[oX (by omega)]at O U;have k1:=O.len;have k2:=U.len;have n1:=wy g;have n2:=wU g;rw[ae];exact⟨⟨rfl,rfl⟩,⟨rfl,rfl⟩,⟨rfl,rfl⟩,λa1 N1 ai _=>⟨⟨rfl,rfl⟩,⟨rfl,rfl⟩,⟨rfl,rfl⟩,λa2 N2 aj _ N3 am=>hQ _ _ _ _ _ _ _ (by omega) ⟨by omega,O⟩ ⟨by omega,U⟩⟩⟩
 ·intro i x xs I _ ab d1 d2 q1 q2 N' ah O U;have hb:=I.b;obtain⟨t0,t1,ak,ac,al⟩:=I.r;have k1:=O.len;have k2:=U.len;have n1:=wy (g.take i);have n2:=wU (g.take i);rw[nC]at n1 n2;refine uy ?_;rw[I.lt,oI,ak,I.w];refine⟨⟨by omega,by omega⟩,_,rfl,_,rfl,λN1 ai=>?_⟩;refine GS x.ty _ al (hc x I.m) N1 _ λx' N2 aj hx ao _ _=>⟨_,rfl,Br.of (λJ=>?_) λJ=>?_⟩
  ·refine⟨⟨rfl,rfl⟩,by unfold zA;rw[oK];simp only[oJ,oN];omega,λc1=>?_⟩;refine ab _ _ _ _ _ (by omega) ?_ ?_
   ·rw[zX I.g,C5,if_pos J];exact O
   ·rw[zX I.g,qJ,if_pos J];exact U.snoc ⟨_,_,rfl,ac,Ty.is_cells hx⟩
  ·refine⟨⟨rfl,rfl⟩,by unfold zA;rw[oK];simp only[oJ,oN];omega,λc1=>?_⟩;refine ab _ _ _ _ _ (by omega) ?_ ?_
   ·rw[zX I.g,C5,if_neg (by simp[J])];exact O.snoc ⟨_,_,rfl,ac,Ty.is_cells hx⟩
   ·rw[zX I.g,qJ,if_neg (by simp[J])];exact U
def pF:List Pm->List Int->List Pl
 | [],_=>[]
 | p::g,ns=>if p.dy then(p.nm,0,true)::pF g ns else(p.nm,ns.headD 0,false)::pF g ns.tail
theorem Kt:∀(g:List Pm)(ns:List Int),(pF g ns).length=g.length
 | [],_=>rfl
 | p::g,ns=>by simp only[pF];split<;>simp[Kt g]
theorem Mk (I:List Int):List.drop 1 (List.take (((yp I).length:Int)).toNat (yp I))=yp I.tail:=by rw[oI,lA];cases I<;>rfl
theorem XF {g:List Pm}{es:List D}(h:Pms g es)(hg:g.length<=1073741824)(ns:List Int)(hn:ns.length<=1073741824)(a a1:Option Addr)(c c1:Nat):Z5 20 [.sv a 4 es c,.sv a1 0 (yp ns) c1] (pF g ns):=λN Q hQ=>by
 have hl:=h.all.len;refine Nc N a es c a1 _ c1 Q λ_ _=>?_;have key:=up h.all h.len (λi xs=>(i=0->xs=g->∀(N':Nat),N<=N'->sy Q N a1 (yp ns) c1 0 0 a es c es.length i [] 0 N') /\
  (0<i->∀(done:List Pl) (U:List Int) (a1 a5:Option Addr) (c1 c5:Nat) (N':Nat),N<=N'->done++pF xs U=pF g ns->done.length=i->U.length<=1073741824->zU Q N a1 (yp U) c1 a5 (done.map plD) c5 a es c es.length i N'))
  (λi aj hi=>⟨λh0 hx N' ae=>?_,λh0 done U a1 a5 c1 c5 N' ae hp ak hm=>?_⟩) (λi x xs aa _ al=>⟨λh0 hx N' ae=>?_,λh0 done U a1 a5 c1 c5 N' ae hp ak hm=>?_⟩)
 ·exact key.1 rfl rfl N (oD _)
 ·refine BS ?_;subst hx;rw[aj];exact⟨⟨rfl,rfl⟩,⟨rfl,rfl⟩,⟨rfl,rfl⟩,λa6 N1 J _ N2 am=>hQ _ _ _ (by omega)⟩
 ·refine rW ?_;simp only[pF,ou]at hp;rw[aj,hp];exact λN1 J=>hQ _ _ _ (by omega)
 ·have hb:=aa.b;obtain⟨t0,t1,ah,ao,aq⟩:=aa.r;subst h0;subst hx;refine BS ?_;rw[aa.lt,oI,ah,aa.w];have step:∀(p:Pl) (U:List Int),[p]++pF xs U=pF (x::xs) ns->U.length<=1073741824->∀(a1:Option Addr) (c1:Nat) (a2:Option Addr),∀ N1,N'<=N1->wm N1 [a2]->ACalls prog 51 [.sl 3] [.sv a2 3 [] 0,.dg 3 (plD p)] N1
    λa3 ab c3 N2=>N1<=N2->Off [a2] (D.sl a3 3 ab c3)/\(Bel N2 (D.sl a3 3 ab c3)->zU Q N a1 (yp U) c1 a3 ab c3 a es c es.length ((0+1:Nat):Int) N2):=λp U hp hm a1 c1 a2 N1 J O=>by
   refine R7 [] (by simp) p a2 0 N1 _ λa3 c3 N2 am own _=>⟨P3 O own (oD _),λ_=>?_⟩
   exact al.2 (by omega) [p] U a1 a3 c1 c3 N2 (by omega) hp rfl hm
  refine⟨⟨by omega,by omega⟩,_,rfl,_,rfl,_,rfl,Br.not (λY=>Br.dec (λI=>?_) λI=>⟨⟨rfl,rfl⟩,λa2 _ N1 J O=>?_⟩) λY=>⟨⟨rfl,rfl⟩,λa2 _ N1 J O=>?_⟩⟩
  ·cases ns with
   | nil=>simp[yp]at I
   | cons m U=>refine⟨⟨by omega,I⟩,_,rfl,⟨by omega,by omega,Int.le_refl _⟩,⟨rfl,rfl⟩,λa2 _ N1 J O=>?_⟩;rw[Mk];exact step (x.nm,m,x.dy) U (by simp[pF,Y]) (by simp at hn;omega) _ _ a2 N1 J O
  ·have ai:ns=[]:=oL (by simp[yp]at I;simpa using I);subst ai;exact step (x.nm,0,x.dy) [] (by simp[pF,Y]) (by simp) _ _ a2 N1 J O
  ·exact step (x.nm,0,x.dy) ns (by simp[pF,Y]) hn _ _ a2 N1 J O
 ·have hb:=aa.b;obtain⟨t0,t1,ah,ao,aq⟩:=aa.r;refine rW ?_;rw[aa.lt,oI,ah,aa.w];have step:∀(p:Pl) (ac:List Int),p::pF xs ac=pF (x::xs) U->ac.length<=1073741824->∀(a1:Option Addr) (c1:Nat),∀ N1,N'<=N1->ACalls prog 51 [.sl 3] [.sv a5 3 (done.map plD) c5,.dg 3 (plD p)] N1
    λa3 ab c3 N2=>N1<=N2->Bel N2 (D.sl a3 3 ab c3)->zU Q N a1 (yp ac) c1 a3 ab c3 a es c es.length ((i+1:Nat):Int) N2:=λp ac au aw a1 c1 N1 J=>by
   refine R7 done (by omega) p a5 c5 N1 _ λa3 c3 N2 am own _ _=>?_;exact al.2 (by omega) (done++[p]) ac a1 a3 c1 c3 N2 (by omega) (by rw[<-hp,<-au];simp) (by simp[ak]) aw
  refine⟨⟨by omega,by omega⟩,_,rfl,_,rfl,_,rfl,Br.not (λY=>Br.dec (λI=>?_) λI N1 J=>?_) λY N1 J=>?_⟩
  ·cases U with
   | nil=>simp[yp]at I
   | cons m U=>refine⟨⟨by omega,I⟩,_,rfl,⟨by omega,by omega,Int.le_refl _⟩,λN1 J=>?_⟩;rw[Mk];exact step (x.nm,m,x.dy) U (by simp[pF,Y]) (by simp at hm;omega) _ _ N1 J
  ·have ai:U=[]:=oL (by simp[yp]at I;simpa using I);subst ai;exact step (x.nm,0,x.dy) [] (by simp[pF,Y]) (by simp) _ _ N1 J
  ·exact step (x.nm,0,x.dy) U (by simp[pF,Y]) hm _ _ N1 J
theorem Fit.cons {v:List Nb}{g:List Tg}(h:Fit v g){x:Tg}{y:Nb}(O:x.nm=y.1)(U:Gi x.ty y.2=true):Fit (y::v) (x::g):=by
 refine⟨by simp[h.len],λi a b I J=>?_⟩;cases i with
 | zero=>simp at I J;subst I;subst J;exact⟨O,U⟩
 | succ i=>exact h.at_ i a b (by simpa using I) (by simpa using J)
theorem KT:∀(g:List Pm)(ns:List Int),ns.length=(wL g).length->uF (wL g) ns=true->Fit ((pF g ns).map plN) (xS g)
 | [],ns,_,_=>⟨rfl,λi a b Y=>by simp[xS]at Y⟩
 | p :: g,ns,J,I=>by
   simp only[pF];cases O:p.dy with
   | true=>
     have e:wL (p::g)=wL g:=by simp[wL,O]
     rw[e]at J I;have U:=KT g ns J I;simp only[nj,oZ];exact U.cons (x:=⟨p.nm,p.ty,0⟩) (y:=(p.nm,0)) rfl (MZ _)
   | false=>
     have e:wL (p::g)=p::wL g:=by simp[wL,O]
     rw[e]at J I;cases ns with
     | nil=>simp at J
     | cons m ms=>simp only[uF,oE]at I;have U:=KT g ms (by simpa using J) I.2;simp only[mI,nQ,oZ,List.headD_cons,List.tail_cons];exact U.cons (x:=⟨p.nm,p.ty,0⟩) (y:=(p.nm,m)) rfl I.1
def ya (g:List Pm)(e:Tm)(ns:List Int):Option Tm:=if(xW g e).isSome=true/\ns.length=(wL g).length/\uF (wL g) ns=true then some (e.sp (pF g ns) (xS g))else none
theorem HI (g:List Pm)(e:Tm)(ns:List Int):((ya g e ns).getD (Tm.nod 0 [])).cnt<=e.cnt+3:=by
 unfold ya;split
 ·have:=Jb e (pF g ns) (xS g);simp only[ob];omega
 ·simp only[Option.getD_none,uO,zG];omega
def YX (f:FuncId)(args:List PV)(o:Option Tm):Prop:=∀(N:Nat) (Q:QT [.ag 9,.bool]),(∀ d' N',N<=N'->(o.getD (Tm.nod 0 [])).Is d'->Own N N' d'->Q d' o.isSome N')->ACalls prog f [.ag 9,.bool] args N Q
theorem K2 {g:List Pm}{e:Tm}{ns:List Int}(I:(xW g e).isSome=true)(O:ns.length=(wL g).length)(U:uF (wL g) ns=true)(hc:e.cnt<=536870000):SpC e (pF g ns) (xS g):=by obtain⟨Y,hv,J⟩:=tX I;exact⟨Zq hv,J,PQ Y hv J hc,Ny I,KT g ns O U⟩
theorem rJ {g:List Pm} {es:List D} (h:Pms g es) (hg:g.length<=1073741) (az:∀ x∈g,x.ty.cnt<=1073741824) {e:Tm} {d:D} (he:e.Is d) (hc:e.cnt<=250000000) (ns:List Int) (hn:ns.length<=1073741824) (a a2:Option Addr) (c c2:Nat) :
  YX 9 [.sv a 4 es c,.dg 9 d,.sv a2 0 (yp ns) c2] (ya g e ns):=λN Q hQ=>by
 have hl:=h.all.len;have ai:=tg ns;have no:ya g e ns=none->∀ N',N<=N'->Q (D.ag [D.j 0,D.t (bytes []),D.t (bytes []),D.j 0,D.j 0,D.sl none 2 [] 0,D.j 0,D.sl none 2 [] 0,D.sl none 9 [] 0]) false N':=λh N' ab=>by rw[h]at hQ;exact hQ _ _ ab (JK rfl (by simp)) (Am 0)
 refine EV N a es c d a2 _ c2 Q λ_ _ _ N1 a0=>?_;refine tY h (by omega) he (by omega) a c N1 _ λx N2 a5 _ _ _ N3 a8=>?_;refine xC h (by omega) az a c N3 _ λa3 bi c3 a4 bj c4 N4 bm h3 h4 _ _ _=>Br.not (λhb N5 aj=>?_) λhb=>Br.bne (λbp N5 aj=>?_) λheq=>?_
 ·exact no (by unfold ya;rw[if_neg (by simp[hb])]) _ (by omega)
 ·have:=h3.all.len
  exact no (by unfold ya;rw[if_neg (by intro⟨_,h,_⟩;omega)]) _ (by omega)
 ·have bq:=h3.all.len;have ac:ns.length=(wL g).length:=by omega
  refine up h.all h.len (λi xs=>∀(done:List Pl) (j:Nat) (q N':Nat),N<=N'->j<=ns.length->(ns.drop j).length=(wL xs).length->done.length=i->uF (wL g) ns=uF (wL xs) (ns.drop j)->done++pF xs (ns.drop j)=pF g ns ->
   yg Q N a es c a2 (yp ns) c2 done.length q j i d 0 (bytes []) (bytes []) 0 0 none [] 0 0 none [] 0 none [] 0 (done.map spB) q N') ?_ ?_ [] 0 0 N4 (by omega) (by omega) ac rfl rfl rfl
  ·intro i a9 hi done j q N' ab hj U ae I O;refine tl ?_;rw[a9];intro N5 aj;refine Ca h (by omega) a c N5 _ λa6 ba c6 N6 bt ak _ _=>⟨⟨by simp,rfl⟩,λa7 _ _ _ N7 bv al=>?_⟩
   simp only[pF,ou]at O;have aa:uF (wL g) ns=true:=by rw[I];rfl
   have bb:ya g e ns=some (e.sp (pF g ns) (xS g)):=by unfold ya;rw[if_pos ⟨hb,ac,aa⟩]
   rw[bb]at hQ;rw[O];refine Uq e d he _ _ ba (K2 hb ac aa (by omega)) ak (by rw[Kt];omega) a7 a6 q c6 N7 _ λd' N8 bw ah am _=>⟨xI al am,λ_ N9 bc=>?_⟩
   exact hQ _ _ (by omega) ah (am.mono (by omega) bc)
  ·intro i x xs Y _ ao done j q N' ab hj U ae I O;have bz:=Y.b;obtain⟨t0,t1,ah,b1,bg⟩:=Y.r;have aq:done.length=(done.map spB).length:=by simp
   have au:∀ p:Pl,zA (done.map spB) [spB p] 32:=λp=>by unfold zA;rw[oK];simp only[om,oJ,oN];omega
   refine tl ?_;rw[Y.lt,oI,ah,Y.w,oI];refine⟨⟨by omega,by omega⟩,_,rfl,⟨by omega,by omega⟩,_,rfl,Br.not (λJ=>?_) λJ=>⟨⟨aq,rfl⟩,?_,λc5=>?_⟩⟩
   ·have e1:wL (x::xs)=x::wL xs:=by simp[wL,J]
    rw[e1]at U I;rw[mZ]at U;simp only[oJ]at U;have aw:j<ns.length:=by omega
    have bh:ns.drop j=ns[j]::ns.drop (j+1):=by rw[mi]
    have ax:=Gn (oF aw);rw[bh]at I O;simp only[uF]at I;simp only[pF,J,mI,nQ,List.headD_cons,List.tail_cons]at O;refine⟨⟨by omega,by omega⟩,⟨by omega,by rw[ai];omega⟩,_,ax,λN1 a0=>?_⟩;refine BQ bg _ N1 _ λN2 a5 _=>Br.not (λhx N3 a8=>?_) λhx=>⟨⟨by omega,by rw[ai];omega⟩,_,ax,⟨aq,rfl⟩,?_,λc5=>?_⟩
    ·refine no ?_ _ (by omega);unfold ya;rw[if_neg];intro⟨_,_,ay⟩;rw[I,hx]at ay;simp at ay
    ·have:=au (x.nm,ns[j],false)
     simp only[spB]at this;rw[J];exact this
    ·have e2:done.map spB++[D.ag [D.t x.nm,D.lit (.bool x.dy),D.j (ns[j])]]=(done++[(x.nm,ns[j],false)]).map spB:=by rw[J];simp[spB]
     have e3:IntKind.i64.wrap ((j:Int)+1)=((j+1:Nat):Int):=by rw[i64_in _ (by omega)];simp
     rw[e2,e3,om];refine ao _ (j+1) _ _ (by omega) (by omega) ?_ (by simp[ae]) ?_ (by rw[<-O];simp)
     ·rw[mZ];omega
     ·rw[I,hx,lB]
   ·have:=au (x.nm,0,true)
    simp only[spB]at this;rw[J];exact this
   ·have e2:done.map spB++[D.ag [D.t x.nm,D.lit (.bool x.dy),D.j 0]]=(done++[(x.nm,0,true)]).map spB:=by rw[J];simp[spB]
    have e1:wL (x::xs)=wL xs:=by simp[wL,J]
    rw[e1]at U I;simp only[pF,J,nj]at O;rw[e2,om];exact ao _ j _ _ (by omega) hj U (by simp[ae]) I (by rw[<-O];simp)
theorem rH {g:List Pm} {es:List D} (h:Pms g es) (hg:g.length<=1073741) (Y:∀ x∈g,x.ty.cnt<=1073741824) {e:Tm} {d:D} (he:e.Is d) (hc:e.cnt<=250000000) (ns:List Int) (hn:ns.length<=1073741824) (a a2:Option Addr) (c c2:Nat) :
  YX 8 [.sv a 4 es c,.dg 9 d,.sv a2 0 (yp ns) c2] (ya g e ns):=λN Q hQ=>by
 have hl:=h.all.len;have ax:=tg ns;have no:ya g e ns=none->∀ N',N<=N'->Q (D.ag [D.j 0,D.t (bytes []),D.t (bytes []),D.j 0,D.j 0,D.sl none 2 [] 0,D.j 0,D.sl none 2 [] 0,D.sl none 9 [] 0]) false N':=λh N' J=>by rw[h]at hQ;exact hQ _ _ J (JK rfl (by simp)) (Am 0)
 refine ER N a es c d a2 _ c2 Q λ_ _ _ N1 ay=>?_;refine sS h (by omega) Y a c N1 _ λa3 az c3 a4 a0 c4 N2 a5 h3 h4 _ _ _ N3 a8=>?_;refine GL h (by omega) Y he (by omega) a c N3 _ λx N4 a9 _ _ _ _=>Br.not (λhb N5 aj=>?_) λhb N5 aj=>?_
 ·exact no (by unfold ya;rw[if_neg (by simp[hb])]) _ (by omega)
 ·have n1:=wy g;refine H9 h3 (by omega) ns hn a3 a2 c3 c2 N5 _ λN6 ba _=>Br.not (λhx N7 ak=>?_) λhx=>?_
  ·refine no ?_ _ (by omega);unfold ya;rw[if_neg];intro⟨_,h8,h9⟩;rw[h9,mJ h8]at hx;simp at hx
  ·simp only[oE,oq]at hx;obtain⟨aa,O⟩:=hx;have al:ya g e ns=some (e.sp (pF g ns) (xS g)):=by unfold ya;rw[if_pos ⟨hb,aa,O⟩]
   rw[al]at hQ;refine up h.all h.len (λi xs=>∀(done:List D) (q N':Nat),N<=N'->All2 Tg.Is ((xS g).take i) done->done.length=i ->
    xZ Q N a es c a2 (yp ns) c2 done.length q a es c es.length i d 0 (bytes []) (bytes []) 0 0 none [] 0 0 none [] 0 none [] 0 done q N') ?_ ?_ [] 0 N6 (by omega) rfl rfl
   ·intro i am hi done q N' J hd ab;refine ti ?_;rw[oX (by rw[tZ];omega)]at hd;rw[am];intro N7 ak;refine XF h (by omega) ns hn a a2 c c2 N7 _ λa6 c6 N8 bb _ _=>⟨⟨rfl,rfl⟩,λa7 _ _ _ N9 bc ac=>?_⟩
    refine SI e d he _ _ done (K2 hb aa O (by omega)) ⟨by omega,hd⟩ (by rw[Kt];omega) a6 a7 c6 q N9 _ λd' bg aw U ae _=>⟨xI ac ae,λ_ bh ah=>?_⟩
    exact hQ _ _ (by omega) U (ae.mono (by omega) ah)
   ·intro i x xs I _ ao done q N' J hd ab;have bi:=I.b;obtain⟨t0,t1,U,aq,au⟩:=I.r;have ai:(xS g)[i]?=some ⟨x.nm,x.ty,0⟩:=by rw[xS,oG,I.g];rfl
    refine ti ?_;rw[I.lt,oI,U,I.w];refine⟨⟨by omega,by omega⟩,_,rfl,⟨rfl,rfl⟩,by unfold zA;rw[oK];simp only[oJ,oN];omega,λc5=>?_⟩;exact ao _ _ _ J (by rw[zX ai];exact hd.snoc ⟨_,_,rfl,aq,au⟩) (by simp[ab])
def Kg (nm:ByteArray)(ty:Ty)(t:Tm):Tm:=.mk 6 nm (bytes []) 0 ty (.mk 0 []) [t]
def yV:List Pm->Tm->Tm
 | [],e=>e
 | p::g,e=>Kg p.nm p.ty (yV g e)
def pmW:List Pm->Nat
 | []=>0
 | p::g=>2+p.ty.cnt+pmW g
theorem VO (nm:ByteArray)(ty:Ty)(t:Tm):(Kg nm ty t).cnt=2+ty.cnt+t.cnt:=by simp only[Kg,Tm.cnt,Ty.cnt,zN,zG];omega
theorem pY:∀(g:List Pm)(e:Tm),(yV g e).cnt=pmW g+e.cnt
 | [],e=>by simp[yV,pmW]
 | p::g,e=>by simp only[yV,pmW,VO,pY g e];omega
theorem P8:∀(g:List Pm)(i:Nat),pmW (g.drop i)<=pmW g
 | [],i=>by simp
 | p::g,0=>by simp
 | p::g,i+1=>by simp only[List.drop_succ_cons,pmW];have:=P8 g i;omega
theorem Oi:∀ {g:List Pm}{p:Pm},p∈g->p.ty.cnt<=pmW g
 | q::g,p,h=>by
   simp only[pmW];rcases oH.1 h with rfl | h
   ·omega
   ·have:=Oi h;omega
theorem Of {N N':Nat}{us vs:List D}(h:OwnL N N' (us++vs)):OwnL N N' vs:=by have hn:=h.nd;rw[zC,nN]at hn;exact⟨hn.2.1,(pW h.fl).2,λb I=>h.lo b (by rw[zC];exact nP _ I),λb I=>h.hi b (by rw[zC];exact nP _ I)⟩
theorem TM {N N':Nat}{I J:D}{v:Value}{es:List D}(h:OwnL N N' (I::J::es)):OwnL N N' (I::J::.lit v::.sl none 2 [] 0::es):=
 ⟨by simpa only[zF,D.foot,oV]using h.nd,⟨h.fl.1,h.fl.2.1,trivial,⟨by simp,trivial⟩,h.fl.2.2⟩,by simpa only[zF,D.foot,oV]using h.lo,by simpa only[zF,D.foot,oV]using h.hi⟩
theorem XD {s:ByteArray}(hs:s.size<=4611686018427387904){ty:Ty}{Y:D}(h1:ty.Is Y)(aa:ty.cnt<=1073741824){t:Tm}{x2:D}(h2:t.Is x2)(ab:t.cnt<=1073741824):Cop 43 9 [.str s,.dg 2 Y,.dg 9 x2] (Kg s ty t).Is:=λN Q hQ=>by
 refine E0 N s Y x2 Q λ_ _=>⟨⟨rfl,rfl⟩,λa _ N1 ac I=>?_⟩
 refine uW 6 (sQ h2) (by simp) (by simpa using ab) a 1 N1 _ λx N2 ak hx J _=>⟨xI I J,λ_ N3 ae=>?_⟩
 refine zO ty Y h1 aa N3 _ λx' N4 al O ah _ _ N5 ai=>?_;obtain⟨t0,t1,r0,r1,a',es,c,rfl,hh,U,aj⟩:=Tm.is_mk.1 hx;refine hQ _ _ (by omega) (Tm.is_mk.2 ⟨_,_,_,_,_,_,_,rfl,⟨hs,hh.ot,Ty.is_cells O,hh.re⟩,U,aj⟩) ?_;have hr:OwnL N1 N2 [r0,r1,.sl a' 9 es c]:=by
  have:OwnL N1 N2 [.j 6,.t (bytes []),.t (bytes []),.j 0,t0,t1,r0,r1,.sl a' 9 es c]:=⟨by have:=J.nd;simpa only[D.foot]using this,J.fl,by have:=J.lo;simpa only[D.foot]using this,by have:=J.hi;simpa only[D.foot]using this⟩
  exact Of (us:=[.j 6,.t (bytes []),.t (bytes []),.j 0,t0,t1]) this
 have hc:=(ue O ah).mono (oD _) ai;exact tv (zH (zH (zH (zH (AG hc (hr.mono ac ae) (by omega) (by omega))))))
theorem JC {g:List Pm}{i:Nat}{p:Pm}(e:Tm)(h:g[i]?=some p):yV (g.drop i) e=Kg p.nm p.ty (yV (g.drop (i+1)) e):=by
 have I:i<g.length:=(oC.1 h).1;rw[mW I];have:g[i]=p:=by rw[oF I]at h;exact oU h
 rw[this];rfl
theorem uM {g:List Pm}{es:List D}(h:Pms g es)(hg:g.length<=1073741824)(hW:pmW g<=536870000){t:Tm}{d:D}(ht:t.Is d)(hc:t.cnt<=536870000)(a:Option Addr)(c:Nat):Cop 17 9 [.sv a 4 es c,.dg 9 d] (yV g t).Is:=λN Q hQ=>by
 have hl:=h.all.len;refine EU N a es c d Q λ_ _ N1 am=>?_;refine Fr t d ht (by omega) N1 _ ?_;obtain⟨k,nm,ot,n0,ty,re,l⟩:=t;intro x4 x5 x6 x7 es' c' N2 a0 aa J ab _ _;have a2:=J.len;have a3:=xh l;simp only[Tm.cnt]at hc;have one:∀(i:Nat) (p:Pm),g[i]?=some p->∀(x:D),(yV (g.drop (i+1)) (.mk k nm ot n0 ty re l)).Is x ->
   ∃ s,(if 0=0 then D.cell (List.getD es i default) 0 else D.sub (List.getD es i default) 0 0)=D.t s/\∀(N3:Nat) (Q':QT [.ag 9]),(∀ x' Y,N3<=Y->(yV (g.drop i) (.mk k nm ot n0 ty re l)).Is x'->Own N3 Y x'->Q' x' Y) ->
     ACalls prog 43 [.ag 9] [.str s,.dg 2 (if 2=0 then D.cell (List.getD es i default) 1 else D.sub (List.getD es i default) 1 2),.dg 9 x] N3 Q':=λi p hp x hx=>by
  obtain⟨t0,t1,ac,ah,ai⟩:=h.all.get hp;have a4:=Oi (oA hp);have ao:=pY (g.drop (i+1)) (.mk k nm ot n0 ty re l);have a6:=P8 g (i+1);simp only[Tm.cnt]at ao;rw[ac];refine⟨_,rfl,λN3 Q' aq=>?_⟩;refine XD ah ai (by omega) hx (by omega) N3 Q' λx' Y U O ho=>aq x' Y U (by rw[JC _ hp];exact O) ho
 have rest:∀(i:Nat),i<=g.length->∀(x:D) (N3:Nat),N<=N3->(yV (g.drop i) (.mk k nm ot n0 ty re l)).Is x->Own N N3 x->yn Q N a es c ((i:Int) - 1) 0 (bytes []) (bytes []) 0 0 none [] 0 0 none [] 0 none [] 0 x N3:=by
  intro i
  induction i with
  | zero=>intro hi x N3 au hx ho;refine uG (Br.dec (λh=>by omega) λ_ Y U=>?_);exact hQ _ _ (by omega) hx (ho.mono (oD _) U)
  | succ i ih=>
    intro hi x N3 au hx ho;have hp:g[i]?=some g[i]:=oF (by omega);refine uG ?_;have e0:(((i+1:Nat):Int) - 1)=(i:Int):=by omega
    rw[e0,i64_in ((i:Int) - 1) (by omega),oI];refine Br.dec (λ_=>⟨⟨by omega,by omega⟩,?_⟩) λh=>by omega
    obtain⟨s,hs,I⟩:=one i _ hp x hx;exact⟨s,hs,⟨by omega,by omega⟩,λY U=>I Y _ λx' N5 aj O ab _ _=>ih (by omega) x' N5 (by omega) O (ab.mono (by omega) (oD _))⟩
 have aw:∀(a5:Option Addr) (N5:Nat),N2<=N5->Fresh N N5 a5 [D.ag es']->(Tm.mk k nm ot n0 ty re l).Is (.ag [.j k,.t nm,.t ot,.j n0,x4,x5,x6,x7,.sl a5 9 es' c']):=λa5 N5 _ _=>Tm.is_mk.2 ⟨_,_,_,_,_,_,_,rfl,aa,by omega,J⟩;refine Bh ?_;rw[i64_in ((es.length:Int) - 1) (by omega)];cases ax:g.length with
 | zero=>
   have ay:g=[]:=oL ax;subst ay;refine Br.dec (λh=>by omega) λ_=>⟨⟨rfl,rfl⟩,⟨rfl,rfl⟩,⟨rfl,rfl⟩,λa5 N5 aj hf N6 ak=>?_⟩
   refine hQ _ _ (by omega) (Tm.is_mk.2 ⟨_,_,_,_,_,_,_,rfl,aa,by omega,J⟩) ?_;exact tv (zH (zH (zH (zH ((Og (hd:=[x4,x5,x6,x7]) (ds:=[]) (ab.mono am (oD _)) hf (by omega)).mono (oD _) ak)))))
 | succ m=>
   have hp:g[m]?=some g[m]:=oF (by omega);have ae:g.drop (m+1)=[]:=lS (by omega);have e0:((es.length:Int) - 1)=(m:Int):=by omega
   rw[e0,i64_in ((m:Int) - 1) (by omega),oI];have key:=λ(x:D) (hx:(Tm.mk k nm ot n0 ty re l).Is x)=>one m _ hp x (by rw[ae];exact hx);obtain⟨t0,t1,ac,ah,ai⟩:=h.all.get hp;refine Br.dec (λ_=>⟨⟨by omega,by omega⟩,?_⟩) λh=>by omega
   have al:(if 0=0 then D.cell (List.getD es m default) 0 else D.sub (List.getD es m default) 0 0)=D.t (g[m].nm):=by rw[ac];rfl
   refine⟨g[m].nm,al,⟨by omega,by omega⟩,⟨rfl,rfl⟩,⟨rfl,rfl⟩,λa5 N5 aj hf N6 ak=>?_⟩;obtain⟨s,hs,I⟩:=key _ (Tm.is_mk.2 ⟨x4,x5,x6,x7,a5,es',c',rfl,aa,by omega,J⟩);rw[al]at hs;cases hs;exact I N6 _ λx' N7 a7 O az _ _=>rest m (by omega) x' N7 (by omega) O (az.mono (by omega) (oD _))
theorem XG {s:ByteArray} (hs:s.size<=4611686018427387904) {ty:Ty} {J:D} (h1:ty.Is J) (O:ty.cnt<=1073741824) {t:Tm} {I:D} (h2:t.Is I) (N0 N:Nat) (h0:N0<=N) (ho:Own N0 N I) (Q:QT [.ag 9]) (hQ:∀ d' N',N<=N'->(Kg s ty t).Is d'->Own N0 N' d'->Q d' N') :
  ACalls prog 41 [.ag 9] [.str s,.dg 2 J,.dg 9 I] N Q:=by
 refine Nf N s J I Q λ_ _ N1 U=>?_;refine GS ty J h1 O N1 _ λx N2 ac hx Y _ _=>⟨⟨rfl,rfl⟩,⟨rfl,rfl⟩,⟨rfl,rfl⟩,λa N3 aa hf N4 ab=>?_⟩
 refine hQ _ _ (by omega) (Tm.is_mk.2 ⟨_,_,_,_,_,_,_,rfl,⟨hs,by decide,Ty.is_cells hx,xm _⟩,by simp,sQ h2⟩) ?_;have hr:=Og (hd:=[x.cell 0,x.cell 1]) (es:=[I]) (ds:=[.sl none 2 [] 0]) (z:=9) (c:=1) (AG (ue hx Y) ((zl ho).mono (oD _) U) (by omega) (by omega)) (hf.mono h0 (oD _)) aa;exact tv (zH (zH (zH (zH (TM (hr.mono (oD _) ab))))))
attribute [local go_sem] Oper.semAt_some
theorem DZ {F:Fence} {n:Nat} {P:Program} {ops:Array Oper} {rest:List Oper} {o:Oper} {a:Act} {w:World} {Q:Exit->Act->World->Prop} (I:o.guard=none) (ty:TypeId) (x y:Operand) (J:o.op=.store ty x y)
  (b off:Nat) (cells:Array Value) (hx:a.eval x=.pointer (some ⟨b,off,none⟩)) (O:a.eval y=.agg cells)
  (U:w.there b off cells.size) (hi:(P.info? ty).map (·.size)=some cells.size) (Y:cells.all (·.oneCell')=true)
  (h:wpListIn F n P ops Q rest (a.put o.dst undef) (w.setCells b off cells.toList)):wpListIn F n P ops Q (o::rest) a w:=by
 refine wpListIn_plain I λK hK=>?_;unfold Oper.wpIn;refine⟨by simp[Oper.about,J],?_⟩;rw[Oper.semAt_plain F _ _ (by rw[J];intro c hc;cases hc)];simp[execOp,J,hx,O,run_storeAt_mid w b off ty cells U hi Y,Result.andThen];exact hK _ _ h
theorem Zo {d:D}(h:IsAg 9 d):d.val=.agg #[(d.cell 0).cv,(d.cell 1).cv,(d.cell 2).cv,(d.cell 3).cv,(d.cell 4).cv,(d.cell 5).cv,(d.cell 6).cv,(d.cell 7).cv,(d.cell 8).cv]:=by
 obtain⟨cs,rfl,I,_⟩:=h
 match cs,I with
 | [J,c1,O,U,Y,c5,c6,c7,c8],_=>simp[D.val,D.cvL,D.cell,D.cells,D.cv]
theorem zBA {av:Nat->Prop}{w0:World}(h:∀ b,av b->b<w0.heap.size):Avl av w0 []:=
 ⟨h,⟨λx hx=>by simp[glob]at hx,λx hx=>by simp[RB]at hx⟩,λb I=>by obtain⟨x,hx,_⟩:=I;simp[glob]at hx,λb I=>by obtain⟨x,hx,_⟩:=I;simp[glob]at hx,λx hx=>by simp⟩
theorem WN {f:FuncId} {args:List PV} {N:Nat} {P:D->Nat->Prop} (h:ACalls Tryz.prog f [.ag 9] args N (λd N'=>P d N')) (n:Nat) (av:Nat->Prop) (w0:World) (O:w0.heap.size=N) (Y:∀ b,av b->b<N) (I:∀ p∈args,p.Ok w0 av/\p.refs=[])
  (vals:Array Value) (hv:(args.map (PV.val [])).toArray=vals) :
  CallsIn Fence.wide n Tryz.prog f vals w0 λe w=>∃ d,e=.returned (.agg #[(d.cell 0).cv,(d.cell 1).cv,(d.cell 2).cv,(d.cell 3).cv,(d.cell 4).cv,(d.cell 5).cv,(d.cell 6).cv,(d.cell 7).cv,(d.cell 8).cv])/\P d w.heap.size/\Good w av d/\IsAg 9 d/\w0.heap.size<=w.heap.size /\
   (∀ b,b<w0.heap.size->w.heap[b]?=w0.heap[b]?)/\(∀(b:Nat) (c:Array Value) (t:TypeId) (z:Nat × Nat),w0.heap.size<=b->w.heap[b]?=some (.cells c t z)->Fz z)/\w.os=w0.os/\w.output=w0.output:=by
 subst hv;refine callsIn_wide.2 ((h.h av w0 O (zBA (O.symm ▸ Y)) I).mono λe w hf=>?_);cases e with
 | returned v=>
   obtain⟨ps,rows,e,hd⟩:=hf;have J:=hd.q
   match ps,rows,J with
   | [.dg n x],[],J=>simp[QT.app]at J;obtain⟨hn,J⟩:=J;have U:=hd.ok _ (oW.2 rfl);simp only[PV.Ok]at U;obtain⟨hG,hA⟩:=U;rw[<-hn]at hA;refine⟨x,?_,J,⟨hG.1,λb hb hv=>hG.2 b hb (.inl hv)⟩,hA,hd.size,hd.old,hd.fz,hd.ku.os,hd.ku.out⟩;rw[<-Zo hA,hd.v];rfl
 | _=>exact hf.elim
structure FO (W w:World) (av:Nat->Prop) (s len cap:Nat) (a:Option Addr) (d:D):Prop where
 size:s+2<=w.heap.size
 lo:W.heap.size+2<=s
 old:∀ k,k<W.heap.size->w.heap[k]?=W.heap[k]?
 b4:w.heap[W.heap.size+1]?=some (.cells #[.int .i64 0,.string ⟨#[]⟩,.string ⟨#[]⟩,.int .i64 0,.int .i64 0,.slice none 0 0,.int .i64 0,.slice none 0 0,.slice none 0 0] 30 (0,0))
 b5:w.heap[s]?=some (.cells #[(d.cell 0).cv,(d.cell 1).cv,(d.cell 2).cv,(d.cell 3).cv,(d.cell 4).cv,(d.cell 5).cv,(d.cell 6).cv,(d.cell 7).cv,(d.cell 8).cv] 30 (0,0))
 b8:w.heap[s+1]?=some (.cells #[.slice a len cap] 24 (0,0))
 fz:∀(k:Nat) (c:Array Value) (t:TypeId) (z:Nat × Nat),W.heap.size<=k->w.heap[k]?=some (.cells c t z)->Fz z
 hd:Good w (fun b=>av b\/b=W.heap.size\/b=W.heap.size+1\/b=s\/b=s+1) d
 ag:IsAg 9 d
 os:w.os=W.os
 out:w.output=W.output
variable {W w:World} {av:Nat->Prop} {s len cap:Nat} {a:Option Addr} {d:D}
theorem FO.alloc (h:FO W w av s len cap a d){o:Obj}(Y:∀ c t z,o=.cells c t z->z=(0,0)):FO W (w.alloc o) av s len cap a d:=by
 have key:∀ k,k<w.heap.size->(w.alloc o).heap[k]?=w.heap[k]?:=λk hk=>Below.heap_alloc _ _ _ hk;have hs:=h.size;have J:=h.lo;refine⟨by simp;omega,J,λk hk=>(key k (by omega)).trans (h.old k hk),(key _ (by omega)).trans h.b4,(key _ (by omega)).trans h.b5,(key _ (by omega)).trans h.b8,λk c t z hk hc=>?_,h.hd.mono (λb O _=>key b O) (λb _ O=>O),h.ag,h.os,h.out⟩;by_cases U:k<w.heap.size
 ·rw[key k U]at hc;exact h.fz k c t z hk hc
 ·by_cases I:k=w.heap.size
  ·subst I;have h2:=World.alloc_heap_new w o;rw[h2]at hc;exact Fz.of (Y c t z (oU hc))
  ·have:(w.alloc o).heap[k]?=none:=mT (by simp;omega);rw[this]at hc;cases hc
theorem FO.put (h:FO W w av s len cap a d)(J:d.Flat0){l:Nat}{o:Obj}(hl:s+2<=l)(hw:∀ c t z,w.heap[l]?≠some (.cells c t z))(ho:∀ c t z,o=.cells c t z->z=(0,0)):FO W (w.putObj l o) av s len cap a d:=by
 have key:∀ k,k≠l->(w.putObj l o).heap[k]?=w.heap[k]?:=λk hk=>World.putObj_heap_other hk;have O:=h.lo;have U:∀ b∈d.foot,b≠l:=λb Y aa=>by subst aa;obtain⟨c,t,z,hc⟩:=h.hd.1.block J b Y;exact hw c t z hc
 refine⟨by simpa using h.size,O,λk hk=>(key k (by omega)).trans (h.old k hk),(key _ (by omega)).trans h.b4,(key _ (by omega)).trans h.b5,(key _ (by omega)).trans h.b8,λk c t z hk hc=>?_,⟨h.hd.1.mono λb Y=>key b (U b Y),h.hd.2⟩,h.ag,h.os,h.out⟩;by_cases I:k=l
 ·subst I;by_cases ab:k<w.heap.size
  ·rw[World.putObj_heap_same ab]at hc;exact Fz.of (ho c t z (oU hc))
  ·have:(w.putObj k o).heap[k]?=none:=mT (by simp;omega);rw[this]at hc;cases hc
 ·rw[key k I]at hc;exact h.fz k c t z hk hc
def JX (w:World)(s:Nat)(d:D):World:=
 ((((((((w.setCell ⟨s,0,none⟩ (d.cell 0).cv).setCell ⟨s,1,none⟩ (d.cell 1).cv).setCell ⟨s,2,none⟩ (d.cell 2).cv).setCell ⟨s,3,none⟩ (d.cell 3).cv).setCell ⟨s,4,none⟩ (d.cell 4).cv).setCell ⟨s,5,none⟩ (d.cell 5).cv).setCell ⟨s,6,none⟩ (d.cell 6).cv).setCell ⟨s,7,none⟩ (d.cell 7).cv).setCell ⟨s,8,none⟩ (d.cell 8).cv
theorem X4 (w:World)(s:Nat)(d:D):w.setCells s 0 #[(d.cell 0).cv,(d.cell 1).cv,(d.cell 2).cv,(d.cell 3).cv,(d.cell 4).cv,(d.cell 5).cv,(d.cell 6).cv,(d.cell 7).cv,(d.cell 8).cv].toList=JX w s d:=rfl
theorem Zj {w:World}{s:Nat}{v0 v1 v2 I v4 J v6 O U:Value}{t:TypeId}(h:w.heap[s]?=some (.cells #[v0,v1,v2,I,v4,J,v6,O,U] t (0,0))):w.there s 0 9:=λj Y=>by refine⟨?_,by simp[World.frozen?,h]⟩;simp[World.cell?,h];omega
theorem wV {w:World}{s k:Nat}{d:D}(h:k≠s):(JX w s d).heap[k]?=w.heap[k]?:=by unfold JX;rw[zJ h,zJ h,zJ h,zJ h,zJ h,zJ h,zJ h,zJ h,zJ h]
theorem HG {w:World} {s:Nat} {d:D} {v0 v1 v2 I v4 J v6 O U:Value} {t:TypeId} {z:Nat × Nat} (h:w.heap[s]?=some (.cells #[v0,v1,v2,I,v4,J,v6,O,U] t z)) :
  (JX w s d).heap[s]?=some (.cells #[(d.cell 0).cv,(d.cell 1).cv,(d.cell 2).cv,(d.cell 3).cv,(d.cell 4).cv,(d.cell 5).cv,(d.cell 6).cv,(d.cell 7).cv,(d.cell 8).cv] t z):=by
 unfold JX;rw[zx (zx (zx (zx (zx (zx (zx (zx (zx h))))))))];simp only[List.setIfInBounds_toArray,mY,mm]
theorem xF {w:World}{p:Addr}{v:Value}:(w.setCell p v).heap.size=w.heap.size:=by unfold World.setCell;split<;>simp
theorem wW {w:World}{p:Addr}{v:Value}:(w.setCell p v).os=w.os:=by unfold World.setCell;split<;>rfl
theorem xf {w:World}{p:Addr}{v:Value}:(w.setCell p v).output=w.output:=by unfold World.setCell;split<;>rfl
theorem DC {w:World}{s:Nat}{d:D}:(JX w s d).heap.size=w.heap.size:=by unfold JX;rw[xF,xF,xF,xF,xF,xF,xF,xF,xF]
theorem set9_os {w:World}{s:Nat}{d:D}:(JX w s d).os=w.os:=by unfold JX;rw[wW,wW,wW,wW,wW,wW,wW,wW,wW]
theorem set9_out {w:World}{s:Nat}{d:D}:(JX w s d).output=w.output:=by unfold JX;rw[xf,xf,xf,xf,xf,xf,xf,xf,xf]
theorem FO.set (h:FO W w av s len cap a d){d':D}(hd:Good w (λb=>av b\/b=W.heap.size\/b=W.heap.size+1\/b=s\/b=s+1) d')(U:IsAg 9 d'):FO W (JX w s d') av s len cap a d':=by
 have J:=h.lo;have hs:=h.size;refine⟨by rw[DC];exact hs,J,λk hk=>(wV (by omega)).trans (h.old k hk),(wV (by omega)).trans h.b4,HG h.b5,(wV (by omega)).trans h.b8,λk c t z hk hc=>?_,⟨hd.1.mono λb Y=>wV λO=>hd.2 b Y (by simp[O]),hd.2⟩,U,set9_os.trans h.os,set9_out.trans h.out⟩;by_cases I:k=s
 ·subst I;rw[HG h.b5]at hc;cases hc;exact fz0
 ·rw[wV I]at hc;exact h.fz k c t z hk hc
def pf (d:D):ByteArray × Int × (Option Addr × Nat × Nat) × Bool:=match d with
 | .ag [.lit (.string s),.lit (.int _ k),.sl a _ es c,.lit (.bool b)]=>(s,k,(a,es.length,c),b)
 | _=>(⟨#[]⟩,0,(none,0,0),false)
theorem Ma:∀ {es:List D}{j:Nat}{I c1 J O:D},(∀ e∈es,e.cells.length=4)->es[j]?=some (.ag [I,c1,J,O])->(flat es)[j*4]?=some I/\(flat es)[j*4+1]?=some c1/\(flat es)[j*4+2]?=some J/\(flat es)[j*4+3]?=some O
 | e::es,0,I,c1,J,O,U,h=>by simp at h;subst h;rw[vn];simp[D.cells]
 | e::es,j+1,I,c1,J,O,U,h=>by
   have Y:=Ma (es:=es) (j:=j) (λx hx=>U x (by simp[hx])) (by simpa using h);have he:=U e (by simp);rw[vn];have g:∀ k,(e.cells++flat es)[k+4]?=(flat es)[k]?:=λk=>by rw[oS (by omega),he];simp
   rw[show(j+1)*4=j*4+4 by omega,show j*4+4+1=j*4+1+4 by omega,show j*4+4+2=j*4+2+4 by omega,show j*4+4+3=j*4+3+4 by omega,g,g,g,g];exact Y
attribute [local go_sem] Oper.semAt_some run_store
theorem TR {W:World} {av:Nat->Prop} {g:List Pm} {es:List D} (h:Pms g es) {a:Option Addr} {c:Nat} (hG:Good W av (.sl a 4 es c)) :
  ∃ b off,(0<es.length->a=some ⟨b,off,none⟩)/\∀ j,j<es.length->∃ p s k U I Y bo,g[j]?=some p/\pf (es.getD j default)=(s,k,(U,I.length,Y),bo)/\(s=p.nm/\s.size<=4611686018427387904/\p.ty.Is (.ag [.lit (.int .i64 k),.sl U 2 I Y])/\Good W av (.ag [.lit (.int .i64 k),.sl U 2 I Y])) /\
    W.cell? ⟨b,off+j*4,none⟩=some (.string s)/\W.cell? ⟨b,off+j*4+1,none⟩=some (.int .i64 k)/\W.cell? ⟨b,off+j*4+2,none⟩=some (.slice U I.length Y)/\W.cell? ⟨b,off+j*4+3,none⟩=some (.bool bo):=by
 have hl:=h.all.len;have one:∀ j,j<es.length->∃ p k U I Y,g[j]?=some p/\es.getD j default=.ag [.lit (.string p.nm),.lit (.int .i64 k),.sl U 2 I Y,.lit (.bool p.dy)]/\p.nm.size<=4611686018427387904/\p.ty.Is (.ag [.lit (.int .i64 k),.sl U 2 I Y]):=λj O=>by have hp:g[j]?=some g[j]:=oF (by omega);obtain⟨t0,t1,e,aa,ab⟩:=h.all.get hp;generalize g[j]=p at *;obtain⟨nm,⟨k,l⟩,dy⟩:=p;obtain⟨U,I,Y,e2,ac,h2⟩:=Ty.is_mk.1 ab;have e2:=D.ag.inj e2;simp only[List.cons.injEq,and_true]at e2;obtain⟨rfl,rfl⟩:=e2;exact⟨_,k,U,I,Y,hp,e,aa,Ty.is_mk.2 ⟨_,_,_,rfl,ac,h2⟩⟩
 have h4:∀ e∈es,e.cells.length=4:=λe he=>by obtain⟨j,O⟩:=oQ.1 he;have ae:=(oC.1 O).1;obtain⟨p,k,U,I,Y,_,h2,_⟩:=one j ae;rw[oB,O]at h2;simp only[ob]at h2;rw[h2];rfl
 have el:∀ j,j<es.length->Good W av (es.getD j default):=λj O=>by
  have hm:es.getD j default∈es:=by rw[oB,oF O];exact mM O
  exact hG.elem hm
 have hH:=hG.1;cases hH with
 | nil=>exact⟨0,0,λh=>absurd h (by simp),λj O=>absurd O (by simp)⟩
 | @sl ad z _ cap h1 h2 h3 _ h5=>
   obtain⟨b,off,sp⟩:=ad;by_cases h0:0<es.length
   ·have ah:es≠[]:=by intro hc;subst hc;simp at h0
    have h1:=h1 ah;simp only at h1;subst h1;refine⟨b,off,λ_=>rfl,λj O=>?_⟩;obtain⟨p,k,U,I,Y,hp,e,aa,ab⟩:=one j O;have hg:=el j O;have ej:es[j]?=some (.ag [.lit (.string p.nm),.lit (.int .i64 k),.sl U 2 I Y,.lit (.bool p.dy)]):=by rw[oF O,<-e,oB,oF O];rfl
    obtain⟨g0,g1,g2,g3⟩:=Ma h4 ej;rw[e]at hg;refine⟨p,p.nm,k,U,I,Y,p.dy,hp,by rw[e];rfl,⟨rfl,aa,ab,⟨?_,λb hb=>hg.2 b ?_⟩⟩,?_⟩
    ·have hh:=hg.1;cases hh with
     | ag hh=>exact .ag λx hx=>hh x (by simp at hx;rcases hx with rfl | rfl<;>simp)
    ·simp only[D.foot,zF,oV,ou]at hb ⊢;exact hb
    rcases h5 with h5 | ⟨cc,t,fz,h6,h7⟩
    ·rw[h5]at g0;simp at g0
    ·have g0:=h7 _ _ g0;have g1:=h7 _ _ g1;have g2:=h7 _ _ g2;have g3:=h7 _ _ g3;have J:∀ i,W.cell? ⟨b,i,none⟩=cc[i]?:=λi=>FG.cell (W:=W) h6;refine⟨?_,?_,?_,?_⟩
     ·rw[J];exact g0
     ·rw[J,mP];exact g1
     ·rw[J,mP];exact g2
     ·rw[J,mP];exact g3
   ·exact⟨b,off,λh=>absurd h h0,λj O=>absurd O (by omega)⟩
theorem Nv {d:D}(h:IsAg 9 d):(d.cell 0).cv.oneCell'=true/\(d.cell 1).cv.oneCell'=true/\(d.cell 2).cv.oneCell'=true/\(d.cell 3).cv.oneCell'=true/\(d.cell 4).cv.oneCell'=true/\(d.cell 5).cv.oneCell'=true/\(d.cell 6).cv.oneCell'=true/\(d.cell 7).cv.oneCell'=true/\(d.cell 8).cv.oneCell'=true:=by
 obtain⟨cs,rfl,I,hc⟩:=h
 match cs,I,hc with
 | [c0,c1,c2,c3,c4,c5,c6,c7,c8],_,hc=>simp only[oH,oh,mK,mD,forall_eq]at hc;obtain⟨J,O,U,Y,h4,h5,h6,h7,h8⟩:=hc;exact⟨zV J,zV O,zV U,zV Y,zV h4,zV h5,zV h6,zV h7,zV h8⟩
theorem TV {w:World}{l:Nat}{o:Obj}:(w.putObj l o).os=w.os:=rfl
theorem RP {w:World}{l:Nat}{o:Obj}:(w.putObj l o).output=w.output:=rfl
theorem zBK {fn:Func} (I:fn.results=#[.cell 4 30]) {w:World} {b:Nat} {d:D} {ty:TypeId} {z:Nat × Nat}
  (h:w.heap[b]?=some (.cells #[(d.cell 0).cv,(d.cell 1).cv,(d.cell 2).cv,(d.cell 3).cv,(d.cell 4).cv,(d.cell 5).cv,(d.cell 6).cv,(d.cell 7).cv,(d.cell 8).cv] ty z)) {tm:Array Value} (ht:tm[4]?.getD undef=.pointer (some ⟨b,0,none⟩)) :
  (results fn tm).run Tryz.prog w=.ok (.agg #[(d.cell 0).cv,(d.cell 1).cv,(d.cell 2).cv,(d.cell 3).cv,(d.cell 4).cv,(d.cell 5).cv,(d.cell 6).cv,(d.cell 7).cv,(d.cell 8).cv]) w:=by
 have J:w.cell? ⟨b,0,none⟩=some (d.cell 0).cv:=FG.cell (W:=w) h;have O:w.cell? ⟨b,1,none⟩=some (d.cell 1).cv:=FG.cell (W:=w) h;have U:w.cell? ⟨b,2,none⟩=some (d.cell 2).cv:=FG.cell (W:=w) h;have Y:w.cell? ⟨b,3,none⟩=some (d.cell 3).cv:=FG.cell (W:=w) h;have aa:w.cell? ⟨b,4,none⟩=some (d.cell 4).cv:=FG.cell (W:=w) h;have ab:w.cell? ⟨b,5,none⟩=some (d.cell 5).cv:=FG.cell (W:=w) h;have ac:w.cell? ⟨b,6,none⟩=some (d.cell 6).cv:=FG.cell (W:=w) h;have ae:w.cell? ⟨b,7,none⟩=some (d.cell 7).cv:=FG.cell (W:=w) h;have ah:w.cell? ⟨b,8,none⟩=some (d.cell 8).cv:=FG.cell (W:=w) h;simp[results,I,go_sem,ht,J,O,U,Y,aa,ab,ac,ae,ah]
set_option maxRecDepth 100000 in
set_option maxHeartbeats 4000000 in
theorem zBE (n:Nat) (hn:5<=n) {g:List Pm} {es:List D} (h:Pms g es) (hg:g.length<=1073741824) (hW:pmW g<=536870000) {t:Tm} {d:D} (ht:t.Is d) (hc:t.cnt<=536870000) (a:Option Addr) (c:Nat)
  (av:Nat->Prop) (W:World) (a3:∀ b,av b->b<W.heap.size) (hG:Good W av (.sl a 4 es c)) (ak:Good W av d) (hA:IsAg 9 d) :
  CallsIn Fence.wide n Tryz.prog 15 #[.slice a es.length c,.agg #[(d.cell 0).cv,(d.cell 1).cv,(d.cell 2).cv,(d.cell 3).cv,(d.cell 4).cv,(d.cell 5).cv,(d.cell 6).cv,(d.cell 7).cv,(d.cell 8).cv]] W λe w=>∃ r,e=.returned (.agg #[(r.cell 0).cv,(r.cell 1).cv,(r.cell 2).cv,(r.cell 3).cv,(r.cell 4).cv,(r.cell 5).cv,(r.cell 6).cv,(r.cell 7).cv,(r.cell 8).cv])/\(yV g t).Is r/\Own W.heap.size w.heap.size r/\Good w av r/\IsAg 9 r/\W.heap.size<=w.heap.size /\
   (∀ b,b<W.heap.size->w.heap[b]?=W.heap[b]?)/\(∀(b:Nat) (c:Array Value) (t:TypeId) (z:Nat × Nat),W.heap.size<=b->w.heap[b]?=some (.cells c t z)->Fz z)/\w.os=W.os/\w.output=W.output:=by
 obtain⟨b,off,ha,ah⟩:=TR h hG;refine callsIn_of_wp_marks Tryz.func15 rfl trivial ?_ rfl;simp only[Tryz.ntmps15,nM,oJ,oN,Nat.reduceAdd,Nat.reduceSub,ma,mb,mu,me,oV,nE]
 gi_wp2
 obtain⟨W0,aa⟩:∃ W0,W0=((W.alloc (.cells #[(d.cell 0).cv,(d.cell 1).cv,(d.cell 2).cv,(d.cell 3).cv,(d.cell 4).cv,(d.cell 5).cv,(d.cell 6).cv,(d.cell 7).cv,(d.cell 8).cv] 30)).alloc (.cells #[.int .i64 0,.string ⟨#[]⟩,.string ⟨#[]⟩,.int .i64 0,.int .i64 0,.slice none 0 0,.int .i64 0,.slice none 0 0,.slice none 0 0] 30)):=⟨_,rfl⟩
 rw[<-aa];have c7:W0.heap.size=W.heap.size+2:=by rw[aa];simp
 have a4:∀ k,k<W.heap.size->W0.heap[k]?=W.heap[k]?:=λk hk=>by rw[aa,Below.heap_alloc _ _ _ (by simp;omega),Below.heap_alloc _ _ _ (by omega)]
 have bq:W0.heap[W.heap.size]?=some (.cells #[(d.cell 0).cv,(d.cell 1).cv,(d.cell 2).cv,(d.cell 3).cv,(d.cell 4).cv,(d.cell 5).cv,(d.cell 6).cv,(d.cell 7).cv,(d.cell 8).cv] 30 (0,0)):=by rw[aa,Below.heap_alloc _ _ _ (by simp)];exact World.alloc_heap_new _ _
 have a5:W0.heap[W.heap.size+1]?=some (.cells #[.int .i64 0,.string ⟨#[]⟩,.string ⟨#[]⟩,.int .i64 0,.int .i64 0,.slice none 0 0,.int .i64 0,.slice none 0 0,.slice none 0 0] 30 (0,0)):=by
  rw[aa]
  have:=World.alloc_heap_new (W.alloc (.cells #[(d.cell 0).cv,(d.cell 1).cv,(d.cell 2).cv,(d.cell 3).cv,(d.cell 4).cv,(d.cell 5).cv,(d.cell 6).cv,(d.cell 7).cv,(d.cell 8).cv] 30)) (.cells #[.int .i64 0,.string ⟨#[]⟩,.string ⟨#[]⟩,.int .i64 0,.int .i64 0,.slice none 0 0,.int .i64 0,.slice none 0 0,.slice none 0 0] 30)
  rwa[World.size_alloc]at this
 have a6:W0.os=W.os:=by rw[aa];rfl
 have aq:W0.output=W.output:=by rw[aa];rfl
 clear aa;have ai:∀ {x:D} {b:Nat},Good W av x->b∈x.foot->b<W.heap.size:=λhx hb=>hx.1.lt _ hb;refine⟨trivial,λ_=>by omega,(WN (SH t d ht (by omega) W0.heap.size (λd' N'=>t.Is d'/\Own W0.heap.size N' d') λd' N' _ h1 h2=>⟨h1,h2⟩) (n - 1) (λb=>av b\/b=W.heap.size\/b=W.heap.size+1) W0 rfl (λb hb=>?_) (λp hp=>?_) _ ?_).mono ?_⟩
 ·show b<W0.heap.size;rcases hb with hb | hb | hb
  ·have:=a3 b hb;omega
  ·omega
  ·omega
 ·simp at hp;subst hp;refine⟨⟨⟨ak.1.mono λb hb=>a4 b (ai ak hb),λb hb hbb=>?_⟩,hA⟩,rfl⟩
  have:=ai ak hb
  rcases hbb with hbb | hbb | hbb
  ·exact ak.2 b hb hbb
  ·omega
  ·omega
 ·simp[PV.val,PV.val1,Zo hA]
 rintro e w ⟨d1,rfl,⟨bt,bv⟩,au,a7,c5,ab,a8,a9,aw⟩
 obtain⟨o0,o1,o2,o3,o4,o5,o6,o7,o8⟩:=Nv a7
 gi_wp2
 have ba:W.heap.size+2<=w.heap.size:=by omega
 refine⟨trivial,λ_=>by omega,(Yt Fence.wide (n - 1) trivial rfl a es.length c _).mono ?_⟩
 rintro e W' ⟨rfl,rfl⟩
 gi_wp2
 obtain⟨s,hs⟩:∃ s,w.heap.size=s:=⟨_,rfl⟩
 obtain⟨Z,hZ⟩:∃ Z,Z=((w.alloc (.cells #[(d1.cell 0).cv,(d1.cell 1).cv,(d1.cell 2).cv,(d1.cell 3).cv,(d1.cell 4).cv,(d1.cell 5).cv,(d1.cell 6).cv,(d1.cell 7).cv,(d1.cell 8).cv] 30)).alloc (.cells #[.slice a es.length c] 24 (0,0))):=⟨_,rfl⟩
 have bw:FO W Z av s es.length c a d1:=by
  have zo:∀ k,k<w.heap.size->Z.heap[k]?=w.heap[k]?:=λk hk=>by rw[hZ,Below.heap_alloc _ _ _ (by simp;omega),Below.heap_alloc _ _ _ (by omega)]
  have z5:Z.heap[s]?=some (.cells #[(d1.cell 0).cv,(d1.cell 1).cv,(d1.cell 2).cv,(d1.cell 3).cv,(d1.cell 4).cv,(d1.cell 5).cv,(d1.cell 6).cv,(d1.cell 7).cv,(d1.cell 8).cv] 30 (0,0)):=by rw[hZ,<-hs,Below.heap_alloc _ _ _ (by simp)];exact World.alloc_heap_new _ _
  have z8:Z.heap[s+1]?=some (.cells #[.slice a es.length c] 24 (0,0)):=by
   rw[hZ,<-hs]
   have:=World.alloc_heap_new (w.alloc (.cells #[(d1.cell 0).cv,(d1.cell 1).cv,(d1.cell 2).cv,(d1.cell 3).cv,(d1.cell 4).cv,(d1.cell 5).cv,(d1.cell 6).cv,(d1.cell 7).cv,(d1.cell 8).cv] 30)) (.cells #[.slice a es.length c] 24 (0,0))
   rwa[World.size_alloc]at this
  have zs:Z.heap.size=s+2:=by rw[hZ,<-hs];simp
  have bb:∀ b∈d1.foot,b<w.heap.size:=λb hb=>au.1.lt _ hb;refine⟨by omega,by omega,λk hk=>?_,?_,z5,z8,λk cc tt z hk O=>?_,⟨au.1.mono λb hb=>zo b (bb b hb),λb hb hbb=>?_⟩,a7,?_,?_⟩
  ·rw[zo k (by omega),ab k (by omega),a4 k hk]
  ·rw[zo _ (by omega),ab _ (by omega),a5]
  ·by_cases h1:k<w.heap.size
   ·rw[zo k h1]at O;by_cases h2:k<W0.heap.size
    ·rw[ab k h2]at O;rcases(show k=W.heap.size\/k=W.heap.size+1 by omega)with rfl | rfl
     ·rw[bq]at O;cases O;exact fz0
     ·rw[a5]at O;cases O;exact fz0
    ·exact a8 k cc tt z (by omega) O
   ·have h3:=(oR.1 O).1;rcases(show k=s\/k=s+1 by omega)with rfl | rfl
    ·rw[z5]at O;cases O;exact fz0
    ·rw[z8]at O;cases O;exact fz0
  ·have h1:=bb b hb;have h2:=au.2 b hb;rcases hbb with hbb | hbb | hbb | hbb | hbb
   ·exact h2 (.inl hbb)
   ·exact h2 (.inr (.inl hbb))
   ·exact h2 (.inr (.inr hbb))
   ·omega
   ·omega
  ·rw[hZ];exact a9.trans a6
  ·rw[hZ];exact aw.trans aq
 have ax:Z.heap.size=s+2:=by rw[hZ,<-hs];simp
 rw[hs,<-hZ];have bc:Own W.heap.size Z.heap.size d1:=bv.mono (by omega) (by omega);clear hZ ba ;refine UN rfl (by omega) (gf:=89) rfl trivial (enters_of Tryz.func89 (by kernel_rfl) rfl) (len:=es.length)
  (vals:=λi=>#[.int .i64 ((es.length - 1 - i:Nat):Int),.agg #[.string (pf (es.getD (es.length - 1 - i) default)).1,.int .i64 (pf (es.getD (es.length - 1 - i) default)).2.1,.slice (pf (es.getD (es.length - 1 - i) default)).2.2.1.1 (pf (es.getD (es.length - 1 - i) default)).2.2.1.2.1 (pf (es.getD (es.length - 1 - i) default)).2.2.1.2.2,.bool (pf (es.getD (es.length - 1 - i) default)).2.2.2]]) (λi=>rfl)
  (λi w=>∃ d2,FO W w av s es.length c a d2/\(yV (g.drop (es.length - i)) t).Is d2/\Own W.heap.size w.heap.size d2)
  (λi w=>False) ?_ ?_ ?_ ?_ ?_ ?_ ?_
 ·rintro i w r r' h ⟨d2,U,h1,h2⟩
  exact⟨d2,U.put h2.fl (by omega) (λ_ _ _ hc=>by rw[h]at hc;cases hc) (by simp),h1,by simpa using h2⟩
 ·rintro i w r r' h h1
  exact h1.elim
 ·intro r;refine⟨d1,FO.alloc (FO.alloc bw (by simp)) (by simp),?_,bc.mono (oD _) (by simp;omega)⟩;rw[Nat.sub_zero,h.all.len,List.drop_length];exact bt
 ·intro l J Jx w hJ h0 hY;refine W6 Fence.wide (n - 1) trivial rfl (by omega) l (s+1) b off es.length c a ha (λj=>pf (es.getD j default)) (by have:=h.all.len;omega) J Jx (λi w hh=>?_) hY w h0;obtain⟨_,U,_,_⟩:=hJ i w hh;have al:∀ p:Addr,p.block<W.heap.size->w.cell? p=W.cell? p:=λp hp=>by simp[World.cell?,U.old _ hp]
  refine⟨FG.cell (W:=w) U.b8,λj hj=>?_⟩;obtain⟨p,s',k,a2,aj,c2,bo,_,e1,_,g1,g2,g3,g4⟩:=ah j hj;have hb:b<W.heap.size:=by
   by_cases hb:b<W.heap.size
   ·exact hb
   ·have h0:W.heap[b]?=none:=mT (by omega);simp[World.cell?,h0]at g1
  rw[e1];exact⟨(al _ hb).trans g1,(al _ hb).trans g2,(al _ hb).trans g3,(al _ hb).trans g4⟩
 ·rintro i w r0 hi ⟨d2,U,h1,h2⟩ hl hD
  obtain⟨p,s',k,a2,aj,c2,bo,hp,e1,⟨rfl,bz,b1,am⟩,_⟩:=ah (es.length - 1 - i) (by omega);simp only[List.zip_toArray,nM,e1]
  gi_wp2
  rw[ax]at hl hD ⊢;have c8:=(oR.1 hl).1;have b2:=U.size;have bg:=U.lo;refine⟨Below.heap_alloc _ _ _ (by omega),Below.heap_alloc _ _ _ (by omega),λr=>?_⟩;obtain⟨w2,ac⟩:∃ w2,w2=(w.alloc (Obj.cells #[Value.string p.nm,Value.int IntKind.i64 k,.slice a2 aj.length c2,Value.bool bo] 49)).putObj (s+2+1) (Obj.loop r):=⟨_,rfl⟩
  have I:FO W w2 av s es.length c a d2:=by rw[ac];refine(U.alloc (by simp)).put h2.fl (by omega) (λc t z hc=>?_) (by simp);rw[Below.heap_alloc _ _ _ (by omega),hl]at hc;cases hc
  have h6:w2.heap[w.heap.size]?=some (Obj.cells #[Value.string p.nm,Value.int IntKind.i64 k,.slice a2 aj.length c2,Value.bool bo] 49):=by rw[ac,World.putObj_heap_other (by omega)];exact World.alloc_heap_new _ _
  have b6:w2.heap[s+2+1]?=some (.loop r):=by rw[ac];exact World.putObj_heap_same (by simp;omega)
  have ay:w2.heap[s+2]?=some (.deferred (some [])):=by rw[ac,World.putObj_heap_other (by omega),Below.heap_alloc _ _ _ (by omega)];exact hD
  have ba:w2.heap.size=w.heap.size+1:=by rw[ac];simp
  rw[<-ac];have c9:w2.cell? ⟨w.heap.size,0,none⟩=some (.string p.nm):=FG.cell (W:=w) h6;have da:w2.cell? ⟨w.heap.size,1,none⟩=some (.int .i64 k):=FG.cell (W:=w) h6;have db:w2.cell? ⟨w.heap.size,2,none⟩=some (.slice a2 aj.length c2):=FG.cell (W:=w) h6;have b7:w2.cell? ⟨s,0,none⟩=some (d2.cell 0).cv:=FG.cell (W:=w) I.b5;have b9:w2.cell? ⟨s,1,none⟩=some (d2.cell 1).cv:=FG.cell (W:=w) I.b5;have ca:w2.cell? ⟨s,2,none⟩=some (d2.cell 2).cv:=FG.cell (W:=w) I.b5;have cd:w2.cell? ⟨s,3,none⟩=some (d2.cell 3).cv:=FG.cell (W:=w) I.b5;have ce:w2.cell? ⟨s,4,none⟩=some (d2.cell 4).cv:=FG.cell (W:=w) I.b5;have cf:w2.cell? ⟨s,5,none⟩=some (d2.cell 5).cv:=FG.cell (W:=w) I.b5;have cg:w2.cell? ⟨s,6,none⟩=some (d2.cell 6).cv:=FG.cell (W:=w) I.b5;have ch:w2.cell? ⟨s,7,none⟩=some (d2.cell 7).cv:=FG.cell (W:=w) I.b5;have ci:w2.cell? ⟨s,8,none⟩=some (d2.cell 8).cv:=FG.cell (W:=w) I.b5;have cj:Own W.heap.size w2.heap.size d2:=h2.mono (oD _) (by omega);clear ac
  gi_wp2
  have de:=Oi (oA hp);have ck:∀ {x:D} {b:Nat},Good w2 (λb=>av b\/b=W.heap.size\/b=W.heap.size+1\/b=s\/b=s+1) x->b∈x.foot->b<w2.heap.size:=λhx hb=>hx.1.lt _ hb;refine⟨trivial,λ_=>by omega,CallsIn.inRound _ ((WN (XG bz b1 (by omega) h1 W.heap.size w2.heap.size (by omega) cj (λd' N'=>(Kg p.nm p.ty (yV (g.drop (es.length - i)) t)).Is d'/\Own W.heap.size N' d') λd' N' _ h1 h2=>⟨h1,h2⟩) _ (λb=>av b\/b=W.heap.size\/b=W.heap.size+1\/b=s\/b=s+1) w2 rfl (λb hb=>?_) (λq hq=>?_) _ ?_).mono ?_)⟩
  ·show b<w2.heap.size;rcases hb with hb | hb | hb | hb | hb
   ·have:=a3 b hb;omega
   ·omega
   ·omega
   ·omega
   ·omega
  ·simp only[oH,oh,mK]at hq;rcases hq with rfl | rfl | rfl
   ·exact⟨trivial,rfl⟩
   ·refine⟨⟨⟨am.1.mono λb hb=>I.old b (ai am hb),λb hb hbb=>?_⟩,?_⟩,rfl⟩
    ·have:=ai am hb
     rcases hbb with hbb | hbb | hbb | hbb | hbb
     ·exact am.2 b hb hbb
     ·omega
     ·omega
     ·omega
     ·omega
    ·refine⟨_,rfl,rfl,λx hx=>?_⟩;simp at hx;rcases hx with rfl | rfl<;>simp[D.isCell,Value.oneCell']
   ·exact⟨⟨I.hd,I.ag⟩,rfl⟩
  ·have vv:D.val (.ag [.lit (.int .i64 k),.sl a2 2 aj c2])=.agg #[.int .i64 k,.slice a2 aj.length c2]:=by simp[D.val,D.cv]
   simp[PV.val,PV.val1,PV.cv,Zo I.ag,vv]
  rintro e w3 ⟨d3,rfl,⟨cm,cn⟩,co,bh,c6,Y,bi,bj,az⟩
  have bm:FO W w3 av s es.length c a d2:=by
   refine⟨by omega,bg,λk hk=>(Y k (by omega)).trans (I.old k hk),(Y _ (by omega)).trans I.b4,(Y _ (by omega)).trans I.b5,(Y _ (by omega)).trans I.b8,λk cc tt z hk O=>?_,⟨I.hd.1.mono λb hb=>Y b (ck I.hd hb),I.hd.2⟩,I.ag,bj.trans I.os,az.trans I.out⟩;by_cases ao:k<w2.heap.size
   ·rw[Y k ao]at O;exact I.fz k cc tt z hk O
   ·exact bi k cc tt z (by omega) O
  obtain⟨o0,o1,o2,o3,o4,o5,o6,o7,o8⟩:=Nv bh;have cp:w3.heap[s+2+1]?=some (.loop r):=(Y _ (by omega)).trans b6;have cq:w3.heap[s+2]?=some (.deferred (some [])):=(Y _ (by omega)).trans ay;have cr:∃ d2,FO W (JX w3 s d3) av s es.length c a d2/\(yV (List.drop (es.length - (i+1)) g) t).Is d2/\Own W.heap.size (JX w3 s d3).heap.size d2:=by refine⟨d3,bm.set co bh,?_,by rw[DC];exact cn⟩;have hh:=JC t hp;rw[show es.length - 1 - i+1=es.length - i by omega]at hh;rw[show es.length - (i+1)=es.length - 1 - i by omega,hh];exact cm
  have ct:(JX w3 s d3).heap[s+2+1]?=some (.loop r):=(wV (by omega)).trans cp;have cw:(JX w3 s d3).heap[s+2]?=some (.deferred (some [])):=(wV (by omega)).trans cq;have cx:=Zj bm.b5;simp only[];rename_i hK;refine hK _ _ ?_;refine DZ (P:=Tryz.prog) ?_ 30 (.tmp 5) (.tmp 19) ?_ s 0 #[(d3.cell 0).cv,(d3.cell 1).cv,(d3.cell 2).cv,(d3.cell 3).cv,(d3.cell 4).cv,(d3.cell 5).cv,(d3.cell 6).cv,(d3.cell 7).cv,(d3.cell 8).cv] ?_ ?_ cx ?_ (by simp[o0,o1,o2,o3,o4,o5,o6,o7,o8]) ?_
  ·rfl
  ·rfl
  ·rfl
  ·rfl
  ·rfl
  rw[X4];generalize JX w3 s d3=w4 at ct cw cr ⊢
  gi_wp2
 ·rintro w ⟨d2,U,h1,h2⟩ hD
  rw[ax]at hD;have f4:∀ i,w.frozen? ⟨W.heap.size+1,i,none⟩=false:=λi=>by simp[World.frozen?,U.b4]
  have b7:w.cell? ⟨s,0,none⟩=some (d2.cell 0).cv:=FG.cell (W:=w) U.b5;have b9:w.cell? ⟨s,1,none⟩=some (d2.cell 1).cv:=FG.cell (W:=w) U.b5;have ca:w.cell? ⟨s,2,none⟩=some (d2.cell 2).cv:=FG.cell (W:=w) U.b5;have cd:w.cell? ⟨s,3,none⟩=some (d2.cell 3).cv:=FG.cell (W:=w) U.b5;have ce:w.cell? ⟨s,4,none⟩=some (d2.cell 4).cv:=FG.cell (W:=w) U.b5;have cf:w.cell? ⟨s,5,none⟩=some (d2.cell 5).cv:=FG.cell (W:=w) U.b5;have cg:w.cell? ⟨s,6,none⟩=some (d2.cell 6).cv:=FG.cell (W:=w) U.b5;have ch:w.cell? ⟨s,7,none⟩=some (d2.cell 7).cv:=FG.cell (W:=w) U.b5;have ci:w.cell? ⟨s,8,none⟩=some (d2.cell 8).cv:=FG.cell (W:=w) U.b5;have dh:w.cell? ⟨W.heap.size+1,0,none⟩=some (.int .i64 0):=FG.cell (W:=w) U.b4;have di:w.cell? ⟨W.heap.size+1,1,none⟩=some (.string ⟨#[]⟩):=FG.cell (W:=w) U.b4;have dj:w.cell? ⟨W.heap.size+1,2,none⟩=some (.string ⟨#[]⟩):=FG.cell (W:=w) U.b4;have dk:w.cell? ⟨W.heap.size+1,3,none⟩=some (.int .i64 0):=FG.cell (W:=w) U.b4;have dl:w.cell? ⟨W.heap.size+1,4,none⟩=some (.int .i64 0):=FG.cell (W:=w) U.b4;have dm:w.cell? ⟨W.heap.size+1,5,none⟩=some (.slice none 0 0):=FG.cell (W:=w) U.b4;have dn:w.cell? ⟨W.heap.size+1,6,none⟩=some (.int .i64 0):=FG.cell (W:=w) U.b4;have dq:w.cell? ⟨W.heap.size+1,7,none⟩=some (.slice none 0 0):=FG.cell (W:=w) U.b4;have dr:w.cell? ⟨W.heap.size+1,8,none⟩=some (.slice none 0 0):=FG.cell (W:=w) U.b4;obtain⟨o0,o1,o2,o3,o4,o5,o6,o7,o8⟩:=Nv U.ag
  gi_wp2
  have bg:=U.lo;have b2:=U.size;have dt:s+2<w.heap.size:=(oR.1 hD).1;have ay:(JX w (W.heap.size+1) d2).heap[s+2]?=some (.deferred (some [])):=(wV (by omega)).trans hD;rw[ax];change bodyPostM _ _ _ _ _ _ _ (JX w (W.heap.size+1) d2);refine⟨by simp,.inl ⟨_,_,rfl,run_takeDeferred ay,?_⟩⟩;obtain⟨w5,ae⟩:∃ w5,w5=(JX w (W.heap.size+1) d2).putObj (s+2) (.deferred none):=⟨_,rfl⟩
  rw[<-ae];have key:∀ k,k≠W.heap.size+1->k≠s+2->w5.heap[k]?=w.heap[k]?:=λk h1 h2=>by rw[ae,World.putObj_heap_other h2,wV h1]
  have h4:w5.heap[W.heap.size+1]?=some (.cells #[(d2.cell 0).cv,(d2.cell 1).cv,(d2.cell 2).cv,(d2.cell 3).cv,(d2.cell 4).cv,(d2.cell 5).cv,(d2.cell 6).cv,(d2.cell 7).cv,(d2.cell 8).cv] 30 (0,0)):=by rw[ae,World.putObj_heap_other (by omega),HG U.b4]
  have cy:w5.heap[s+2]?=some (.deferred none):=by rw[ae];exact World.putObj_heap_same (by rw[DC];omega)
  have cz:w5.heap.size=w.heap.size:=by rw[ae];simp[DC]
  have c0:w5.os=W.os:=by rw[ae,TV,set9_os];exact U.os
  have c3:w5.output=W.output:=by rw[ae,RP,set9_out];exact U.out
  have c4:∀ b∈d2.foot,b≠s+2:=λb hb a0=>by obtain⟨c,t,z,hc⟩:=U.hd.1.block h2.fl b hb;rw[a0,hD]at hc;cases hc
  refine⟨_,zBK rfl h4 rfl,d2,rfl,by simpa using h1,by rw[cz];exact h2,⟨U.hd.1.mono λb hb=>key b (λa0=>U.hd.2 b hb (by simp[a0])) (c4 b hb),λb hb hbb=>U.hd.2 b hb (.inl hbb)⟩,U.ag,by omega,λk hk=>(key k (by omega) (by omega)).trans (U.old k hk),λk cc tt z hk O=>?_,c0,c3⟩;by_cases bp:k=W.heap.size+1
  ·subst bp;rw[h4]at O;cases O;exact fz0
  ·by_cases ao:k=s+2
   ·subst ao;rw[cy]at O;cases O
   ·rw[key k bp ao]at O;exact U.fz k cc tt z hk O
 ·rintro k w hk hf
  exact hf.elim
theorem Dl {g:List Pm}{es:List D}(h:Pms g es)(hg:g.length<=1073741824)(hW:pmW g<=536870000){t:Tm}{d:D}(ht:t.Is d)(hc:t.cnt<=536870000)(a:Option Addr)(c:Nat):Cop 15 9 [.sv a 4 es c,.dg 9 d] (yV g t).Is:=λN Q hQ=>by
 refine⟨by kernel_rfl,λav w0 hN ab I=>?_⟩;subst hN;have hG:Good w0 av (.sl a 4 es c):=(I _ (nf ..)).1;have h2:=(I (.dg 9 d) (by simp)).1;simp only[PV.Ok]at h2;obtain⟨ac,hA⟩:=h2;have J:(([PV.sv a 4 es c,.dg 9 d]:List PV).map (PV.val [])).toArray=#[.slice a es.length c,.agg #[(d.cell 0).cv,(d.cell 1).cv,(d.cell 2).cv,(d.cell 3).cv,(d.cell 4).cv,(d.cell 5).cv,(d.cell 6).cv,(d.cell 7).cv,(d.cell 8).cv]]:=by simp[PV.val,PV.val1,PV.cv,Zo hA]
 rw[J];refine(callsIn_wide.1 (zBE 5 (by omega) h hg hW ht hc a c av w0 ab.lt hG ac hA)).mono λe w hr=>?_;obtain⟨r,rfl,hI,hO,O,U,Y,hold,ae,ah,aa⟩:=hr;refine⟨[.dg 9 r],[],[],{
  q:=⟨rfl,hQ _ _ Y hI hO⟩
  v:=by simp[Oq,D3,Or,PV.val1,Zo U]
  m:={ el:=rfl,br:=λk B hk _=>by simp at hk,bo:=λk B hk _=>by simp at hk,bf:=λk B hk _=>by simp at hk,inj:=λi j b hi _=>by obtain⟨_,_,B,h3,_⟩:=hi;simp at h3 }
  ok:=λp hp=>by
   simp at hp;subst hp;refine⟨⟨O.1,λb hb hl=>?_⟩,U⟩;rcases hl with hl | hl
   ·exact O.2 b hb hl
   ·obtain⟨k,_,_,B,h3,_⟩:=hl;simp at h3
  fresh:=λk b hb=>by simp[Env.at]at hb
  size:=Y
  old:=hold
  fz:=ae
  ku:=⟨ah,aa⟩ }⟩
theorem Mx {m:Nat}:∀ {g:List Pm},(∀ x∈g,x.ty.cnt<=m)->pmW g<=g.length*(2+m)
 | [],_=>by simp[pmW]
 | x::g,h=>by have J:=Mx (g:=g) λy I=>h y (by simp[I]);have O:=h x (by simp);simp only[pmW,oJ,nG (n:=g.length),mt];omega
theorem My {g:List Pm}(h:rB g=true):g.length<=5:=by simp[rB]at h;exact h.2
theorem Vm {g:List Pm}(I:rB g=true)(hc:∀ x∈g,x.ty.cnt<=2000000):pmW (wL g)<=10000010:=by have U:=Mx (g:=wL g) (m:=2000000) λx hx=>hc x (nW.1 hx).1;have J:=wy g;have O:=My I;have Y:=oc (2+2000000) (oP J O);omega
theorem EB {g:List Pm}(I:rB g=true)(hc:∀ x∈g,x.ty.cnt<=2000000):pmW (wK g)<=10000010:=by have U:=Mx (g:=wK g) (m:=2000000) λx hx=>hc x (nW.1 hx).1;have J:=wU g;have O:=My I;have Y:=oc (2+2000000) (oP J O);omega
def pU (g:List Pm)(e:Tm):Tm:=if(xW g e).isSome=true then e.code (wE g)else Tm.nod 0 []
theorem Ga (g:List Pm)(e:Tm):(pU g e).cnt<=3*e.cnt+3:=by
 unfold pU;split
 ·have:=sU e (wE g);omega
 ·simp only[uO,zG];omega
theorem IC {g:List Pm}{es:List D}(h:Pms g es)(hg:g.length<=1073741){e:Tm}{d:D}(U:e.Is d)(hc:e.cnt<=250000000)(a:Option Addr)(c:Nat):Cop 72 9 [.sv a 4 es c,.dg 9 d] (pU g e).Is:=λN Q Y=>by
 refine IX N a es c d Q λ_ _ N1 aa=>?_;refine tY h (by omega) U (by omega) a c N1 _ λx N2 ab _ _ _=>Br.not (λI N3 ac=>?_) λI N4 ae=>?_
 ·exact Y _ _ (by omega) (by rw[pU,if_neg (by simp[I])];exact JK rfl (by simp)) (Am 0)
 ·refine Uo h (by omega) a c N4 _ λa2 c2 N5 ah _ _ N6 ai=>?_;obtain⟨_,hv,hB⟩:=tX I;refine SD e d U (Zq hv) hB (wE g) a2 c2 (by rw[MW];omega) N6 _ λd' N7 aj J ho _ _ N8 O=>?_;exact Y _ _ (by omega) (by rw[pU,if_pos I];exact J) (ho.mono (by omega) O)
def tz (g:List Pm)(e:Tm):Option Tm:=if(xW g e).isSome=true then some (yV (wL g) (Tm.nod 10 [yV (wK g) (Tm.nod 11 [pU g e])]))else none
theorem FH {g:List Pm} {es:List D} (h:Pms g es) (hg:g.length<=1073741) (I:∀ x∈g,x.ty.cnt<=2000000) {e:Tm} {d:D} (he:e.Is d) (hc:e.cnt<=100000000) (a:Option Addr) (c:Nat) :
  YX 27 [.sv a 4 es c,.dg 9 d] (tz g e):=λN Q J=>by
 have U:∀ x∈g,x.ty.cnt<=1073741824:=λx hx=>by have:=I x hx;omega
 have ax:=wy g;have ay:=wU g;refine Fb N a es c d Q λ_ _ N1 az=>?_;refine tY h (by omega) he (by omega) a c N1 _ λx N2 a0 _ _ _=>Br.not (λO N3 a2=>?_) λO N4 a5=>?_
 ·rw[show tz g e=none from by unfold tz;rw[if_neg (by simp[O])]]at J;exact J _ _ (by omega) (JK rfl (by simp)) (Am 0)
 ·obtain⟨hp,_,_⟩:=tX O;have h1:=Vm hp I;have h2:=EB hp I;have h3:=Ga g e;rw[show tz g e=some (yV (wL g) (Tm.nod 10 [yV (wK g) (Tm.nod 11 [pU g e])]))from by unfold tz;rw[if_pos O]]at J;refine xC h (by omega) U a c N4 _ λa3 a6 c3 a4 a7 c4 N5 a8 p3 p4 _ _ _ N6 a9=>?_;refine IC h hg he (by omega) a c N6 _ λd1 N7 ba Y o1 _ _ N8 bb=>?_;refine GR _ d1 Y (by omega) N8 _ λd2 N9 bc aa o2 _ _ ab ak=>?_;refine uM p4 (by omega) (by omega) aa (by simp only[uO,zG];omega) a4 c4 ab _ λd3 bg al ac o3 _ _ ae am=>?_;refine Dn _ d3 ac (by simp only[pY,uO,zG];omega) ae _ λd4 bh ao ah o4 _ _ ai aq=>?_;refine uM p3 (by omega) (by omega) ah (by simp only[pY,uO,zG];omega) a3 c3 ai _ λd5 bi au aj o5 _ _ bj aw=>?_;exact J _ _ (by omega) aj (o5.mono (by omega) (by omega))
theorem Zd (r:Rho)(x:ByteArray)(n:Int)(t:Ty)(m:Int):r.set x n t x m=if n=m then some t else none:=by unfold Rho.set;rw[if_pos rfl]
theorem Wk (r:Rho){x s:ByteArray}(h:s≠x)(n:Int)(t:Ty)(m:Int):r.set x n t s m=r s m:=by unfold Rho.set;rw[if_neg (λI=>h I.symm)]
theorem JY {v:List Bd}:∀ {l:List Tm},xg l v=false->∀ t∈l,t.late v=false
 | x::l,h,t,ht=>by
   simp only[xg,Bool.or_eq_false_iff]at h;rcases oH.1 ht with rfl | ht
   ·exact h.1
   ·exact JY h.2 t ht
theorem Kz {k n:Int}{nm ot:ByteArray}{ty re:Ty}{l:List Tm}(h:(Tm.mk k nm ot n ty re l).isB=true):(∀ x∈l,x.isB=true)/\(k=1\/k=2\/k=3\/k=4\/k=5\/k=8):=by simp only[Tm.isB,oE,s5,nB,za,nF]at h;exact⟨λx hx=>yo h.1 hx,by omega⟩
theorem Xf:∀(t:Tm),t.ok=true->t.isB=true->∀(b:List Bd),t.late b=false->∀ s∈t.fv,(s8 s b).getD false=false:=by
 refine Tm.ind λk nm ot n ty re l Y ab hB b I s hs=>?_;have nd:=zT ab;obtain⟨O,hk⟩:=Kz hB;simp only[Tm.late]at I;rcases Tm.fv_mem.1 hs with⟨h1,h2⟩ | ⟨h1,j,x,U,hx⟩
 ·rw[if_pos h1]at I;rw[h2];cases hb:s8 nm b with
  | none=>rfl
  | some v=>rw[hb]at I;exact I
 ·rw [if_neg h1]at I;have J:=oA U;by_cases h8:k=8
  ·subst h8;rw[if_pos rfl]at I;have ac:=nd.ar;have aa:l.length=2:=by have:(l.length:Int)=2:=ac;omega
   match l,aa,U,hx,I,J,Y,O,nd with
   | [a,p],_,U,hx,I,J,Y,O,nd=>
   simp only[HN,xg,Bool.or_false,Bool.or_eq_false_iff]at I;unfold fvI at hx
   match j,U with
   | 0,U=>
     have e:a=x:=by simpa using U
     subst e;rw[if_neg (by simp[yB])]at hx;exact Y a J (nd.sub a J) (O a J) b I.1 s hx
   | 1,U=>
     have e:p=x:=by simpa using U
     subst e;rw[if_pos (by simp[yB])]at hx;obtain⟨h3,h4⟩:=xc.1 hx;have h5:=Y p J (nd.sub p J) (O p J) _ I.2 s h3;rw[xo,if_neg (λe=>h4 (by rw[<-e];simp[bdN]))]at h5;exact h5
  ·rw[if_neg h8]at I;have hx:s∈x.fv:=by unfold fvI at hx;rw[if_neg (by unfold yB;rw[if_neg (by omega),if_neg (by omega),if_neg (by omega)];omega)]at hx;exact hx
   exact Y x J (nd.sub x J) (O x J) b (JY I x J) s hx
theorem Tq {r:Rho}(hr:∀ s m t,r s m=some t->t.base=true):∀(t:Tm),t.ok=true->t.isB=true->∀(r:Rho),(∀ s m t,r s m=some t->t.base=true)->∀ u,HT r t 0 u->u.base=true:=by
 refine Tm.ind λk nm ot n ty re l O U hB r hr u h=>?_;have nd:=zT U;obtain⟨I,hk⟩:=Kz hB;cases h with
 | var h hv=>exact hr _ _ _ h
 | int=>rfl
 | bool=>rfl
 | op _=>unfold rh;(repeat' split)<;>rfl
 | ite ha Y hc=>exact O _ (by simp) (nd.sub _ (by simp)) (I _ (by simp)) r hr u Y
 | lt ha Y=>
   have h1:=O _ (by simp) (nd.sub _ (by simp)) (I _ (by simp)) r hr _ ha;refine O _ (by simp) (nd.sub _ (by simp)) (I _ (by simp)) _ (λs m t J=>?_) u Y;by_cases e:s=nm
   ·subst e;rw[Zd]at J;split at J
    ·cases J;exact h1
    ·cases J
   ·rw[Wk _ e]at J;exact hr _ _ _ J
 | lam _ _=>omega
 | app _ _=>omega
 | fix _ _ _=>omega
 | quote _ _=>omega
 | splice _=>omega
 | run _=>omega
 | lift _ _ _=>omega
def Ew:Rho->List Pm->Int->Rho
 | r,[],_=>r
 | r,p::g,n=>Ew (r.set p.nm n p.ty) g n
theorem EG:∀(g:List Pm)(r:Rho)(n:Int)(s:ByteArray),s∉g.map (·.nm)->∀ m,Ew r g n s m=r s m
 | [],r,n,s,_,m=>rfl
 | p::g,r,n,s,h,m=>by simp only[oZ,oH,not_or]at h;simp only[Ew];rw[EG g _ n s h.2,Wk _ h.1]
theorem M7:∀(g:List Pm)(r:Rho)(n:Int),(g.map (·.nm)).Nodup->∀ p∈g,∀ m,Ew r g n p.nm m=if n=m then some p.ty else none
 | q::g,r,n,hn,p,hp,m=>by
   rw[oZ,na]at hn;simp only[Ew];rcases oH.1 hp with rfl | hp
   ·rw[EG g _ n p.nm hn.1,Zd]
   ·exact M7 g _ n hn.2 p hp m
theorem HZ:∀(g:List Pm)(c:List Tg),yF (c++xS g)=Ew (yF c) g 0
 | [],c=>by simp[xS,Ew]
 | p::g,c=>by have h:=HZ g (c++[⟨p.nm,p.ty,0⟩]);rw[vz]at h;simp only[Ew];rw[<-h];simp[xS]
theorem C0:∀ {g:List Pm},(g.map (·.nm)).Nodup->∀ p∈g,s8 p.nm (wE g)=some p.dy:=by
 have key:∀(g:List Pm) (c:List Bd) (s:ByteArray),s∉g.map (·.nm)->s8 s (c++wE g)=s8 s c:=by
  intro g
  induction g with
  | nil=>intro c s _;simp[wE]
  | cons q g J=>
    intro c s h;simp only[oZ,oH,not_or]at h;have e:c++wE (q::g)=(c++[(q.nm,q.dy)])++wE g:=by simp[wE]
    rw[e,J _ s h.2,xo,if_neg (λe=>h.1 e.symm)]
 have I:∀(g:List Pm) (c:List Bd),(g.map (·.nm)).Nodup->∀ p∈g,s8 p.nm (c++wE g)=some p.dy:=by
  intro g
  induction g with
  | nil=>intro c _ p hp;cases hp
  | cons q g J=>
    intro c hn p hp;rw[oZ,na]at hn;have e:c++wE (q::g)=(c++[(q.nm,q.dy)])++wE g:=by simp[wE]
    rw[e];rcases oH.1 hp with rfl | hp
    ·rw[key g _ p.nm hn.1,xo,if_pos rfl]
    ·exact J _ hn.2 p hp
 intro g hn p hp
 have:=I g [] hn p hp
 simpa using this
theorem Xw:yF []=λ_ _=>none:=by funext s n;exact Ra n [] (by simp)
theorem Mz {g:List Pm}(h:rB g=true):(g.map (·.nm)).Nodup/\∀ p∈g,yk p.nm=true/\p.ty.base=true:=by
 have key:∀(g:List Pm) (seen:List ByteArray),FM seen g=true->(g.map (·.nm)).Nodup/\(∀ s∈seen,s∉g.map (·.nm))/\∀ p∈g,yk p.nm=true/\p.ty.base=true:=by
  intro g
  induction g with
  | nil=>intro seen _;simp
  | cons p g U=>
    intro seen h;simp only[FM,oE]at h;obtain⟨J,Y,I,h4⟩:=h;obtain⟨h5,O,h7⟩:=U _ h4;refine⟨?_,λs hs hm=>?_,λq hq=>?_⟩
    ·rw[oZ,na];exact⟨O p.nm (by simp),h5⟩
    ·rw[oZ,oH]at hm;rcases hm with rfl | hm
     ·have:(seen.any λx=>decide (x=p.nm))=true:=List.any_eq_true.2 ⟨p.nm,hs,by simp⟩;rw[this]at I;cases I
     ·exact O s (by simp[hs]) hm
    ·rcases oH.1 hq with rfl | hq
     ·exact⟨J,Y⟩
     ·exact h7 q hq
 unfold rB at h;obtain⟨J,_,I⟩:=key g [] (lF.1 h).1;exact⟨J,I⟩
theorem TC {g g':List Pm}(h:g'.Sublist g):(g'.map (·.nm)).Sublist (g.map (·.nm)):=h.map _
end Go.Proofs.YtlaniepnglheoaaGreat
