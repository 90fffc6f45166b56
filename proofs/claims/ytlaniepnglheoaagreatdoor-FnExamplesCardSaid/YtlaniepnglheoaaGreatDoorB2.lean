/- Substitution and steps: sizes, and that terms stay terms (no program in sight). -/
import Derived.Test.YtlaniepnglheoaaGreatDoorA9
import Derived.Test.YtlaniepnglheoaaGreatDoorKa
import Derived.Test.YtlaniepnglheoaaGreatDoorKd
set_option linter.unusedVariables false
set_option linter.unusedSimpArgs false
namespace Go.Proofs.YtlaniepnglheoaaGreatDoor
open Go Go.Proofs Go.Proofs.Tryz Go.IntWalk
variable {I d:D} {N f i m:Nat} {b e x y:Tm} {k n n0:Int} {l:aP} {nm ot s:aG} {re ty:Ty}
theorem vC:∀ {l:aP}{t:Tm},t∈l->t.sz<=zQ l
 | u::us,t,h=>by
   simp only[zQ];rcases oK.1 h with rfl | h
   ·omega
   ·have:=vC h;omega
theorem Tm.sz_pos (t:Tm):1<=t.sz:=by cases t;simp only[Tm.sz];omega
theorem NV:∀ {l:aP},rZ l=true↔∀ x∈l,x.ok=true
 | []=>by simp[rZ]
 | t::ts=>by simp only[rZ,oL,NV (l:=ts),oK,mc]
theorem szL:∀ {l' l:aP},l'.length=l.length->(∀(i:Nat)(t' t:Tm),l'[i]?=some t'->l[i]?=some t->t.sz<=t'.sz)->zQ l<=zQ l'
 | [],[],_,_=>oC _
 | [],_::_,h,_=>by simp at h
 | _::_,[],h,_=>by simp at h
 | t'::I,t::ts,h,J=>by have U:=szL (l':=I) (l:=ts) (by simpa using h) λi a b O hb=>J (i+1) a b (by simpa using O) (by simpa using hb);have Y:=J 0 t' t aB aB;simp only[zQ];omega
theorem UB (I:∀ t x y,t.V->t.sz<=(Tm.sub f t x (ri y)).sz) k n fb x:∀(l:List aG)(s:aG × aG × Tm),s.2.2.V->s.2.2.sz<=(rns (Tm.sub f) k n fb x l s).2.2.sz
 | [],s,_=>oC _
 | old::l,s,J=>by
   have O:=UB I k n fb x l (rn1 (Tm.sub f) k n fb x old s) ((LJ (tq f) k n fb x old s).v J);have U:s.2.2.sz<=(rn1 (Tm.sub f) k n fb x old s).2.2.sz:=by
    unfold rn1;split
    ·split<;>exact I _ _ _ J
    ·exact oC _
   simp only[rns];omega
theorem J1:∀(f:Nat)(t:Tm)(x:aG)(b:Tm),t.V->t.sz<=(t.sub f x b).sz
 | 0,t,x,b,_=>by simp only[Tm.sub];exact oC _
 | f + 1,.mk k nm ot n ty re l,x,b,hv=>by
   have Y:=J1 f;have O:=si.1 hv.2;simp only[Tm.sub];split
   ·rename_i hk;split
    ·rw[hv.1 aE];simp only[Tm.sz,zQ];exact Tm.sz_pos b
    ·exact oC _
   ·split
    ·simp only[Tm.sz]
     have:=szL (l':=l.map λt=>Tm.sub f t x b) (l:=l) aB λi t' t I J=>by rw[oF,J]at I;cases I;exact Y t x b (O t (oB J))
     omega
    ·rename_i hb;obtain⟨g1,g2⟩:=wO hb;split
     ·simp only[Tm.sz]
      have:=szL (l':=(l.map λt=>Tm.sub f t x b).set (yZ k l.length).toNat (l.getD (yZ k l.length).toNat tm0)) (l:=l) aB λi t' t I J=>by
       rcases EP I J with⟨h1,U⟩ | ⟨h1,U⟩
       ·rw[h1,zh g1]at J;rw[U,<-oZ J];exact oC _
       ·rw[U];exact Y t x b (O t (oB J))
      omega
     ·simp only[Tm.sz]
      have:=szL (l':=(l.map λt=>Tm.sub f t x b).set (yZ k l.length).toNat (Tm.sub f (rns (Tm.sub f) k l.length b.fv x (bdN k nm ot l.length) (nm,ot,l.getD (yZ k l.length).toNat tm0)).2.2 x b)) (l:=l) aB λi t' t I J=>by
       rcases EP I J with⟨h1,U⟩ | ⟨h1,U⟩
       ·rw[h1,zh g1]at J;rw[U,<-oZ J];have aa:=O _ (oB (zh g1));exact oR (UB (λt x y h=>Y t x _ h) k l.length b.fv x (bdN k nm ot l.length) (nm,ot,l.getD (yZ k l.length).toNat tm0) aa) (Y _ x b ((AG (tq f) _ _ _ _ _ _).v aa))
       ·rw[U];exact Y t x b (O t (oB J))
      omega
theorem XY {w n} v(h:s∈bdN k w ot n):s=w\/s∈bdN k v ot n:=by
 unfold bdN at h ⊢;split at h
 ·simp at h;exact .inl h
 ·rename_i I;rw[if_neg I];split at h
  ·simp at h;exact .inl h
  ·rename_i J;rw[if_neg J];split at h
   ·rename_i O;rw[if_pos O];simp at h;rcases h with h | h
    ·exact .inl h
    ·exact .inr (by simp[h])
   ·simp at h
theorem XZ {w n} v(h:s∈bdN k nm w n):s=w\/s∈bdN k nm v n:=by
 unfold bdN at h ⊢;split at h
 ·rename_i I;rw[if_pos I];exact .inr h
 ·rename_i I;rw[if_neg I];split at h
  ·rename_i J;rw[if_pos J];exact .inr h
  ·rename_i J;rw[if_neg J];split at h
   ·rename_i O;rw[if_pos O];simp at h;rcases h with h | h
    ·exact .inr (by simp[h])
    ·exact .inl h
   ·simp at h
theorem S5:∀(f:Nat) (t:Tm) (s x:aG) (b:Tm),s∈t.fv->s≠x->s∈(t.sub f x b).fv
 | 0,t,s,x,b,h,_=>by simp only[Tm.sub];exact h
 | f + 1, .mk k nm ot n ty re l,s,x,b,h,J=>by
   have ih:=S5 f;rw[Tm.fv_mem]at h;simp only[Tm.sub];split
   ·rename_i O;rcases h with⟨_,h⟩ | ⟨h,_⟩
    ·rw[if_neg (λhc=>J (by rw[h,hc]))];rw[Tm.fv_mem];exact .inl ⟨O,h⟩
    ·exact absurd O h
   ·rename_i O;obtain⟨j,p,hj,hs⟩:∃(j:Nat) (x:Tm),l[j]?=some x/\s∈fvI (yZ k l.length) (bdN k nm ot l.length) j x:=by
     rcases h with⟨h,_⟩ | ⟨_,h⟩
     ·exact absurd h O
     ·exact h
    unfold fvI at hs;split
    ·rename_i hb;rw[Tm.fv_mem];refine .inr ⟨O,j,p.sub f x b,by rw[oF,hj];rfl,?_⟩;rw[if_neg aA]at hs;unfold fvI;rw[nE,if_neg aA];exact ih p s x b hs J
    ·rename_i hb;obtain⟨g1,g2⟩:=wO hb;have aa:j<l.length:=(oD.1 hj).1;have U:=zh g1;split
     ·rw[Tm.fv_mem];by_cases I:(j:Int)=yZ k l.length
      ·refine .inr ⟨O,j,p,?_,?_⟩
       ·have:(yZ k l.length).toNat=j:=aA
        rw[this]at U ⊢;rw[nD (by simpa using aa),<-oZ (U.symm.trans hj)]
       ·unfold fvI;simp only[nf,nE];exact hs
      ·refine .inr ⟨O,j,p.sub f x b,?_,?_⟩
       ·rw[nH aA,oF,hj];rfl
       ·rw[if_neg I]at hs;unfold fvI;simp only[nf,nE];rw[if_neg I];exact ih p s x b hs J
     ·rw [Tm.fv_mem];by_cases I:(j:Int)=yZ k l.length
      ·have ae:(yZ k l.length).toNat=j:=aA
       rw[ae]at U ⊢;have ah:l.getD j tm0=p:=oZ (U.symm.trans hj);rw[ah];rw[if_pos I,tD]at hs;obtain⟨ai,ab⟩:=hs;have r1:∀(old:aG) (st:aG × aG × Tm),s≠old->s∈st.2.2.fv->s∉bdN k st.1 st.2.1 l.length->s∈(rn1 (Tm.sub f) k l.length b.fv x old st).2.2.fv/\s∉bdN k (rn1 (Tm.sub f) k l.length b.fv x old st).1 (rn1 (Tm.sub f) k l.length b.fv x old st).2.1 l.length:=λold st h1 Y h3=>by
        unfold rn1;have ac:=G5 (b.fv++(st.2.2.fv++([x]++bdN k st.1 st.2.1 l.length)));generalize fresh (b.fv++(st.2.2.fv++([x]++bdN k st.1 st.2.1 l.length)))=w at ac;have hw:s≠w:=λhc=>ac (by rw[<-hc];simp[Y]);split
        ·split
         ·exact⟨ih _ _ _ _ Y h1,λhc=>(XY st.1 hc).elim hw h3⟩
         ·exact⟨ih _ _ _ _ Y h1,λhc=>(XZ st.2.1 hc).elim hw h3⟩
        ·exact⟨Y,h3⟩
       have rs:∀(ns:List aG) (st:aG × aG × Tm),(∀ o∈ns,s≠o)->s∈st.2.2.fv->s∉bdN k st.1 st.2.1 l.length->s∈(rns (Tm.sub f) k l.length b.fv x ns st).2.2.fv/\s∉bdN k (rns (Tm.sub f) k l.length b.fv x ns st).1 (rns (Tm.sub f) k l.length b.fv x ns st).2.1 l.length:=by
        intro ns
        induction ns with
        | nil=>exact λst _ Y h3=>⟨Y,h3⟩
        | cons o os aj=>intro st h1 Y h3;obtain⟨a1,a2⟩:=r1 o st (h1 o aB) Y h3;exact aj _ (λo' ho=>h1 o' (by simp[ho])) a1 a2
       obtain⟨a1,a2⟩:=rs (bdN k nm ot l.length) (nm,ot,p) (λo ho hc=>ab (hc ▸ ho)) ai ab;refine .inr ⟨O,j,_,nD (by simpa using aa),?_⟩;unfold fvI;simp only[nf,nE];rw[if_pos I,tD];exact⟨ih _ _ _ _ a1 J,a2⟩
      ·refine .inr ⟨O,j,p.sub f x b,?_,?_⟩
       ·rw[nH aA,oF,hj];rfl
       ·rw[if_neg I]at hs;unfold fvI;simp only[nf,nE];rw[if_neg I];exact ih p s x b hs J
theorem UA k n fb x:∀(l:List aG)(s:aG × aG × Tm),x∉l->x∈s.2.2.fv->x∈(rns (Tm.sub f) k n fb x l s).2.2.fv
 | [],s,_,h=>h
 | old::l,s,J,h=>by
   refine UA k n fb x l _ (λhc=>J (by simp[hc])) ?_;unfold rn1;have I:x≠old:=λhc=>J (by simp[hc]);split
   ·split<;>exact S5 f _ _ _ _ h I
   ·exact h
theorem UR:∀(f:Nat)(t:Tm)(x:aG)(b:Tm),t.dp<=f->x∈t.fv->b.sz<=(t.sub f x b).sz
 | 0,t,x,b,h,_=>absurd (Tm.dp_pos t) aA
 | f + 1,.mk k nm ot n ty re l,x,b,hd,h=>by
   have ih:=UR f;rw[Tm.fv_mem]at h;simp only[Tm.dp]at hd;have ae:=λy hy=>sg.1 (mZ hd) y hy;simp only[Tm.sub];split
   ·rename_i hk;rcases h with⟨_,h⟩ | ⟨h,_⟩
    ·rw[if_pos h.symm];exact oC _
    ·exact absurd hk h
   ·rename_i hk;obtain⟨j,p,U,hs⟩:∃(j:Nat) (y:Tm),l[j]?=some y/\x∈fvI (yZ k l.length) (bdN k nm ot l.length) j y:=by
     rcases h with⟨h,_⟩ | ⟨_,h⟩
     ·exact absurd h hk
     ·exact h
    unfold fvI at hs;have J:=ae p (oB U);have fin:∀(aa ab:aG) (l':aP) (y:Tm),l'[j]?=some y->b.sz<=y.sz->b.sz<=(Tm.mk k aa ab n ty re l').sz:=λaa ab l' y h1 h2=>by
     have:=vC (oB h1)
     simp only[Tm.sz];omega
    split
    ·rename_i hb;rw[if_neg aA]at hs;exact fin _ _ _ (p.sub f x b) (by rw[oF,U];rfl) (ih p x b J hs)
    ·rename_i hb;obtain⟨g1,g2⟩:=wO hb;have ah:j<l.length:=(oD.1 U).1;have O:=zh g1;split
     ·rename_i hc;by_cases I:(j:Int)=yZ k l.length
      ·exfalso;have:(yZ k l.length).toNat=j:=aA
       rw[this]at O hc;have Y:l.getD j tm0=p:=oZ (O.symm.trans U);rw[if_pos I,tD]at hs;rw[Y]at hc;rcases hc with hc | hc
       ·exact hs.2 hc
       ·exact hc hs.1
      ·rw[if_neg I]at hs;exact fin _ _ _ (p.sub f x b) (by rw[nH aA,oF,U];rfl) (ih p x b J hs)
     ·rename_i hc;by_cases I:(j:Int)=yZ k l.length
      ·have ai:(yZ k l.length).toNat=j:=aA
       rw[ai]at O ⊢;have Y:l.getD j tm0=p:=oZ (O.symm.trans U);rw[Y];rw[if_pos I,tD]at hs;have aj:=AG (tq f) k l.length b.fv x (bdN k nm ot l.length) (nm,ot,p);have ac:=aj.d;refine fin _ _ _ _ (nD (by simpa using ah)) (ih _ x b (oR ac J) (UA _ _ _ _ _ _ hs.2 hs.1))
      ·rw[if_neg I]at hs;exact fin _ _ _ (p.sub f x b) (by rw[nH aA,oF,U];rfl) (ih p x b J hs)
theorem Sr {k}(h:k<=999):Lib.decDigits k=(if k<10 then [UInt8.ofNat (48+k)]else if k<100 then [UInt8.ofNat (48+k / 10),UInt8.ofNat (48+k % 10)]else [UInt8.ofNat (48+k / 10 / 10),UInt8.ofNat (48+k / 10 % 10),UInt8.ofNat (48+k % 10)]):=by
 have e1:∀ u,u<10->Lib.decDigits u=[UInt8.ofNat (48+u)]:=λu h=>by rw[Lib.decDigits,dif_pos h]
 have J:∀ u,¬u<10->Lib.decDigits u=Lib.decDigits (u / 10)++[UInt8.ofNat (48+u % 10)]:=λu h=>by rw[Lib.decDigits,dif_neg h]
 split
 ·rename_i I;exact e1 k I
 ·rename_i I;rw[J k I];split
  ·rename_i O;rw[e1 _ aA];rfl
  ·rename_i O;rw[J (k / 10) aA,e1 _ aA];rfl
theorem TE:∀ a:_root_.Fin 10,yN ⟨#[118,UInt8.ofNat (48+a.val)]⟩=true:=by decide +kernel
theorem TF:∀ a b:_root_.Fin 10,yN ⟨#[118,UInt8.ofNat (48+a.val),UInt8.ofNat (48+b.val)]⟩=true:=by decide +kernel
theorem TG:∀ a b c:_root_.Fin 10,yN ⟨#[118,UInt8.ofNat (48+a.val),UInt8.ofNat (48+b.val),UInt8.ofNat (48+c.val)]⟩=true:=by decide +kernel
theorem VZ {k}(h:k<=999):yN (sA k)=true:=by
 unfold sA;rw[Sr h];split
 ·rename_i I;exact TE ⟨k,I⟩
 ·split
  ·rename_i I J;exact TF ⟨k / 10,aA⟩ ⟨k % 10,aA⟩
  ·rename_i I J;exact TG ⟨k / 10 / 10,aA⟩ ⟨k / 10 % 10,aA⟩ ⟨k % 10,aA⟩
theorem Mr {l}(h:l.length<=998):yN (fresh l)=true:=by obtain⟨k,e,_,I,_,_⟩:=rM l;rw[e];exact VZ aA
theorem Tm.vc_sz:∀ t:Tm,t.vc<=t.sz:=by
 refine Tm.ind λk nm ot n ty re l J=>?_;have key:∀ l:aP,(∀ t∈l,t.vc<=t.sz)->Az l<=zQ l:=by
  intro l
  induction l with
  | nil=>intro _;exact oC _
  | cons t ts I=>intro h;have U:=h t aB;have Y:=I λx O=>h x (by simp[O]);simp only[Az,zQ];omega
 have:=key l J
 simp only[Tm.vc,Tm.sz];split<;>omega
theorem Tm.ok_mk:(Tm.mk k nm ot n ty re l).ok=true↔(∀ x∈l,x.ok=true)/\zH k nm ot n ty re=true/\(l.length:Int)=IL k nm:=by simp only[Tm.ok,oL,NV,mG]
theorem UZ (h:yN s=true):(ri s).ok=true:=by
 refine Tm.ok_mk.2 ⟨aB,?_,rfl⟩;have:(Ty.mk 0 []).valid=false:=by decide +kernel
 simp[zH,qh,this,Ty.zero,Ty.k,Ty.as,inB,zx,h]
theorem Sz {I J}(hb:¬yZ k m<0)(h:zH k nm ot n ty re=true)(U:yN I=true)(Y:k=9->yN J=true/\I≠J)(O:k≠9->J=ot):zH k I J n ty re=true/\(IL k I=IL k nm):=by
 have hk:k=6\/k=8\/k=9:=by
  rcases uF k m with h | ⟨_,_,h | h⟩ | ⟨_,_,h⟩
  ·omega
  ·exact .inl h
  ·exact .inr (.inr h)
  ·exact .inr (.inl h)
 rcases hk with rfl | rfl | rfl
 ·have O:=O aD;subst O;refine⟨?_,rfl⟩;simp only[zH,zx,oL]at h ⊢;simp[U]at h ⊢;exact⟨h.1,h.2.1,h.2.2.1,h.2.2.2.1,h.2.2.2.2.1,h.2.2.2.2.2.2⟩
 ·have O:=O aD;subst O;refine⟨?_,rfl⟩;simp only[zH,zx,oL]at h ⊢;simp[U]at h ⊢;exact⟨h.1,h.2.1,h.2.2.1,h.2.2.2.1,h.2.2.2.2.1,h.2.2.2.2.2.2⟩
 ·obtain⟨h4,h5⟩:=Y rfl;refine⟨?_,rfl⟩;simp only[zH,zx,oL]at h ⊢;simp[U,h4,h5]at h ⊢;exact⟨h.1,h.2.1,h.2.2.1,h.2.2.2.1⟩
theorem Vp (hb:¬yZ k m<0)(h:zH k nm ot n ty re=true):yN nm=true/\(k=9->yN ot=true/\nm≠ot):=by
 have I:k=6\/k=8\/k=9:=by
  rcases uF k m with h | ⟨_,_,h | h⟩ | ⟨_,_,h⟩
  ·omega
  ·exact .inl h
  ·exact .inr (.inr h)
  ·exact .inr (.inl h)
 rcases I with rfl | rfl | rfl
 ·simp only[zH,zx,oL]at h;refine⟨?_,λh=>absurd h aD⟩;simp at h;exact h.2.2.2.2.2.1
 ·simp only[zH,zx,oL]at h;refine⟨?_,λh=>absurd h aD⟩;simp at h;exact h.2.2.2.2.2.1
 ·simp only[zH,zx,oL]at h;simp at h;exact⟨h.2.2.2.2.1,λ_=>⟨h.2.2.2.2.2.1,h.2.2.2.2.2.2⟩⟩
theorem XH:∀(f:Nat) (e:Tm) (x:aG) (b:Tm),e.dp<=f->e.ok=true->b.ok=true->(e.sub f x b).sz<=400->(e.sub f x b).ok=true
 | 0,e,x,b,h,_,_,_=>absurd (Tm.dp_pos e) aA
 | f + 1, .mk k nm ot n ty re l,x,b,hd,he,hb,hs=>by
   have ih:=XH f;obtain⟨h1,h2,h3⟩:=Tm.ok_mk.1 he;simp only[Tm.dp]at hd;have ae:=λy hy=>sg.1 (mZ hd) y hy;simp only[Tm.sub]at hs ⊢;split
   ·rename_i hk;rw[if_pos hk]at hs;split
    ·exact hb
    ·exact he
   ·rename_i hk;rw[if_neg hk]at hs;split
    ·rename_i O;rw[if_pos O]at hs;refine Tm.ok_mk.2 ⟨λy hy=>?_,h2,by simpa using h3⟩;obtain⟨z,hz,rfl⟩:=oT.1 hy
     have:=vC hy
     simp only[Tm.sz]at hs;exact ih z x b (ae z hz) (h1 z hz) hb aA
    ·rename_i O;rw[if_neg O]at hs;obtain⟨g1,g2⟩:=wO O;have ai:=zh g1;have U:=oB ai;generalize hp:l.getD (yZ k l.length).toNat tm0=p at hs ai U ⊢;have parts:∀(v:Tm) (s:Nat),v.ok=true->zQ ((l.map λt=>Tm.sub f t x b).set (yZ k l.length).toNat v)<=400->∀ y∈(l.map λt=>Tm.sub f t x b).set (yZ k l.length).toNat v,y.ok=true:=λv s hv hs y hy=>by
      have a8:=vC hy;rcases nQ hy with hy | rfl
      ·obtain⟨z,hz,rfl⟩:=oT.1 hy;exact ih z x b (ae z hz) (h1 z hz) hb aA
      ·exact hv
     split
     ·rename_i hc;rw[if_pos hc]at hs;simp only[Tm.sz]at hs;exact Tm.ok_mk.2 ⟨parts _ 0 (h1 p U) aA,h2,by simpa using h3⟩
     ·rename_i hc;rw[if_neg hc]at hs;have aq:x∉bdN k nm ot l.length:=λh=>hc (.inl h);have au:x∈p.fv:=mS.1 λh=>hc (.inr h);have aj:=ZA p (h1 p U);have Y:=ae p U;obtain⟨n1,n2⟩:=Vp O h2;have ab:=AG (tq f) k l.length b.fv x (bdN k nm ot l.length) (nm,ot,p);have ac:=ab.d;have aw:=vC (oB (nD (l:=l.map λt=>Tm.sub f t x b) (i:=(yZ k l.length).toNat) (a:=Tm.sub f (rns (Tm.sub f) k l.length b.fv x (bdN k nm ot l.length) (nm,ot,p)).2.2 x b) (by simpa using g1)));simp only[Tm.sz]at hs;have ax:=UA (f:=f) k l.length b.fv x (bdN k nm ot l.length) (nm,ot,p) aq au;have ba:=UR f _ x b (oR ac Y) ax;have bb:=J1 f (rns (Tm.sub f) k l.length b.fv x (bdN k nm ot l.length) (nm,ot,p)).2.2 x b (ab.v aj);have bc:=Tm.fv_len b;have bg:=Tm.vc_sz b;have bh:b.fv.length<=400:=aA
      have r1:∀(old:aG) (st:aG × aG × Tm),old∈bdN k st.1 st.2.1 l.length->st.2.2.ok=true->st.2.2.dp<=f->(rn1 (Tm.sub f) k l.length b.fv x old st).2.2.sz<=400->yN st.1=true->(k=9->yN st.2.1=true/\st.1≠st.2.1) ->
        (rn1 (Tm.sub f) k l.length b.fv x old st).2.2.ok=true/\yN (rn1 (Tm.sub f) k l.length b.fv x old st).1=true/\(k=9->yN (rn1 (Tm.sub f) k l.length b.fv x old st).2.1=true/\(rn1 (Tm.sub f) k l.length b.fv x old st).1≠(rn1 (Tm.sub f) k l.length b.fv x old st).2.1)/\(k≠9->(rn1 (Tm.sub f) k l.length b.fv x old st).2.1=st.2.1):=λold st ho a1 a2 a3 a4 a5=>by
       have ak:=G5 (b.fv++(st.2.2.fv++([x]++bdN k st.1 st.2.1 l.length)));unfold rn1 at a3 ⊢;split
       ·rename_i hold;rw[if_pos hold]at a3;have bi:st.2.2.sz<=400:=by
         split at a3
         ·exact oR (J1 f _ _ _ (ZA _ a1)) a3
         ·exact oR (J1 f _ _ _ (ZA _ a1)) a3
        have bj:=Tm.fv_len st.2.2;have bm:=Tm.vc_sz st.2.2;have bp:=pA k st.1 st.2.1 l.length;have aa:=Mr (l:=b.fv++(st.2.2.fv++([x]++bdN k st.1 st.2.1 l.length))) (by simp only[oG,oJ,oN];omega);generalize fresh (b.fv++(st.2.2.fv++([x]++bdN k st.1 st.2.1 l.length)))=w at ak aa a3 ⊢;have hw:w∉bdN k st.1 st.2.1 l.length:=λh=>ak (by simp[h]);split
        ·rename_i hq;rw[if_pos hq]at a3;refine⟨ih _ _ _ a2 a1 (UZ aa) a3,aa,λh9=>⟨(a5 h9).1,λJ=>hw ?_⟩,λ_=>rfl⟩;subst h9;have h9:l.length=1:=by rcases uF 9 l.length with h | ⟨_,h,_⟩ | ⟨_,_,h⟩<;>first | exact h | omega
         have J:w=st.2.1:=J;rw[h9,J];simp[bdN]
        ·rename_i hq;rw[if_neg hq]at a3;have h9:k=9:=by
          unfold bdN at ho
          (repeat' split at ho)<;>simp_all
         subst h9;have ah:l.length=1:=by rcases uF 9 l.length with h | ⟨_,h,_⟩ | ⟨_,_,h⟩<;>first | exact h | omega
         refine⟨ih _ _ _ a2 a1 (UZ aa) a3,a4,λ_=>⟨aa,λJ=>hw ?_⟩,λh=>absurd rfl h⟩;have J:st.1=w:=J;rw[ah,<-J];simp[bdN]
       ·exact⟨a1,a4,a5,λ_=>rfl⟩
      have al:∀(os:List aG) (st:aG × aG × Tm),st.2.2.V->(rns (Tm.sub f) k l.length b.fv x os st).2.2.sz<=400->st.2.2.sz<=400:=λos st hv h=>oR (UB (λt x y h=>J1 f t x _ h) _ _ _ _ _ _ hv) h;have fin:(rns (Tm.sub f) k l.length b.fv x (bdN k nm ot l.length) (nm,ot,p)).2.2.ok=true/\yN (rns (Tm.sub f) k l.length b.fv x (bdN k nm ot l.length) (nm,ot,p)).1=true /\
        (k=9->yN (rns (Tm.sub f) k l.length b.fv x (bdN k nm ot l.length) (nm,ot,p)).2.1=true/\(rns (Tm.sub f) k l.length b.fv x (bdN k nm ot l.length) (nm,ot,p)).1≠(rns (Tm.sub f) k l.length b.fv x (bdN k nm ot l.length) (nm,ot,p)).2.1) /\
        (k≠9->(rns (Tm.sub f) k l.length b.fv x (bdN k nm ot l.length) (nm,ot,p)).2.1=ot):=by
       have I:(rns (Tm.sub f) k l.length b.fv x (bdN k nm ot l.length) (nm,ot,p)).2.2.sz<=400:=aA
       have ay:bdN k nm ot l.length=[nm]\/(k=9/\l.length=1/\bdN k nm ot l.length=[nm,ot]):=by
        rcases uF k l.length with h | ⟨_,h,h | h⟩ | ⟨_,h,h'⟩
        ·omega
        ·left;subst h;rw[show l.length=1 from ‹_›];simp[bdN]
        ·right;subst h;rw[show l.length=1 from ‹_›];simp[bdN]
        ·left;subst h';rw[h];simp[bdN]
       rcases ay with e | ⟨ao,ah,e⟩
       ·rw[e]at I ⊢;simp only[rns]at I ⊢;exact r1 nm (nm,ot,p) (by rw[e];simp) (h1 p U) Y I n1 n2
       ·rw[e]at I ⊢;simp only[rns]at I ⊢;have q1:=LJ (tq f) k l.length b.fv x nm (nm,ot,p);have q2:=al [ot] _ (q1.v aj) (by simpa only[rns]using I);obtain⟨b1,b2,b3,b4⟩:=r1 nm (nm,ot,p) (by rw[e];simp) (h1 p U) Y q2 n1 n2;have az:=q1.d;have a6:ot∈bdN k (rn1 (Tm.sub f) k l.length b.fv x nm (nm,ot,p)).1 (rn1 (Tm.sub f) k l.length b.fv x nm (nm,ot,p)).2.1 l.length:=by
         have:(rn1 (Tm.sub f) k l.length b.fv x nm (nm,ot,p)).2.1=ot:=by unfold rn1;simp only[mI];split<;>rfl
         rw[this,ao,ah];simp[bdN]
        obtain⟨d1,d2,d3,d4⟩:=r1 ot _ a6 b1 (oR az Y) I b2 b3;exact⟨d1,d2,d3,λh=>absurd ao h⟩
      obtain⟨fa,a7,fc,fd⟩:=fin;obtain⟨u1,u2⟩:=Sz O h2 a7 fc fd;exact Tm.ok_mk.2 ⟨parts _ 0 (ih _ x b (oR ac Y) fa hb aA) aA,u1,by rw[u2];simpa using h3⟩
theorem Tm.dp_mem (h:y∈l):y.dp+1<=(Tm.mk k nm ot n ty re l).dp:=by
 have:=sg.1 (oC (uh l)) y h
 simp only[Tm.dp];omega
theorem Tm.sz_mem (h:y∈l):y.sz+1<=(Tm.mk k nm ot n ty re l).sz:=by
 have:=vC h
 simp only[Tm.sz];omega
theorem Ud (J:e.ok=true)(O:x.ok=true):(e.wth i x).ok=true:=by
 cases e with
 | mk k nm ot n ty re l=>
 obtain⟨U,Y,h3⟩:=Tm.ok_mk.1 J;refine Tm.ok_mk.2 ⟨λy I=>?_,Y,by simpa using h3⟩;rcases nQ I with I | rfl
 ·exact U y I
 ·exact O
theorem Ue (h:i<l.length):x.sz+1<=((Tm.mk k nm ot n ty re l).wth i x).sz:=by simp only[Tm.wth];exact Tm.sz_mem (oB (nD h))
theorem Ya (I:e.ok=true)(hi:i<e.as.length):(e.pt i).ok=true:=by
 cases e with
 | mk k nm ot n ty re l=>exact(Tm.ok_mk.1 I).1 _ (zO hi)
theorem YF (h:(k=2/\0<=n/\n<=10006)\/(k=3/\0<=n/\n<=1)):(Ry k n).ok=true:=by
 have I:(Ty.mk 0 []).valid=false:=by decide +kernel
 rcases h with⟨rfl,h⟩ | ⟨rfl,h⟩
 ·refine Tm.ok_mk.2 ⟨aB,?_,rfl⟩;simp[zH,qh,I,Ty.zero,Ty.k,Ty.as,inB,zx,h]
 ·refine Tm.ok_mk.2 ⟨aB,?_,rfl⟩;simp[zH,qh,I,Ty.zero,Ty.k,Ty.as,inB,zx,h]
theorem Z8 (h:x.ok=true):(Tm.nod 10 [x]).ok=true:=by
 have I:(Ty.mk 0 []).valid=false:=by decide +kernel
 refine Tm.ok_mk.2 ⟨by simpa using h,?_,rfl⟩;simp[zH,qh,I,Ty.zero,Ty.k,Ty.as,inB,zx]
theorem WJ {x}(I:e.ok=true)(hb:b.ok=true)(h:(e.sb x b).sz<=400):(e.sb x b).ok=true:=XH _ e x b (oC _) I hb h
theorem ZT (O:e.ok=true)(hs:e.apl.1.sz<=400):e.apl.1.ok=true:=by
 cases e with
 | mk k nm ot n ty re l=>
 obtain⟨h1,h2,h3⟩:=Tm.ok_mk.1 O;obtain⟨a1,a2,a3,a4,a5⟩:=wY O;have g:∀ i,i<l.length->(l.getD i tm0).ok=true:=λi hi=>h1 _ (zO hi);simp only[Tm.apl]at hs ⊢;split
 ·rename_i I;unfold Tm.opr;split
  ·refine YF ?_;simp only[Tm.nm];have Y:=Qx nm (l.getD 0 tm0).no (l.getD 1 tm0).no;unfold Iq;by_cases U:M0 nm=true
   ·rw[if_pos U];exact .inl ⟨rfl,Y.1,Y.2⟩
   ·rw[if_neg U];simp only[M0,mB,oh,not_or]at U
    have:=MO U.1 U.2.1 U.2.2 (l.getD 0 tm0).no (l.getD 1 tm0).no
    exact .inr ⟨rfl,this.1,this.2⟩
  ·exact O
 ·rename_i ab;rw[if_neg ab]at hs;split
  ·rename_i I;split
   ·rename_i hb
    have:=On (g 0 (by have:=a3 I;omega)) hb
    refine g _ ?_
    have:=a3 I
    omega
   ·exact O
  ·rename_i ac;rw[if_neg ac]at hs;split
   ·rename_i I;rw[if_pos I]at hs;have hl:=a2 (.inl I);have J:=g 0 aA;have q1:=g 1 aA;generalize l.getD 0 tm0=p at hs J ⊢;generalize l.getD 1 tm0=q at hs q1 ⊢;have hp:(p.kd=6\/p.kd=9)->(p.pt 0).ok=true:=λh=>by
     refine Ya J ?_;cases p with
     | mk pk pn po pm pt pr pl=>
     have:=(wY J).1 (by simp only[Tm.kd]at h;omega)
     simp only[Tm.as];omega
    split
    ·rename_i h6;rw[if_pos h6]at hs;exact WJ (hp (.inl h6)) q1 hs
    ·rename_i h6;rw[if_neg h6]at hs;split
     ·rename_i h9;rw[if_pos h9]at hs;have hV:=Yr (p.pt 0).dp (p.pt 0) p.nm p (ZA _ (hp (.inr h9))) (ZA _ J);have ae:=J1 ((p.pt 0).sb p.nm p).dp ((p.pt 0).sb p.nm p) p.ot q hV;exact WJ (WJ (hp (.inr h9)) J (oR ae hs)) q1 hs
     ·exact O
   ·rename_i ah;rw[if_neg ah]at hs;split
    ·rename_i I;rw[if_pos I]at hs;have hl:=a2 (.inr I);exact WJ (g 1 aA) (g 0 aA) hs
    ·rename_i ai;split
     ·rename_i I;split
      ·rename_i aa;have J:=g 0 (by have:=a1 aA;omega);refine Ya J ?_;generalize l.getD 0 tm0=p at J aa ⊢;cases p with
       | mk pk pn po pm pt pr pl=>
       have:=(wY J).1 (by simp only[Tm.kd]at aa;omega)
       simp only[Tm.as];omega
      ·exact O
     ·split
      ·rename_i I;split
       ·exact Z8 (g 0 (by have:=a1 aA;omega))
       ·exact O
      ·exact O
theorem Zh {S:Tm->Tm × Int}(hS:∀ x:Tm,x.dp<=f->x.ok=true->(S x).1.sz<=400->(S x).1.ok=true):∀(t:Tm)(m:Int),t.dp<=f+1->t.ok=true->(t.cod S m).1.sz<=400->(t.cod S m).1.ok=true:=by
 refine Tm.ind λk nm ot n ty re l ih m hd J hs=>?_;obtain⟨O,Y,h3⟩:=Tm.ok_mk.1 J;simp only[Tm.cod]at hs ⊢;split
 ·rename_i hk;rw[if_pos hk]at hs;have hl:=(wY J).1 aA;unfold Yq at hs ⊢;have U:((Tm.mk k nm ot n ty re l).pt 0).ok=true:=O _ (zO aA);have d0:((Tm.mk k nm ot n ty re l).pt 0).dp<=f:=by
   have:=Tm.dp_mem (k:=k) (nm:=nm) (ot:=ot) (n:=n) (ty:=ty) (re:=re) (zO (l:=l) (i:=0) aA)
   simp only[Tm.pt];omega
  generalize hp:(Tm.mk k nm ot n ty re l).pt 0=p at hs U d0 ⊢;split
  ·split
   ·rename_i aa;refine Ya U ?_;cases p with
    | mk pk pn po pm pt pr pl=>
    have:=(wY U).1 (by simp only[Tm.kd]at aa;omega)
    simp only[Tm.as];omega
   ·exact J
  ·rename_i hr;rw[if_neg hr]at hs
   have:=Ue (k:=k) (nm:=nm) (ot:=ot) (n:=n) (ty:=ty) (re:=re) (l:=l) (i:=0) (x:=(S p).1) aA
   exact Ud J (hS p d0 U (by simp only at hs;omega))
 ·rename_i hk;rw[if_neg hk]at hs
  have key:∀(xs:aP),(∀ x∈xs,x∈l)->∀ l' r,yO S xs (zK k m)=some (l',r)->zQ l'<=400->l'.length=xs.length/\∀ x∈l',x.ok=true:=by
   intro xs
   induction xs with
   | nil=>intro _ l' r h;simp[yO]at h
   | cons x xs ab=>
     intro hm l' r h hs;have I:=hm x aB;simp only[yO]at h;split at h
     ·cases h;simp only[zQ]at hs;refine⟨aB,λy hy=>?_⟩;rcases oK.1 hy with rfl | hy
      ·have ac:=Tm.dp_mem (k:=k) (nm:=nm) (ot:=ot) (n:=n) (ty:=ty) (re:=re) I;exact ih x I _ aA (O x I) aA
      ·exact O y (hm y (by simp[hy]))
     ·split at h
      ·cases h
      ·rename_i l2 r2 Y;cases h;simp only[zQ]at hs;obtain⟨b1,b2⟩:=ab (λy hy=>hm y (by simp[hy])) _ _ Y aA;refine⟨by simp[b1],λy hy=>?_⟩;rcases oK.1 hy with rfl | hy
       ·exact O y I
       ·exact b2 y hy
  cases hc:yO S l (zK k m)with
  | none=>exact J
  | some p=>obtain⟨l',r⟩:=p;rw[hc]at hs;simp only[Tm.sz]at hs;obtain⟨b1,b2⟩:=key l (λx I=>I) l' r hc aA;exact Tm.ok_mk.2 ⟨b2,Y,by rw[b1];exact h3⟩
theorem UO:∀(f:Nat) (e:Tm),e.dp<=f->e.ok=true->(e.stp f).1.sz<=400->(e.stp f).1.ok=true
 | 0,e,h,_,_=>absurd (Tm.dp_pos e) aA
 | f + 1,.mk k nm ot n ty re l,hd,I,hs=>by
   have ih:=UO f;obtain⟨h1,h2,h3⟩:=Tm.ok_mk.1 I;simp only[Tm.stp]at hs ⊢;split
   ·exact I
   ·rename_i hr;rw[if_neg hr]at hs;split
    ·rename_i J;rw[if_pos J]at hs;have J:k=10:=J;have hl:=(wY I).1 aA;have O:=zO (l:=l) (i:=0) aA;have aa:=Tm.dp_mem (k:=k) (nm:=nm) (ot:=ot) (n:=n) (ty:=ty) (re:=re) O
     have:=Ue (k:=k) (nm:=nm) (ot:=ot) (n:=n) (ty:=ty) (re:=re) (l:=l) (i:=0) (x:=(Tm.cod (Tm.stp f) ((Tm.mk k nm ot n ty re l).pt 0) 1).1) aA
     exact Ud I (Zh ih _ 1 (by simp only[Tm.pt];omega) (h1 _ O) (by simp only at hs;omega))
    ·rename_i J;rw[if_neg J]at hs;cases hg:goS (Tm.stp f) (Tm.mk k nm ot n ty re l) (l.take (Bk k l.length)) 0 with
     | none=>rw[hg]at hs;exact ZT I hs
     | some r=>
       rw[hg]at hs;obtain⟨j,x,Y,g2,rfl⟩:=GE hg;have U:l[j]?=some x:=by
        rw[om]at Y;split at Y
        ·exact Y
        ·cases Y
       have O:=oB U;have aa:=Tm.dp_mem (k:=k) (nm:=nm) (ot:=ot) (n:=n) (ty:=ty) (re:=re) O;simp only[nI]at hs ⊢
       have:=Ue (k:=k) (nm:=nm) (ot:=ot) (n:=n) (ty:=ty) (re:=re) (l:=l) (i:=j) (x:=(Tm.stp f x).1) (oD.1 U).1
       exact Ud I (ih x aA (h1 x O) aA)
theorem Ho {g}:∀ {l:aP},(∀ t∈l,(g t).sz<=t.sz*m)->zQ (l.map g)<=zQ l*m
 | [],_=>by simp[zQ]
 | t::l,h=>by have J:=Ho (l:=l) λx I=>h x (by simp[I]);have O:=h t aB;simp only[o9,zQ,nJ];omega
theorem ER {g v}:∀ {l:aP}{j:Nat},(∀ t∈l,(g t).sz<=t.sz*m)->(∀ t,l[j]?=some t->v.sz<=t.sz*m)->zQ ((l.map g).set j v)<=zQ l*m
 | [],_,_,_=>by simp[zQ]
 | t::l,0,h,J=>by have O:=Ho (l:=l) λx I=>h x (by simp[I]);have U:=J t rfl;simp only[o9,mf,zQ,nJ];omega
 | t::l,j+1,h,J=>by have O:=ER (l:=l) (j:=j) (v:=v) (λx I=>h x (by simp[I])) λx I=>J x (by simpa using I);have U:=h t aB;simp only[o9,mw,zQ,nJ];omega
theorem US:∀(f:Nat)(t:Tm)(x:aG)(b:Tm),(t.sub f x b).sz<=t.sz*(b.sz+1)
 | 0,t,x,b=>by simp only[Tm.sub];exact lJ _ aA
 | f + 1,.mk k nm ot n ty re l,x,b=>by
   have J:=US f;have one:∀ m:Nat,m<=zQ l*(b.sz+1)->1+m<=(1+zQ l)*(b.sz+1):=λm h=>by rw[nJ];omega
   simp only[Tm.sub];split
   ·split
    ·simp only[Tm.sz];rw[nJ];omega
    ·exact lJ _ aA
   ·split
    ·simp only[Tm.sz];exact one _ (Ho λt _=>J t x b)
    ·rename_i O;obtain⟨U,Y⟩:=wO O;split
     ·simp only[Tm.sz];refine one _ (ER (λt _=>J t x b) λt I=>?_);rw[zh U]at I;rw[<-oZ I];exact lJ _ aA
     ·simp only[Tm.sz];refine one _ (ER (λt _=>J t x b) λt I=>?_);rw[zh U]at I;rw[<-oZ I];exact oR (J _ x b) (ol _ (AG (tq f) _ _ _ _ _ _).s)
theorem DA {x}:∀ {l:aP}{i:Nat},i<l.length->zQ (l.set i x)+(l.getD i tm0).sz=zQ l+x.sz
 | t::l,0,_=>by simp only[mf,zQ,mL];omega
 | t::l,i+1,h=>by
   have:=DA (x:=x) (l:=l) (i:=i) (by simpa using h)
   simp only[mw,zQ,mr];omega
theorem RY:(e.pt i).sz<=e.sz:=by
 cases e with
 | mk k nm ot n ty re l=>
 simp only[Tm.pt];by_cases h:i<l.length
 ·have:=Tm.sz_mem (k:=k) (nm:=nm) (ot:=ot) (n:=n) (ty:=ty) (re:=re) (zO h);omega
 ·rw[oA,oc aA];simp only[Option.getD_none,tm0,Tm.sz,zQ];omega
theorem ZU (e:Tm)(h:e.sz<=400):e.apl.1.sz<=e.sz+64481600:=by
 have I:∀(t b:Tm) (x:aG) (m:Nat),t.sz<=m->b.sz<=400->(t.sb x b).sz<=m*401:=λt b x m U h2=>oR (US _ t x b) (Nat.mul_le_mul U aA);cases e with
 | mk k nm ot n ty re l=>
 have g:∀ i,(l.getD i tm0).sz<=400:=λi=>oR (RY (e:=.mk k nm ot n ty re l)) h;have Y:∀ i j,((l.getD i tm0).pt j).sz<=400:=λi j=>oR RY (g i);have g0:=g 0;have O:=g 1;have J:=Y 0 0;simp only[Tm.apl,Tm.opr];have k1:=I ((l.getD 0 tm0).pt 0) (l.getD 1 tm0) (l.getD 0 tm0).nm 400 J O;have k2:=I ((l.getD 0 tm0).pt 0) (l.getD 0 tm0) (l.getD 0 tm0).nm 400 J g0;have k3:=I _ (l.getD 1 tm0) (l.getD 0 tm0).ot _ k2 O;have k4:=I (l.getD 1 tm0) (l.getD 0 tm0) nm 400 O g0;have k5:=g (2 - (l.getD 0 tm0).no).toNat
 (repeat' split)<;>first | (simp only;omega) | (simp only[Ry,Tm.nod,Tm.sz,zQ];omega)
theorem Zi {S:Tm->Tm × Int}(Y:∀ x:Tm,x.sz<=400->(S x).1.sz<=x.sz+64481600):∀(t:Tm)(m:Int),t.sz<=400->(t.cod S m).1.sz<=t.sz+64481600:=by
 refine Tm.ind λk nm ot n ty re l ih m hs=>?_;simp only[Tm.cod];split
 ·unfold Yq;split
  ·split
   ·have h1:=RY (e:=(Tm.mk k nm ot n ty re l).pt 0) (i:=0);have I:=RY (e:=Tm.mk k nm ot n ty re l) (i:=0);simp only;omega
   ·simp only;omega
  ·have I:=RY (e:=Tm.mk k nm ot n ty re l) (i:=0);have h3:=Y _ (oR I hs);simp only[Tm.wth,Tm.pt]at h3 ⊢;by_cases h:0<l.length
   ·have:=DA (x:=(S (l.getD 0 tm0)).1) h
    simp only[Tm.sz]at hs ⊢;omega
   ·rw[lF aA];omega
 ·have key:∀(xs:aP),(∀ x∈xs,x∈l)->∀ l' r,yO S xs (zK k m)=some (l',r)->zQ l'<=zQ xs+64481600:=by
   intro xs
   induction xs with
   | nil=>intro _ l' r h;simp[yO]at h
   | cons x xs O=>
     intro U l' r h;have J:=U x aB;simp only[yO]at h;split at h
     ·cases h
      have:=ih x J (zK k m) (by have:=Tm.sz_mem (k:=k) (nm:=nm) (ot:=ot) (n:=n) (ty:=ty) (re:=re) J;omega)
      simp only[zQ];omega
     ·split at h
      ·cases h
      ·rename_i l2 r2 I;cases h
       have:=O (λy hy=>U y (by simp[hy])) _ _ I
       simp only[zQ];omega
  cases hc:yO S l (zK k m)with
  | none=>simp only;omega
  | some p=>
    obtain⟨l',r⟩:=p
    have:=key l (λx J=>J) l' r hc
    simp only[Tm.sz];omega
theorem XF:∀(f:Nat) (e:Tm),e.sz<=400->(e.stp f).1.sz<=e.sz+64481600
 | 0,e,_=>by simp only[Tm.stp];omega
 | f + 1,.mk k nm ot n ty re l,hs=>by
   have O:=XF f;simp only[Tm.stp];split
   ·simp only;omega
   ·by_cases U:(Tm.mk k nm ot n ty re l).kd=10
    ·rw[if_pos U];have h2:=RY (e:=Tm.mk k nm ot n ty re l) (i:=0);have Y:=Zi O ((Tm.mk k nm ot n ty re l).pt 0) 1 (oR h2 hs);simp only[Tm.wth,Tm.pt]at Y ⊢;by_cases h:0<l.length
     ·have:=DA (x:=((l.getD 0 tm0).cod (Tm.stp f) 1).1) h
      simp only[Tm.sz]at hs ⊢;omega
     ·rw[lF aA];omega
    ·rw [if_neg U];cases hg:goS (Tm.stp f) (Tm.mk k nm ot n ty re l) (l.take (Bk k l.length)) 0 with
     | none=>exact ZU _ hs
     | some r=>
       obtain⟨j,x,J,g2,rfl⟩:=GE hg;have I:l[j]?=some x:=by
        rw[om]at J;split at J
        ·exact J
        ·cases J
       have hj:=(oD.1 I).1;have Y:=O x (by have:=Tm.sz_mem (k:=k) (nm:=nm) (ot:=ot) (n:=n) (ty:=ty) (re:=re) (oB I);omega);have h4:=DA (x:=(Tm.stp f x).1) hj;have h5:l.getD j tm0=x:=by rw[oA,I];rfl
       rw[h5]at h4;simp only[nI,Tm.wth,Tm.sz]at hs ⊢;omega
def OC:Nat->Nat->Tm->(Int × Tm × Nat) × List Int
 | 0,n,x=>if x.sz>400 then((3,tm0,n),[])else if x.res then((1,x,n),[])else((2,x,n),[])
 | m+1,n,x=>if x.sz>400 then((3,tm0,n),[])else if x.res then((1,x,n),[])else if(x.stp x.dp).2=0 then((4,x,n),[])
   else((OC m (n+1) (x.stp x.dp).1).1,(x.stp x.dp).2::(OC m (n+1) (x.stp x.dp).1).2)
def xF (e:Tm)(I:Int):Int × Tm × Nat:=if(ut e 0&&inB I 0 200)=true then(OC I.toNat 0 e).1 else(0,tm0,0)
theorem UE:∀(m n:Nat)(x:Tm),n<=(OC m n x).1.2.2/\(OC m n x).1.2.2<=n+m
 | 0,n,x=>by simp only[OC];(repeat' split)<;>simp
 | m+1,n,x=>by
   have:=UE m (n+1) (x.stp x.dp).1
   simp only[OC];(repeat' split)<;>simp<;>omega
theorem zBw {x g}(I:e.F f)(hb:b.F g):(e.sb x b).Z:=by have J:=XI e.dp e x b (oC _) (zBM _ I.ok);have O:=I.w;have U:=hb.w;have Y:=b.fv_wd;exact⟨WM _ _ _ _ I.g hb.g,by unfold Tm.sb;omega,Yr _ _ _ _ I.z.v hb.z.v⟩
theorem GA (J:e.Is d)(hb:b.Is I) x(O:e.Z)(U:b.Z):XR 158 [.dg 9 d,.str x,.dg 9 I] (e.sb x b):=JT e.dp e d x b I J hb (oC _) O U
def XD (f:Nat):Tm->Nat->Tm × Int
 | .mk k nm ot n ty re l,m=>match goS (Tm.stp f) (.mk k nm ot n ty re l) (l.take m) 0 with
   | some r=>r
   | none=>(Tm.mk k nm ot n ty re l).apl
theorem U4 (hS:We 48 f)(hd:(Tm.mk 7 nm ot n0 ty re l).Is d)(hF:(Tm.mk 7 nm ot n0 ty re l).F (f+1)):
  Qv 93 [.dg 9 d] (XD f (Tm.mk 7 nm ot n0 ty re l) l.length):=λN Q hQ=>by
 have ai:=hd;obtain⟨t0,t1,r0,r1,a,es,c,rfl,hh,aj,Y⟩:=Tm.is_mk.1 hd;have hl:=Y.len;have ba:=(wY hF.ok).2.1 (.inl rfl);simp only[XD,List.take_length]at hQ;have e2:(es.length:Int)=2:=aA
 refine Ln N _ Q λ_=>⟨_,_,_,rfl,⟨aA,aA⟩,?_⟩
 refine up Y aj (λi xs=>∀ N',N<=N'->(∀ r:Tm × Int,(match goS (Tm.stp f) (Tm.mk 7 nm ot n0 ty re l) xs i with | some r=>r | none=>(Tm.mk 7 nm ot n0 ty re l).apl)=r->∀ d N'',N<=N''->r.1.Is d->Q d r.2 N'') ->
  vO Q N i (.ag [.j 7,.t nm,.t ot,.j n0,t0,t1,r0,r1,.sl a 9 es c]) 0 (bytes []) (bytes []) 0 0 none [] 0 0 none [] 0 none [] 0 (List.getD es 0 default) N') ?_ ?_ N (oC _) (λr I d N'' h1 h2=>by rw[<-I];rw[<-I]at h2;exact hQ d N'' h1 h2)
 ·intro i aa hi N' ao I;have I:=I _ rfl;simp only[goS,Tm.apl]at I;rw[if_neg aD,if_neg aD,if_pos trivial]at I;refine pV ?_;rw[<-e2,aa];have ab:=yi Y (j:=0) aA;have ac:=yi Y (j:=1) aA;have O:=hF.mem _ (zO (l:=l) (i:=0) aA);have ae:=hF.mem _ (zO (l:=l) (i:=1) aA);generalize l.getD 0 tm0=p at ab O I;generalize l.getD 1 tm0=q at ac ae I;have ak:=ab;cases p with
  | mk pk pn po pm pt pr pl=>
  obtain⟨u0,u1,v0,v1,a2,bb,c2,heq,bc,aq,U⟩:=Tm.is_mk.1 ab;have bg:=U.len;rw[heq]at ak ⊢;have one:(pk=6\/pk=9)->pl.length=1:=λh=>(wY O.ok).1 aA;have ah:pl.length=1->(pl.getD 0 tm0).F f:=λh=>((O.up (g:=f+1) aA).mem _ (zO (l:=pl) (i:=0) aA))
  refine⟨_,rfl,Br.beq (λh6=>?_) λh6=>Br.beq (λh9=>?_) λh9 bh ay=>?_⟩
  ·have h1:=one (.inl h6);rw[if_pos (show(Tm.mk pk pn po pm pt pr pl).kd=6 from h6)]at I;refine⟨_,_,_,rfl,⟨aA,aA⟩,_,rfl,_,_,_,rfl,⟨aA,aA⟩,λN6 bi=>?_⟩;exact GA (yi U (j:=0) aA) ac pn (ah h1).z ae.z N6 _ λdx N7 bj hx _ _ _ N8 bm=>I _ _ aA hx
  ·have h1:=one (.inr h9);rw[if_neg (show ¬(Tm.mk pk pn po pm pt pr pl).kd=6 from h6),if_pos (show(Tm.mk pk pn po pm pt pr pl).kd=9 from h9)]at I;refine⟨_,_,_,rfl,⟨aA,aA⟩,_,rfl,_,rfl,_,_,_,rfl,⟨aA,aA⟩,λN9 bp=>?_⟩;refine GA (yi U (j:=0) aA) ak pn (ah h1).z O.z N9 _ λdx bq az hx _ _ _ au a6=>?_;exact GA hx ac po (zBw (ah h1) O) ae.z au _ λdy bt a7 hy _ _ _ bv a8=>I _ _ aA hy
  ·rw[if_neg (show ¬(Tm.mk pk pn po pm pt pr pl).kd=6 from h6),if_neg (show ¬(Tm.mk pk pn po pm pt pr pl).kd=9 from h9)]at I;exact I _ _ aA ai
 ·intro i x xs J bw aw N' ao I;have hb:=J.b;have ax:i<l.length:=(oD.1 J.g).1;obtain rfl:l.getD i tm0=x:=by rw[oA,J.g];rfl
  have al:=hF.mem _ J.m;have aa:=J.lt;rw[e2]at aa;refine pV ?_;rw[aa,oI,J.w];refine⟨_,_,_,rfl,⟨aA,aA⟩,λN1 bz=>zu J.r al.ok al.dp N1 _ λN2 b3 _=>Br.not (λhv N3 b7=>?_) λhv=>?_⟩
  ·have I:=I _ rfl;simp only[goS]at I;rw[if_neg (by rw[hv];decide)]at I;exact Kg hS ai hF ax N3 _ λdx N4 b8 hx _ _ N5 b9=>I _ _ aA hx
  ·rw[GD hv]at I;exact aw _ aA I
theorem WO (h:0<l.length):l.take 1=[l.getD 0 tm0]:=by
 cases l with
 | nil=>simp at h
 | cons x xs=>rfl
theorem TP (h:(Tm.mk k nm ot n ty re l).ok=true)(U:k=2\/k=3):(Tm.mk k nm ot n ty re l).cnt<=1073741824:=by
 have nd:=yn h;have Y:=(wY h).2.2.2.1 (.inr U);have:l=[]:=oV Y;subst this;have O:∀ t:Ty,t.zero=true->t.cnt<=30:=λt J=>by
  cases t with
  | mk k l=>
  simp only[Ty.zero,Ty.k,Ty.as,oL,mG]at J;have:l=[]:=oV aA;subst this;simp[Ty.cnt,zI]
 have v1:∀ t:Ty,t.valid=true->t.cnt<=30:=λt J=>Ty.valid_cnt J;have I:=nd.f;simp only[zH,oL,mG,mB]at I;have aa:ty.cnt<=30:=by
  rcases I.2.1 with h | h
  ·exact v1 _ (by rw[<-I.1,h])
  ·exact O _ h
 have ab:re.cnt<=30:=by
  rcases I.2.2.2.1 with h | h
  ·exact v1 _ (by rw[<-I.2.2.1];simpa using h)
  ·exact O _ h
 simp only[Tm.cnt,xC];omega
theorem ST k{p}(h:p.Is d)(hc:p.cnt<=1073741824) a N(Q:QT [.ag 9])(I:∀ d' N',N<=N'->(Tm.nod k [p]).Is d'->Own N N' d'->Q d' N'):
 ACalls prog 141 [.ag 9] [.j k,.sv a 9 [d] 1] N Q:=F9 k (l:=[p]) (es:=[d]) ⟨d,[],rfl,h,rfl⟩ aB (by simpa using hc) a 1 N Q I
theorem F7 (hS:We 48 f)(hk:k=5\/k=8\/k=12\/k=13)(hd:(Tm.mk k nm ot n0 ty re l).Is d)(hF:(Tm.mk k nm ot n0 ty re l).F (f+1)):
  Qv 96 [.dg 9 d] (XD f (Tm.mk k nm ot n0 ty re l) 1):=λN Q I=>by
 have aa:=hd;obtain⟨t0,t1,r0,r1,a,es,c,rfl,hh,bc,ab⟩:=Tm.is_mk.1 hd;have hl:=ab.len;have ac:0<l.length:=by
  obtain⟨a1,a2,a3,_⟩:=wY hF.ok;rcases hk with h | h | h | h
  ·have:=a3 h;omega
  ·have:=a2 (.inr h);omega
  ·have:=a1 aA;omega
  ·have:=a1 aA;omega
 have ae:=yi ab ac;have J:=hF.mem _ (zO ac);simp only[XD]at I;rw[WO ac]at I;simp only[goS]at I;refine Lo N _ Q λ_=>⟨_,_,_,rfl,⟨aA,aA⟩,λN1 bh=>zu ae J.ok J.dp N1 _ λN2 bi _=>Br.not (λhv N3 bj=>?_) λhv=>?_⟩
 ·rw[if_neg (by rw[hv];decide)]at I;exact Kg hS aa hF ac N3 _ λdx N4 ax hx _ _ N5 ay=>I _ _ aA hx
 rw[if_pos hv]at I;simp only[Tm.apl]at I;generalize bm:l.getD 0 tm0=p at ae J hv I;have ai:=ae;have ao:=λh=>On J.ok h;cases p with
 | mk pk O U pm pt pr Y=>
 obtain⟨u0,u1,v0,v1,a2,az,c2,heq,bp,a7,ah⟩:=Tm.is_mk.1 ae;have bq:=ah.len;simp only[Tm.kd,Tm.no]at ao;rw[heq]at ai ⊢;have lift:∀(N:Nat) (a:aH) (N':Nat) (hN:N2<=N) (_:xj N [a]) (_:(Tm.mk pk O U pm pt pr Y).cnt<=1073741824),(∀ d N',N2<=N'->(Tm.nod 10 [Tm.mk pk O U pm pt pr Y]).Is d->Q d 8 N') ->
   ACalls prog 141 [.ag 9] [.j 10,.sv a 9 [.ag [.j pk,.t O,.t U,.j pm,u0,u1,v0,v1,.sl a2 9 az c2]] 1] N (λx N7=>N<=N7->Off [a] x/\(Bel N7 x->∀ N8,N7<=N8->Q x 8 N8)):=λN3 a N' hN hb a8 hq=>
  ST 10 ai a8 a N3 _ λdx N4 ax hx ho _=>⟨xk hb ho,λ_ N5 ay=>hq _ _ aA hx⟩
 rcases hk with rfl | rfl | rfl | rfl
 ·have bt:=(wY hF.ok).2.2.1 rfl;rw[if_neg aD,if_pos rfl]at I;refine⟨_,rfl,Br.beq (λ_=>⟨_,rfl,Br.beq (λh3=>?_) λh3=>?_⟩) (λh=>absurd rfl h)⟩
  ·have hn:=ao h3;rw[if_pos (show(Tm.mk pk O U pm pt pr Y).kd=3 from h3)]at I;have hw:IntKind.i64.wrap (2 - pm)=2 - pm:=i64_in _ aA;refine⟨_,_,_,rfl,_,rfl,?_⟩;rw[hw];refine⟨⟨aA,aA⟩,λN6 aq=>?_⟩;refine Ma pC (yi ab (j:=(2 - pm).toNat) aA) (z8 hF.z.g.2.2.2 (zO aA)) (N0:=N) aA (λd N=>Q d 2 N) λd' N7 au aj _=>I _ _ aA aj
  ·rw[if_neg (show ¬(Tm.mk pk O U pm pt pr Y).kd=3 from h3)]at I
   repeat' first | refine⟨_,rfl,?_⟩ | refine Br.beq (λh=>absurd h aD) λ_=>?_
   all_goals exact λN hN=>I _ _ aA aa
 ·have bv:=(wY hF.ok).2.1 (.inr rfl);rw[if_neg aD,if_neg aD,if_neg aD,if_pos rfl]at I;have ba:=hF.mem _ (zO (l:=l) (i:=1) aA);have bb:=yi ab (j:=1) aA
  repeat' first | refine⟨_,rfl,?_⟩ | refine Br.beq (λh=>absurd h aD) λ_=>?_ | refine Br.beq (λ_=>?_) (λh=>absurd rfl h)
  all_goals
   refine⟨_,_,_,rfl,⟨aA,aA⟩,_,rfl,λN6 aq=>?_⟩;exact GA bb ai nm ba.z J.z N6 _ λdx N7 au hx _ _ _ N8 bw=>I _ _ aA hx
 ·rw[if_neg aD,if_neg aD,if_neg aD,if_neg aD,if_pos rfl]at I
  repeat' first | refine⟨_,rfl,?_⟩ | refine Br.beq (λh=>absurd h aD) λ_=>?_ | refine Br.beq (λ_=>?_) (λh=>absurd rfl h)
  all_goals
   refine Br.beq (λak=>?_) λak=>?_
   ·rw[if_pos (show(Tm.mk pk O U pm pt pr Y).kd=10 from ak)]at I;have h1:=(wY J.ok).1 aA;refine⟨_,_,_,rfl,⟨aA,aA⟩,λN6 aq=>?_⟩;refine Ma pC (yi ah (j:=0) aA) (z8 J.z.g.2.2.2 (zO aA)) (N0:=N) aA (λd N=>Q d 7 N) λd' N7 au aj _=>I _ _ aA aj
   ·rw[if_neg (show ¬(Tm.mk pk O U pm pt pr Y).kd=10 from ak)]at I
    repeat' first | refine⟨_,rfl,?_⟩ | refine Br.beq (λh=>absurd h aD) λ_=>?_
    all_goals exact λN hN=>I _ _ aA aa
 ·rw[if_neg aD,if_neg aD,if_neg aD,if_neg aD,if_neg aD,if_pos rfl]at I
  repeat' first | refine⟨_,rfl,?_⟩ | refine Br.beq (λh=>absurd h aD) λ_=>?_ | refine Br.beq (λ_=>?_) (λh=>absurd rfl h)
  all_goals
   refine Br.beq (λh2=>⟨⟨rfl,rfl⟩,λa6 _ al aw hb=>?_⟩) λh2=>⟨_,rfl,Br.beq (λh3=>⟨⟨rfl,rfl⟩,λa6 _ al aw hb=>?_⟩) λh3 bz bg=>?_⟩
   ·rw[if_pos (show(Tm.mk pk O U pm pt pr Y).kd=2\/(Tm.mk pk O U pm pt pr Y).kd=3 from .inl h2)]at I;exact lift al a6 0 aA hb (TP J.ok (.inl h2)) λd N' h1 h2=>I _ _ aA h2
   ·rw[if_pos (show(Tm.mk pk O U pm pt pr Y).kd=2\/(Tm.mk pk O U pm pt pr Y).kd=3 from .inr h3)]at I;exact lift al a6 0 aA hb (TP J.ok (.inr h3)) λd N' h1 h2=>I _ _ aA h2
   ·rw[if_neg (show ¬((Tm.mk pk O U pm pt pr Y).kd=2\/(Tm.mk pk O U pm pt pr Y).kd=3)from λh=>h.elim h2 h3)]at I;exact I _ _ aA aa
theorem Gn:∀ f,We 48 f
 | 0=>λe d _ U=>absurd (Tm.dp_pos e) (by have:=U.d;omega)
 | f+1=>λe d hd U N Q hQ=>by
   have ih:=Gn f;cases e with
   | mk k nm ot n0 ty re l=>
   have I:=hd;obtain⟨t0,t1,r0,r1,a,es,c,rfl,hh,ao,ah⟩:=Tm.is_mk.1 hd;have hl:=ah.len;simp only[Tm.stp]at hQ;refine JE N _ Q λ_ N1 az=>zu I U.ok U.dp N1 _ λN2 a6 _=>Br.of (λhv N3 a7=>?_) λhv=>⟨_,rfl,?_⟩
   ·rw[if_pos hv]at hQ;exact hQ _ _ aA I
   rw[if_neg (by rw[hv];decide)]at hQ;have other:k≠10->∀ m,Bk k l.length=m->∀ d N',N<=N'->(XD f (Tm.mk k nm ot n0 ty re l) m).1.Is d->Q d (XD f (Tm.mk k nm ot n0 ty re l) m).2 N':=λhk m hm=>by rw[if_neg (show ¬(Tm.mk k nm ot n0 ty re l).kd=10 from hk),hm]at hQ;exact hQ
   refine Br.beq (λh4 N4 Y=>?_) λh4=>Br.beq (λh7 N4 Y=>?_) λh7=>Br.beq (λO=>?_) λO=>Br.beq (λh5 N4 Y=>?_) λh5=>Br.beq (λh8 N4 Y=>?_) λh8=>Br.beq (λaa N4 Y=>?_) λaa=>Br.beq (λab N4 Y=>?_) λab N4 Y=>?_
   ·subst h4;have J:=other aD l.length (by simp[Bk]);simp only[XD,List.take_length,Tm.apl,mI]at J;exact Xg ih I U rfl N4 _ λx N5 ac hx _ _ N6 ae=>J _ _ aA hx
   ·subst h7;have J:=other aD l.length (by simp[Bk]);exact U4 ih I U N4 _ λx N5 ac hx _ _ N6 ae=>J _ _ aA hx
   ·rw[if_pos (by exact O)]at hQ;have a8:=(wY U.ok).1 aA;have ai:=zO (l:=l) (i:=0) aA;refine⟨_,_,_,rfl,⟨aA,aA⟩,λaj aq=>?_⟩;have ba:=dp_mem (k:=k) (nm:=nm) (ot:=ot) (n:=n0) (ty:=ty) (re:=re) ai;have bb:=U.dp;refine SQ ih _ _ (yi ah (j:=0) aA) ((U.mem _ ai).up aA) 1 (by unfold LvIn;omega) aj _ λdx bc au hx _ _ ak aw=>?_;exact Gp I U.z.g hx (i:=0) (by simp only[Tm.as];omega) ak _ λd' bg ax al _ _ bh ay=>hQ _ _ aA al
   ·have J:=other O 1 (by simp[Bk,h4,h7,h5]);exact F7 ih (.inl h5) I U N4 _ λx N5 ac hx _ _ N6 ae=>J _ _ aA hx
   ·have J:=other O 1 (by simp[Bk,h4,h7,h8]);exact F7 ih (.inr (.inl h8)) I U N4 _ λx N5 ac hx _ _ N6 ae=>J _ _ aA hx
   ·have J:=other O 1 (by simp[Bk,h4,h7,aa]);exact F7 ih (.inr (.inr (.inl aa))) I U N4 _ λx N5 ac hx _ _ N6 ae=>J _ _ aA hx
   ·have J:=other O 1 (by simp[Bk,h4,h7,ab]);exact F7 ih (.inr (.inr (.inr ab))) I U N4 _ λx N5 ac hx _ _ N6 ae=>J _ _ aA hx
   ·have J:=other O 0 (by simp[Bk,h4,h7,h5,h8,aa,ab]);simp only[XD,lA,goS,Tm.apl]at J;rw[if_neg h4,if_neg h5,if_neg h7,if_neg h8,if_neg aa,if_neg ab]at J;exact J _ _ aA I
theorem NP:tm0.Is (.ag [.j 0,.t (bytes []),.t (bytes []),.j 0,.j 0,.sl none 2 [] 0,.j 0,.sl none 2 [] 0,.sl none 9 [] 0]):=
 Tm.is_mk.2 ⟨_,_,_,_,_,_,_,rfl,⟨aD,aD,wB _,wB _⟩,aB,rfl⟩
theorem QB (h:0<rj s):s=bytes [43]\/s=bytes [45]\/s=bytes [42]\/s=bytes [61]\/s=bytes [60]\/s=bytes [38]\/s=bytes [124]\/s=bytes [33]:=by
 unfold rj at h
 (repeat' split at h)<;>first | exact absurd h aD | simp[*]
theorem Qy (h:0<rj s){a b}(I:0<=a/\a<=10006)(hb:0<=b/\b<=10006):(yD s a b).2=true:=by
 have:=QB h
 unfold yD;rw[if_pos (yE.2 I),if_pos (yE.2 hb)]
 (repeat' split)<;>first | rfl | (rcases this with h | h | h | h | h | h | h | h<;>contradiction)
def pN (s:aG):Bool:=uW s||(decide (s=bytes [61])||decide (s=bytes [60]))
theorem S8 (h:0<rj s):Iq s=if pN s then 3 else 2:=by rcases QB h with h | h | h | h | h | h | h | h<;>subst h<;>decide +kernel
theorem JS s:uE 251 [.str s] (uW s):=λN Q J=>H8 N s Q (Br.str (λe1 N1 I=>Qb (J _ I) (by simp[uW,e1])) λe1=>Br.str (λO N1 I=>Qb (J _ I) (by simp[uW,O])) λO N1 I=>Qb (J _ I) (by simp[uW,e1,O,xa]))
theorem ON s:uE 253 [.str s] (pN s):=λN Q J=>Fg N s Q λN1 O=>JS s N1 _ λN2 U _=>Br.of (λe0 N3 I=>Qb (J _ aA) (by simp[pN,e0])) λe0=>Br.str (λe1 N3 I=>Qb (J _ aA) (by simp[pN,e1])) λe1 N3 I=>Qb (J _ aA) (by simp[pN,e0,e1,xa])
theorem Sa n b N(Q:QT [.ag 9])(J:∀ d N',N<=N'->(Ry (if b then 3 else 2) n).Is d->Q d N'):ACalls prog 105 [.ag 9] [.j n,.bool b] N Q:=by refine s9 N n b Q (Br.of (λh N1 I=>J _ _ I (by rw[h];exact K6)) λh N2 O=>E8 N2 n _ λN3 U _ _ N4 Y=>J _ _ aA (by rw[h];exact K6))
def Uj f args(r:Tm × Bool):=∀(N:Nat) (Q:QT [.ag 9,.bool]),(∀ d N',N<=N'->r.1.Is d->Q d r.2 N')->ACalls prog f [.ag 9,.bool] args N Q
theorem zBN (h:(Tm.mk 4 nm ot n0 ty re l).ok=true):0<rj nm:=by
 simp only[Tm.ok,oL,zH,zx]at h
 have:=h.2.1.2.2.2.2.2
 rw[if_pos trivial,oL]at this;simpa using this.1
theorem TQ (h:e.ok=true)(I:e.kd=2\/e.kd=3):0<=e.no/\e.no<=10006:=by
 cases e with
 | mk k nm ot n ty re l=>
 simp only[Tm.kd]at I;simp only[Tm.ok,oL,zH,inB]at h;simp only[Tm.no];rcases I with rfl | rfl
 ·have:=h.2.1.2.2.2.2.1
  simp at this;omega
 ·have:=h.2.1.2.2.2.2.1
  simp at this;omega
theorem M5 s:yU s=2\/yU s=3:=by unfold yU;split<;>simp
def Vt (nm:aG)(l:aP):Tm × Bool:=if l.all (λx=>x.kd==yU nm)then(Ry (Iq nm) (yD nm (l.getD 0 tm0).no (l.getD 1 tm0).no).1,true)else(tm0,false)
theorem Q7 (hd:(Tm.mk 4 nm ot n0 ty re l).Is d)(aa:0<rj nm)(ae:l.length<=2)(ah:∀ x∈l,x.kd=2\/x.kd=3->0<=x.no/\x.no<=10006):Uj 231 [.dg 9 d] (Vt nm l):=λN Q hQ=>by
 obtain⟨t0,t1,r0,r1,a,es,c,rfl,hh,ab,ac⟩:=Tm.is_mk.1 hd;have hl:=ac.len;have loop:∀ N',N<=N'->yp Q N (yU nm) 2 2 a es c es.length 0 (.ag [.j 4,.t nm,.t ot,.j n0,t0,t1,r0,r1,.sl a 9 es c]) 0 (bytes []) (bytes []) 0 0 none [] 0 0 none [] 0 none [] 0 [.j 0,.j 0] 2 N':=λN' J=>by
  refine up ac ab (λi xs=>∀ N',N<=N'->(∀ j x,j<i->l[j]?=some x->x.kd=yU nm)->yp Q N (yU nm) 2 2 a es c es.length i (.ag [.j 4,.t nm,.t ot,.j n0,t0,t1,r0,r1,.sl a 9 es c]) 0 (bytes []) (bytes []) 0 0 none [] 0 0 none [] 0 none [] 0 (Ip l i) 2 N') ?_ ?_ N' J (λj x h=>absurd h aA)
  ·intro i ai hi N' J hk;have O:∀ x∈l,x.kd=yU nm:=λx U=>by obtain⟨j,hj⟩:=oS.1 U;exact hk j x (by have:=(oD.1 hj).1;omega) hj
   have aj:i=l.length:=aA
   have hr:∀ j,0<=(l.getD j tm0).no/\(l.getD j tm0).no<=10006:=λj=>by
    by_cases hj:j<l.length
    ·have hm:=zO hj;refine ah _ hm ?_;rw[O _ hm];exact M5 nm
    ·rw[GC aA];decide
   have hq:Vt nm l=(Ry (Iq nm) (yD nm (l.getD 0 tm0).no (l.getD 1 tm0).no).1,true):=by unfold Vt;rw[if_pos (ob.2 λx U=>by rw[O x U];exact beq_self_eq_true _)]
   rw[hq]at hQ;refine qW ?_;rw[ai,aj,P7 ae];refine⟨_,rfl,⟨⟨aA,aA,aB⟩,aB,_,rfl,⟨aA,aA,aB⟩,aB,_,rfl,λN2 ak=>IY _ _ _ N2 _ λN3 az _=>⟨_,rfl,λN4 a6=>ON _ N4 _ λN5 a7 _ N6 a8=>Sa _ _ N6 _ λx N7 ba U _ _ N8 bb=>?_⟩⟩⟩;rw[Qy aa (hr 0) (hr 1)];rw[<-S8 aa]at U;exact hQ _ _ aA U
  ·intro i x xs I bc al N' J hk;have hb:=I.b;have U:=I.r;have ao:l.getD i tm0=x:=by rw[oA,I.g];rfl
   refine qW ?_;rw[I.lt,oI,I.w];cases x with
   | mk pk pn po pm pt pr pl=>
   obtain⟨u0,u1,v0,v1,a2,bg,c2,heq,bh,aq,ay⟩:=Tm.is_mk.1 U;rw[heq];refine⟨⟨aA,aA⟩,_,rfl,Br.bne (λau N1 aw=>?_) λhe=>⟨_,rfl,⟨aA,aA,by simp only[Ip,oJ,oN];omega⟩,by simp only[Ip,oJ,oN];omega,?_⟩⟩
   ·have hq:Vt nm l=(tm0,false):=by unfold Vt;rw[if_neg λhc=>au (by have:=ob.1 hc _ I.m;exact(by simpa using this:(Tm.mk pk pn po pm pt pr pl).kd=yU nm))]
    rw[hq]at hQ;exact hQ _ _ aA NP
   ·rw[nI];have Y:=P8 (l:=l) (i:=i) aA;rw[ao]at Y;simp only[Tm.no]at Y;rw[Y];refine al _ J λj y hj hy=>?_;by_cases ax:j<i
    ·exact hk j y ax hy
    ·have:j=i:=aA
     subst this;rw[I.g]at hy;rw[<-oZ hy];exact he
 refine I4 N _ Q λ_=>⟨_,rfl,λN1 aw=>JS nm N1 _ λN2 ak _=>Br.of (λh=>⟨_,_,_,rfl,?_⟩) λh=>⟨_,_,_,rfl,?_⟩⟩
 ·have:=loop N2 aA
  rw[show yU nm=3 by unfold yU;rw[if_pos h]]at this;exact this
 ·have:=loop N2 aA
  rw[show yU nm=2 by unfold yU;rw[if_neg (by rw[h];decide)]]at this;exact this
theorem SX (hd:(Tm.mk 4 nm ot n0 ty re l).Is d)(I:(Tm.mk 4 nm ot n0 ty re l).ok=true):Uj 231 [.dg 9 d] (Vt nm l):=by
 have O:l.length<=2:=by have h1:=(wY I).2.2.2.2 rfl;have h2:=TZ nm;omega
 have J:∀ x∈l,x.ok=true:=by
  simp only[Tm.ok,oL]at I;have U:∀ {l:aP},rZ l=true->∀ x∈l,x.ok=true:=λ{l}=>by
   induction l with
   | nil=>intro _ x hx;simp at hx
   | cons t ts Y=>
     intro h x hx;simp only[rZ,oL]at h;rcases oK.1 hx with rfl | hx
     ·exact h.1
     ·exact Y h.2 x hx
  exact U I.1
 exact Q7 hd (zBN I) O λx hx h=>TQ (J x hx) h
theorem Gk {m c1 c2 c4 c5 O U Y}:uE 229 [.dg 9 (.ag [.j k,c1,c2,.j n,c4,c5,O,U,Y]),.j m] (!(k==11&&m==1)):=λN Q J=>A1 N _ m Q λ_=>⟨_,rfl,Br.bne (λh N1 I=>Qb (J _ I) (by simp[h])) λh N1 I=>Qb (J _ I) (by rw[h];simp[bne])⟩
theorem SV:∀(t:Tm)(d:D),t.Is d->∀ m:Int,LvIn m t.dp->uE 118 [.dg 9 d,.j m,.fn 229 []] (t.made m):=by
 refine Tm.ind λk nm ot n ty re l ih d hd m hm N Q hQ=>?_;obtain⟨t0,t1,r0,r1,a,es,c,rfl,hh,O,U⟩:=Tm.is_mk.1 hd;have hl:=U.len;refine Ed N _ m Q λ_ N1 ae=>Gk N1 _ λN2 ah _=>Br.not (λY N3 ai=>Qb (hQ _ aA) (by simp only[Tm.made,Y,Bool.false_and])) λY=>⟨_,_,_,rfl,?_⟩
 refine up U O (λi xs=>∀(N':Nat),N<=N'->(∀ N'',N'<=N''->Q (tw xs (zK k m)) N'')->wh Q N m a es c es.length i (.ag [.j k,.t nm,.t ot,.j n,t0,t1,r0,r1,.sl a 9 es c]) N') ?_ ?_ N2 aA λN'' h=>Qb (hQ N'' aA) (by simp only[Tm.made,Y,Bool.true_and])
 ·intro i aa _ N' ab J;refine qU ?_
  repeat' first|with_reducible intro _|simp only[aa,Y1]|with_reducible refine X ?_ ?_|refine⟨_,_,_,rfl,?_⟩|refine⟨_,rfl,?_⟩|refine X0 ?_|fail
  exact Qb (J _ aA) (by simp[tw])
 ·intro i x xs I _ ac N' ab J;have aj:=I.b;refine qU ?_
  repeat' first|with_reducible intro _|simp only[I.lt,I.w,oI,Y1]|with_reducible refine X ?_ ?_|refine⟨_,_,_,rfl,?_⟩|refine⟨_,rfl,?_⟩|refine X0 ?_|refine(Et hm.b) _ _ ?_|refine(ih x I.m _ I.r _ (hm.next (dp_mem I.m))) _ _ ?_|fail
  ·refine Qb (J _ aA) ?_;simp[tw, *]
  ·exact ac _ aA λN'' h=>Qb (J N'' aA) (by simp[tw, *])
theorem Kc {t}(hd:t.Is d)(hc:t.G){m}(U:LvIn m t.dp):uE 187 [.dg 9 d,.j m] (ut t m&&t.made m):=λN Q O=>DG N _ m Q λ_ N1 Y=>qQ t d hd hc m N1 _ λN2 aa _=>Br.of (λI N3 J=>SV t d hd m U N3 _ λN4 ab _ N5 ac=>Qb (O _ aA) (by rw[I];simp)) λI N3 J=>Qb (O _ aA) (by rw[I];simp)
theorem uH (he:e.Is d)(J:e.ok=true)(hc:e.G)(ac:e.dp<=1073741824):uE 124 [.dg 9 d] e.res:=λN Q hQ=>by
 cases e with
 | mk k nm ot n0 ty re l=>
 have hI:=uU _ d he hc;rw[J]at hI;obtain⟨t0,t1,r0,r1,a,es,c,rfl,hh,ai,aa⟩:=Tm.is_mk.1 he;have hl:=aa.len;refine H2 N _ Q λ_=>⟨_,rfl,?_⟩
 refine Br.beq (λh2 N1 I=>hI N1 _ λN2 O _ N3 U=>Qb (hQ _ aA) (by simp[Tm.res,Pz,Tm.kd,h2])) λh2=>?_;refine Br.beq (λh3 N1 I=>hI N1 _ λN2 O _ N3 U=>Qb (hQ _ aA) (by simp[Tm.res,Pz,Tm.kd,h3])) λh3=>?_;refine Br.beq (λh6 N1 I=>hI N1 _ λN2 O _ N3 U=>Qb (hQ _ aA) (by simp[Tm.res,Pz,Tm.kd,h6])) λh6=>?_;refine Br.beq (λh9 N1 I=>hI N1 _ λN2 O _ N3 U=>Qb (hQ _ aA) (by simp[Tm.res,Pz,Tm.kd,h9])) λh9=>?_;refine Br.beq (λY N1 I=>?_) λY N1 I=>Qb (hQ _ I) (by simp[Tm.res,Pz,Tm.kd,h2,h3,h6,h9,Y]);subst Y;have ab:=(wY J).1 aA;refine hI N1 _ λN2 O _=>Br.of (λ_=>?_) λh=>absurd h aD;cases l with
 | nil=>simp at ab
 | cons p ls=>
 cases ls with
 | cons _ _=>simp at ab
 | nil=>
 have ae:p.G:=hc.2.2.2.1;have ah:p.ok=true:=by simp only[Tm.ok,rZ,oL]at J;exact J.1.1
 simp only[Tm.dp,uh]at ac;refine⟨_,_,_,rfl,⟨aA,aA⟩,λN3 U=>?_⟩;refine Kc (yi aa (j:=0) aB) ae (m:=1) (by unfold LvIn;simp only[mL];omega) N3 _ λN4 aj _ N5 ak=>Qb (hQ _ aA) ?_;simp only[mL,Tm.res,Pz,Tm.kd,Tm.lev,rY,zK,Tm.pt,ut,ah];simp[inB]
theorem Gh (he:e.Is d)(O:e.ok=true)(hG:e.G)(Y:e.dp<=1073741824):Uj 230 [.dg 9 d] (if e.kd=10/\e.res=true then(e.pt 0,true)else(tm0,false)):=λN Q J=>by
 cases e with
 | mk k nm ot n0 ty re l=>
 have hR:=uH he O hG Y;obtain⟨t0,t1,r0,r1,a,es,c,rfl,hh,ac,U⟩:=Tm.is_mk.1 he;have hl:=U.len;refine Hz N _ Q λ_=>⟨_,rfl,Br.bne (λI N1 aa=>?_) λI N2 ae=>hR N2 _ λN3 ah _=>Br.not (λhv N4 ai=>?_) λhv=>?_⟩
 ·rw[if_neg (λh=>I h.1)]at J;exact J _ _ aa NP
 ·rw[if_neg (λh=>by rw[hv]at h;exact absurd h.2 aD)]at J;exact J _ _ aA NP
 ·rw[if_pos ⟨I,hv⟩]at J;have aj:=(wY O).1 aA;refine⟨_,_,_,rfl,⟨aA,aA⟩,λN5 ak=>?_⟩;exact Ma pE (yi U (j:=0) aA) (z8 hG.2.2.2 (zO aA)) (N0:=N) aA (λd N=>Q d true N) λd' N7 al ab _=>J _ _ aA ab
theorem SN (he:e.Is d)(ai:e.ok=true)(hG:e.G):Uj 233 [.dg 9 d] (if e.kd=2\/e.kd=3 then(Tm.nod 10 [e],true)else(tm0,false)):=λN Q hQ=>by
 cases e with
 | mk k nm ot n0 ty re l=>
 have hI:=uU _ d he hG;rw[ai]at hI;have aj:=he;obtain⟨t0,t1,r0,r1,a,es,c,rfl,hh,aq,ak⟩:=Tm.is_mk.1 he;have hl:=ak.len
 have fin:(Tm.mk k nm ot n0 ty re l).kd=2\/(Tm.mk k nm ot n0 ty re l).kd=3->∀ N2,N<=N2->∀ N3,N2<=N3->ACalls prog 123 [.pk,.i,.str,.str,.i,.dc,.dc,.dc,.dc,.row 35 9] [.dg 9 (.ag [.j k,.t nm,.t ot,.j n0,t0,t1,r0,r1,.sl a 9 es c])] N3
   (λn s J O x U Y aa es c N4=>N3<=N4->Bel N4 (D.ag es)->(es.length=es.length/\c=c)/\∀ a N5,N4<=N5->Fresh N N5 a [D.ag es]->(1=([D.ag [D.j n,D.t s,D.t J,D.j O,x,U,Y,aa,D.sl a 9 es c]]).length/\1=1) /\
    ∀ ab N6,N5<=N6->Fresh N N6 ab [D.ag [D.ag [D.j n,D.t s,D.t J,D.j O,x,U,Y,aa,D.sl a 9 es c]]]->∀ N7,N6<=N7->ACalls prog 258 [.ag 9] [.j 10,.sv ab 9 [D.ag [D.j n,D.t s,D.t J,D.j O,x,U,Y,aa,D.sl a 9 es c]] 1] N7
      (λac N8=>N7<=N8->Bel N8 ac->∀ N9,N8<=N9->Q ac true N9)):=λhk N2 ae N3 ah=>by
  rw[if_pos hk]at hQ;refine pE _ _ aj hG N3 _ ?_;intro x4 x5 x6 x7 au c' N4 aw al I ax _ _;have ay:=I.len;have az:=hG.2.2.1;refine⟨⟨rfl,rfl⟩,λa1 N5 a6 _=>⟨⟨rfl,rfl⟩,λa2 N6 a7 _ N7 a8=>Lc N7 10 a2 _ 1 _ λ_ N8 ba _ _ N9 bb=>hQ _ _ aA ?_⟩⟩;exact Tm.is_mk.2 ⟨_,_,_,_,_,_,_,rfl,⟨aD,aD,wB _,wB _⟩,aB,_,[],rfl,Tm.is_mk.2 ⟨_,_,_,_,_,_,_,rfl,al,aA,I⟩,rfl⟩
 refine LW N _ Q λ_=>⟨_,rfl,Br.bne (λh2=>⟨_,rfl,Br.bne (λh3 N1 ao=>?_) λh3 N2 ae=>hI N2 _ λN3 ah _=>Br.not (λh=>absurd h aD) λ_=>fin (.inr h3) N3 aA⟩) λh2 N2 ae=>hI N2 _ λN3 ah _=>Br.not (λh=>absurd h aD) λ_=>fin (.inl h2) N3 aA⟩
 rw[if_neg (λh=>h.elim h2 h3)]at hQ;exact hQ _ _ ao NP
theorem F6 (J:e.Is d)(hb:b.Is I) x(O:e.Z)(U:b.Z):XR 232 [.dg 9 d,.str x,.dg 9 I] (e.sb x b):=JR e.dp e d x b I J hb (oC _) O U
theorem Vu:(Tm.mk 4 nm ot n0 ty re l).opr l=if(Vt nm l).2=true then((Vt nm l).1,1)else(Tm.mk 4 nm ot n0 ty re l,0):=by
 unfold Tm.opr Vt;by_cases hc:(l.all λx=>x.kd==yU nm)=true
 ·rw[if_pos hc,if_pos (show(l.all λx=>x.kd==yU (Tm.mk 4 nm ot n0 ty re l).nm)=true from hc),if_pos rfl];rfl
 ·rw[if_neg hc,if_neg (show ¬(l.all λx=>x.kd==yU (Tm.mk 4 nm ot n0 ty re l).nm)=true from hc),if_neg aD]
theorem Xb (hd:(Tm.mk k nm ot n0 ty re l).Is d)(hF:(Tm.mk k nm ot n0 ty re l).F (f+1))(ak:k=12->(l.getD 0 tm0).res=true):
  Qv 191 [.dg 9 d] (Tm.mk k nm ot n0 ty re l).apl:=λN Q I=>by
 have U:=hd;obtain⟨t0,t1,r0,r1,a,es,c,rfl,hh,bt,ab⟩:=Tm.is_mk.1 hd;have hl:=ab.len;have ac:=hF.ok;have al:k=4->∀ N1,N<=N1->ACalls prog 231 [.ag 9,.bool] [.dg 9 (.ag [.j k,.t nm,.t ot,.j n0,t0,t1,r0,r1,.sl a 9 es c])] N1 (λx b N2=>N1<=N2->Bel N2 x->Br b (∀ N3,N2<=N3->Q x 1 N3) (∀ N4,N2<=N4->Q (.ag [.j k,.t nm,.t ot,.j n0,t0,t1,r0,r1,.sl a 9 es c]) 0 N4)):=λh4 N1 ck=>by
  subst h4;simp only[Tm.apl]at I;rw[if_pos trivial,Vu]at I;refine SX U ac N1 _ λdx N2 cm hx _ _=>Br.of (λO N3 cn=>?_) λO N4 co=>?_
  ·rw[if_pos O]at I;exact I _ _ aA hx
  ·rw[if_neg (by rw[O];decide)]at I;exact I _ _ aA U
 refine Ni N _ Q λ_=>⟨_,_,_,rfl,Br.dec (λbv=>⟨_,_,_,rfl,⟨aA,aA⟩,_,rfl,?_⟩) λbw=>⟨_,rfl,?_⟩⟩
 ·have aw:0<l.length:=aA
  have ao:=yi ab aw;have J:=hF.mem _ (zO aw);have ax:=J.b;have aq:=J.g;refine Br.beq (λh4=>al h4) λh4=>?_;simp only[Tm.apl]at I;rw[if_neg h4]at I;generalize cp:l.getD 0 tm0=p at ao J I ak ax aq;have ai:=ao;have ay:=λh=>On J.ok h;have az:=Gh ai J.ok aq ax;have a6:=SN ai J.ok aq;cases p with
  | mk pk pn po pm pt pr Y=>
  obtain⟨u0,u1,v0,v1,a2,cq,c2,heq,cr,bb,aj⟩:=Tm.is_mk.1 ao;have ct:=aj.len;simp only[Tm.kd,Tm.no]at ay;rw[heq]at ai az a6 ⊢;have one:(pk=6\/pk=9)->Y.length=1:=λh=>(wY J.ok).1 aA;have au:Y.length=1->(Y.getD 0 tm0).F f:=λh=>((J.up (g:=f+1) aA).mem _ (zO (l:=Y) (i:=0) aA))
  refine Br.beq (λh5=>⟨_,rfl,Br.beq (λh3=>?_) λh3 N9 bc=>?_⟩) λh5=>Br.beq (λh7=>⟨_,rfl,Br.beq (λh6=>?_) λh6=>Br.beq (λh9=>?_) λh9 cw bz=>?_⟩) λh7=>Br.beq (λh8=>?_) λh8=>Br.beq (λaa bg b3=>?_) λaa=>Br.beq (λae bh b7=>?_) λae bi a7=>?_
  ·rw[if_pos h5,if_pos (show(Tm.mk pk pn po pm pt pr Y).kd=3 from h3)]at I;have cx:=(wY ac).2.2.1 h5;have hn:=ay h3;have hw:IntKind.i64.wrap (2 - pm)=2 - pm:=i64_in _ aA;refine⟨_,_,_,rfl,_,rfl,?_⟩;rw[hw];refine⟨⟨aA,aA⟩,λN6 a8=>?_⟩;exact Ma pE (yi ab (j:=(2 - pm).toNat) aA) (z8 hF.z.g.2.2.2 (zO aA)) (N0:=N) aA (λd N=>Q d 2 N) λd' N7 ba bj _=>I _ _ aA bj
  ·rw[if_pos h5,if_neg (show ¬(Tm.mk pk pn po pm pt pr Y).kd=3 from h3)]at I;exact I _ _ aA U
  ·have bm:=(wY ac).2.1 (.inl h7);have h1:=one (.inl h6);rw[if_neg h5,if_pos h7,if_pos (show(Tm.mk pk pn po pm pt pr Y).kd=6 from h6)]at I;refine⟨_,_,_,rfl,⟨aA,aA⟩,_,rfl,_,_,_,rfl,⟨aA,aA⟩,λN6 a8=>?_⟩;exact F6 (yi aj (j:=0) aA) (yi ab (j:=1) aA) pn (au h1).z (hF.mem _ (zO (i:=1) aA)).z N6 _ λdx N7 ba hx _ _ _ N8 bp=>I _ _ aA hx
  ·have bm:=(wY ac).2.1 (.inl h7);have h1:=one (.inr h9);rw[if_neg h5,if_pos h7,if_neg (show ¬(Tm.mk pk pn po pm pt pr Y).kd=6 from h6),if_pos (show(Tm.mk pk pn po pm pt pr Y).kd=9 from h9)]at I;refine⟨_,_,_,rfl,⟨aA,aA⟩,_,rfl,_,rfl,_,_,_,rfl,⟨aA,aA⟩,λN9 bc=>?_⟩;refine F6 (yi aj (j:=0) aA) ai pn (au h1).z J.z N9 _ λdx cy b8 hx _ _ _ bq b9=>?_;exact F6 hx (yi ab (j:=1) aA) po (zBw (au h1) J) (hF.mem _ (zO (i:=1) aA)).z bq _ λdy cz ca hy _ _ _ c6 cc=>I _ _ aA hy
  ·rw[if_neg h5,if_pos h7,if_neg (show ¬(Tm.mk pk pn po pm pt pr Y).kd=6 from h6),if_neg (show ¬(Tm.mk pk pn po pm pt pr Y).kd=9 from h9)]at I;exact I _ _ aA U
  ·have c7:=(wY ac).2.1 (.inr h8);rw[if_neg h5,if_neg h7,if_pos h8]at I;refine⟨_,_,_,rfl,⟨aA,aA⟩,_,rfl,λN6 a8=>?_⟩;exact F6 (yi ab (j:=1) aA) ai nm (hF.mem _ (zO (i:=1) aA)).z J.z N6 _ λdx N7 ba hx _ _ _ N8 bp=>I _ _ aA hx
  ·rw[if_neg h5,if_neg h7,if_neg h8,if_pos aa]at I;have hr:=ak aa;refine az bg _ λdx c8 cd hx _ _=>Br.of (λO da ce=>?_) λO db cf=>?_
   ·by_cases ah:(Tm.mk pk pn po pm pt pr Y).kd=10
    ·rw[if_pos ⟨ah,hr⟩]at hx;rw[if_pos ah]at I;exact I _ _ aA hx
    ·rw[if_neg (λh=>ah h.1)]at O
     first | exact absurd (show true=false from O) aD | exact absurd (show false=true from O) aD
   ·by_cases ah:(Tm.mk pk pn po pm pt pr Y).kd=10
    ·rw[if_pos ⟨ah,hr⟩]at O
     first | exact absurd (show true=false from O) aD | exact absurd (show false=true from O) aD
    ·rw[if_neg ah]at I;exact I _ _ aA U
  ·rw[if_neg h5,if_neg h7,if_neg h8,if_neg aa,if_pos ae]at I;refine a6 bh _ λdx de cg hx _ _=>Br.of (λO dh ch=>?_) λO di cj=>?_
   ·by_cases h2:(Tm.mk pk pn po pm pt pr Y).kd=2\/(Tm.mk pk pn po pm pt pr Y).kd=3
    ·rw[if_pos h2]at hx I;exact I _ _ aA hx
    ·rw[if_neg h2]at O
     first | exact absurd (show true=false from O) aD | exact absurd (show false=true from O) aD
   ·by_cases h2:(Tm.mk pk pn po pm pt pr Y).kd=2\/(Tm.mk pk pn po pm pt pr Y).kd=3
    ·rw[if_pos h2]at O
     first | exact absurd (show true=false from O) aD | exact absurd (show false=true from O) aD
    ·rw[if_neg h2]at I;exact I _ _ aA U
  ·rw[if_neg h5,if_neg h7,if_neg h8,if_neg aa,if_neg ae]at I;exact I _ _ aA U
 ·have dj:l.length=0:=aA
  obtain⟨a1,a2,a3,_,_⟩:=wY ac;refine Br.beq (λh4=>al h4) λh4=>Br.beq (λh5=>by have:=a3 h5;omega) λh5=>Br.beq (λh7=>by have:=a2 (.inl h7);omega) λh7=>Br.beq (λh8=>by have:=a2 (.inr h8);omega) λh8=>Br.beq (λaa=>by have:=a1 aA;omega) λaa=>Br.beq (λae=>by have:=a1 aA;omega) λae bi a7=>?_;simp only[Tm.apl]at I;rw[if_neg h4,if_neg h5,if_neg h7,if_neg h8,if_neg aa,if_neg ae]at I;exact I _ _ aA U
theorem Q8 {t0 t1 r0 r1 a es c}:BK 190 [.dg 9 (.ag [.j k,.t nm,.t ot,.j n0,t0,t1,r0,r1,.sl a 9 es c])] (Bk k es.length:Nat):=λN Q J=>by
 refine IA N _ Q λ_=>⟨_,rfl,Br.beq (λY=>⟨_,_,_,rfl,λN1 I=>Qi (J _ I) (by simp[Bk,Y])⟩) λY=>Br.beq (λh7=>⟨_,_,_,rfl,λN1 I=>Qi (J _ I) (by simp[Bk,h7])⟩) λh7=>?_⟩
 refine Br.beq (λh5 N1 I=>Qi (J _ I) (by simp[Bk,h5])) λh5=>Br.beq (λh8 N1 I=>Qi (J _ I) (by simp[Bk,h8])) λh8=>Br.beq (λO N1 I=>Qi (J _ I) (by simp[Bk,O])) λO=>Br.beq (λU N1 I=>Qi (J _ I) (by simp[Bk,U])) λU N1 I=>Qi (J _ I) (by simp[Bk,Y,h7,h5,h8,O,U])
theorem Ws {t:Tm}{dy}(h:t.Is d)(hG:t.G)(hy:y.Is dy)(h1:t.as.length=1){N0 a1}(hb:xj N [a1])(Q':D->Nat->Prop)(hq:∀ d' N',N<=N'->(t.wth 0 y).Is d'->Q' d' N'):
  ACalls prog 189 [.pk,.i,.str,.str,.i,.dc,.dc,.dc,.dc,.bk 1] [.dg 9 d,.sv a1 9 [dy] 1] N (λn s ab ac I J O U ae N7=>N<=N7->ae=D.sl a1 9 [dy] 1/\Off [a1] I/\Off [a1] J/\Off [a1] O/\Off [a1] U/\(1=([dy]).length/\1=1)/\(1=([dy]).length/\1=1)/\(1=([dy]).length/\1=1) /\
   ∀ Y N8,N7<=N8->Fresh N0 N8 Y [D.ag [dy],I,J,O,U]->∀ N9,N8<=N9->Q' (D.ag [D.j n,D.t s,D.t ab,D.j ac,I,J,O,U,D.sl Y 9 [dy] 1]) N9):=by
 cases t with
 | mk k nm ot n0 ty re l=>
 obtain⟨t0,t1,r0,r1,a,es,c,rfl,hh,al,ao⟩:=Tm.is_mk.1 h;simp only[Tm.as]at h1;obtain⟨g1,g2,g3,g4⟩:=hG;refine OP hh g1 g2 a1 [dy] 1 N _ λx4 x5 x6 x7 N5 aq ah ai _=>⟨rfl,?_⟩
 have off:∀ y∈[x4,x5,x6,x7],Off [a1] y:=λy hy a' aj ad ak hc=>by have h1:=hb a' aj ad ak;have h2:=ai.lo _ (zJ.2 ⟨y,hy,hc⟩);omega
 refine⟨off x4 aB,off x5 aB,off x6 aB,off x7 aB,⟨rfl,rfl⟩,⟨rfl,rfl⟩,⟨rfl,rfl⟩,λa2 N8 au _ N9 aw=>hq _ _ aA ?_⟩;have aa:l.set 0 y=[y]:=by
  cases l with
  | nil=>simp at h1
  | cons p ls=>cases ls with
    | nil=>rfl
    | cons _ _=>simp at h1
 simp only[Tm.wth];rw[aa];exact Tm.is_mk.2 ⟨_,_,_,_,_,_,_,rfl,ah,aB,dy,[],rfl,hy,rfl⟩
theorem MV (hS:We 125 f):∀(t:Tm)(d:D),t.Is d->t.F (f+1)->∀ m:Int,LvIn m t.dp->Wd 188 [.dg 9 d,.j m,.fn 125 []] (t.cod (Tm.stp f) m):=by
 refine Tm.ind λk nm ot n0 ty re l ih d hd hF m hm N Q J=>?_;have aa:=hd;obtain⟨t0,t1,r0,r1,a,es,c,rfl,hh,ah,ab⟩:=Tm.is_mk.1 hd;have hl:=ab.len;have loop:¬(k=11/\m=1)->yq Q N m a es c es.length 0 (.ag [.j k,.t nm,.t ot,.j n0,t0,t1,r0,r1,.sl a 9 es c]) 0 (bytes []) (bytes []) 0 0 none [] 0 0 none [] 0 none [] 0 N:=λal=>by
  simp only[Tm.cod]at J;rw[if_neg al]at J;refine up ab ah (λi xs=>∀ N',N<=N'->(match yO (Tm.stp f) xs (zK k m)with | none=>yO (Tm.stp f) l (zK k m)=none | some (l',r)=>yO (Tm.stp f) l (zK k m)=some (l.take i++l',r)) ->
   yq Q N m a es c es.length i (.ag [.j k,.t nm,.t ot,.j n0,t0,t1,r0,r1,.sl a 9 es c]) 0 (bytes []) (bytes []) 0 0 none [] 0 0 none [] 0 none [] 0 N') ?_ ?_ N (oC _) ?_
  ·intro i ao hi N' aq U;simp only[yO]at U;rw[U]at J;refine qY ?_;rw[ao];exact λN2 ai=>J _ _ aA aa
  ·intro i x xs I au aw N' aq U;have hb:=I.b;have aj:i<l.length:=(oD.1 I.g).1;refine qY ?_;rw[I.lt,I.w];refine⟨⟨aA,aA⟩,λN1 ax=>Et hm.b N1 _ λN2 ai _ N3 ay=>?_⟩;have hr:=I.r;rw[<-oI i]at hr;refine ih x I.m _ hr ((hF.mem x I.m).up aA) _ (hm.next (dp_mem I.m)) N3 _ λdx N4 az hx _ _=>Br.of (λhv N5 a6=>?_) λhv=>?_
   ·simp only[yO]at U;rw[if_pos hv]at U;simp only at U;rw[U]at J;refine Yn pE aa hF.z.g hx aj (N0:=N) (λd N=>Q d (x.cod (Tm.stp f) (zK k m)).2.1 true N) λd' N6 a7 ac=>J _ _ aA ?_;have:l.take i++(x.cod (Tm.stp f) (zK k m)).1::xs=l.set i (x.cod (Tm.stp f) (zK k m)).1:=by rw[lK,if_pos aj,au]
    simp only;rw[this];exact ac
   ·refine aw _ aA ?_;simp only[yO]at U;rw[if_neg (by rw[hv];decide)]at U;cases hc:yO (Tm.stp f) xs (zK k m)with
    | none=>rw[hc]at U;exact U
    | some p=>obtain⟨l',r⟩:=p;rw[hc]at U;simp only at U ⊢;rw[U,vw I.g,oP];rfl
  ·cases hc:yO (Tm.stp f) l (zK k m)with
   | none=>rfl
   | some p=>obtain⟨l',r⟩:=p;simp
 refine Fi N _ m Q λ_=>⟨_,rfl,Br.beq (λh1=>Br.beq (λh2=>?_) λh2=>⟨_,_,_,rfl,loop λh=>h2 h.2⟩) λh1=>⟨_,_,_,rfl,loop λh=>h1 h.1⟩⟩
 have a8:=(wY hF.ok).1 aA;have ak:0<l.length:=aA
 have ba:=zO ak;have O:=hF.mem _ ba;have ae:=yi ab ak;simp only[Tm.cod]at J;rw[if_pos ⟨h1,h2⟩]at J;unfold Yq at J;rw[YZ]at J;refine⟨_,_,_,rfl,⟨aA,aA⟩,λN1 ax=>uH ae O.ok O.g O.dp N1 _ λN2 ai _=>Br.not (λhr N3 ay=>?_) λhr N9 bh=>?_⟩
 ·rw[if_neg (by rw[hr];decide)]at J;refine hS _ _ ae O N3 _ λdx N4 az hx _ _=>⟨⟨rfl,rfl⟩,λa1 _ _ N5 a6 hb=>?_⟩
  exact Ws aa hF.z.g hx a8 hb (N0:=N) (λd N=>Q d (Tm.stp f (l.getD 0 tm0)).2 true N) λd' N6 a7 ac=>J _ _ aA ac
 ·rw[if_pos hr]at J;refine Gh ae O.ok O.g O.dp N9 _ λdx bi bb hx _ _=>Br.of (λhv bj bc=>?_) λhv bm bg=>?_
  ·by_cases Y:(l.getD 0 tm0).kd=10
   ·rw[if_pos ⟨Y,hr⟩]at hx;rw[if_pos Y]at J;exact J _ _ aA hx
   ·rw[if_neg (λh=>Y h.1)]at hv
    first | exact absurd (show true=false from hv) aD | exact absurd (show false=true from hv) aD
  ·by_cases Y:(l.getD 0 tm0).kd=10
   ·rw[if_pos ⟨Y,hr⟩]at hv
    first | exact absurd (show true=false from hv) aD | exact absurd (show false=true from hv) aD
   ·rw[if_neg Y]at J;exact J _ _ aA aa
theorem JQ:∀ f,We 125 f
 | 0=>λe d _ J=>absurd (Tm.dp_pos e) (by have:=J.d;omega)
 | f + 1=>λe d hd J N Q hQ=>by
   have ih:=JQ f;cases e with
   | mk k nm ot n0 ty re l=>
   have O:=hd;obtain⟨t0,t1,r0,r1,a,es,c,rfl,hh,bm,U⟩:=Tm.is_mk.1 hd;have hl:=U.len;simp only[Tm.stp]at hQ;refine PT N _ Q λ_ N1 aw=>uH O J.ok J.g J.dp N1 _ λN2 ax _=>Br.of (λhv N3 ay=>?_) λhv=>⟨_,rfl,Br.beq (λae=>?_) λae ai aj=>?_⟩
   ·rw[if_pos hv]at hQ;exact hQ _ _ aA O
   ·rw[if_neg (by rw[hv];decide),if_pos (show(Tm.mk k nm ot n0 ty re l).kd=10 from ae)]at hQ;have az:=(wY J.ok).1 aA;have ak:=zO (l:=l) (i:=0) aA;have bp:=dp_mem (k:=k) (nm:=nm) (ot:=ot) (n:=n0) (ty:=ty) (re:=re) ak;have bq:=J.dp;refine⟨_,_,_,rfl,⟨aA,aA⟩,λN4 a6=>?_⟩;refine MV ih _ _ (yi U (j:=0) aA) ((J.mem _ ak).up aA) 1 (by unfold LvIn;omega) N4 _ λdx N5 a7 hx _ _=>⟨⟨rfl,rfl⟩,λa1 _ _ N6 al hb=>?_⟩
    exact Ws O J.z.g hx az hb (N0:=N) (λd N=>Q d (Tm.cod (Tm.stp f) (l.getD 0 tm0) 1).2.1 N) λd' N6 al ah=>hQ _ _ aA ah
   ·rw [if_neg (by rw[hv];decide),if_neg (show ¬(Tm.mk k nm ot n0 ty re l).kd=10 from ae)]at hQ;refine Q8 ai _ λao aq _=>?_;have bt:Bk k l.length<=l.length:=by
     unfold Bk;split
     ·exact oC _
     ·split
      ·rename_i h;obtain⟨b1,b2,b3,_⟩:=wY J.ok;rcases h with h | h | h | h
       ·have:=b3 h;omega
       ·have:=b2 (.inr h);omega
       ·have:=b1 aA;omega
       ·have:=b1 aA;omega
      ·omega
    have a8:All2 Tm.Is (l.take (Bk k l.length)) (es.take (Bk k l.length)):=by
     have:∀(n:Nat) (l:aP) (es:aM),All2 Tm.Is l es->All2 Tm.Is (l.take n) (es.take n):=by
      intro n
      induction n with
      | zero=>intro l es _;simp;rfl
      | succ n ba=>
        intro l es h;cases l with
        | nil=>cases h;exact rfl
        | cons x xs=>obtain⟨y,ys,rfl,h1,h2⟩:=h;exact⟨y,ys.take n,rfl,h1,ba _ _ h2⟩
     exact this _ _ _ U
    have au:(es.take (Bk k l.length)).length=Bk k l.length:=by rw[nO];omega
    rw[hl];refine up a8 aA (λi xs=>∀ N',N<=N'->(∀ j x,j<i->(l.take (Bk k l.length))[j]?=some x->x.res=true)->(∀ r:Tm × Int,(match goS (Tm.stp f) (Tm.mk k nm ot n0 ty re l) xs i with | some r=>r | none=>(Tm.mk k nm ot n0 ty re l).apl)=r->∀ d N'',N<=N''->r.1.Is d->Q d r.2 N'') ->
     tA Q N (Bk k l.length:Nat) i (.ag [.j k,.t nm,.t ot,.j n0,t0,t1,r0,r1,.sl a 9 es c]) 0 (bytes []) (bytes []) 0 0 none [] 0 0 none [] 0 none [] 0 N') ?_ ?_ ao aA (λj x h=>absurd h aA) (λr I d N'' h1 h2=>by rw[<-I];rw[<-I]at h2;exact hQ d N'' h1 h2)
    ·intro i Y hi N' bb hk I;rw[au]at Y;refine Cm ?_;rw[Y];have I:=I _ rfl;simp only[goS]at I;refine λN9 bv=>Xb O J (λbc=>?_) N9 _ λdx ai aj hx _ _ ao aq=>I _ _ aA hx;have bg:Bk k l.length=1:=by simp[Bk,bc]
     refine hk 0 _ aA ?_;rw[bg,List.getElem?_take_of_lt aA];exact zh aA
    ·intro i x xs aa bw bh N' bb hk I;have hb:=aa.b;have Y:=aa.lt;rw[au]at Y hb;have ab:i<l.length:=aA
     have bi:l[i]?=some x:=by
      have:=aa.g
      rw[List.getElem?_take_of_lt aA]at this;exact this
     obtain rfl:l.getD i tm0=x:=by rw[oA,bi];rfl
     have ac:=J.mem _ (zO ab);refine Cm ?_;rw[Y,aa.w];refine⟨_,_,_,rfl,⟨aA,aA⟩,λN1 aw=>?_⟩;rw[oI];refine uH (yi U ab) ac.ok ac.g ac.dp N1 _ λN2 ax _=>Br.of (λhv=>?_) λhv=>?_
     ·rw[GD hv]at I;refine bh _ aA (λj y hj hy=>?_) I;by_cases bj:j<i
      ·exact hk j y bj hy
      ·have:j=i:=aA
       subst this;rw[aa.g]at hy;rw[<-oZ hy];exact hv
     ·have I:=I _ rfl;simp only[goS]at I;rw[if_neg (by rw[hv];decide)]at I;refine⟨_,_,_,rfl,⟨aA,aA⟩,λN3 ay=>?_⟩;refine ih _ _ (yi U ab) ac N3 _ λdx N4 a6 hx _ _ N5 a7=>?_
      have:=Yn pE O J.z.g hx ab (N0:=N) (N:=N5) (λd N=>Q d (Tm.stp f (l.getD i tm0)).2 N) λd' N6 al ah=>I _ _ aA ah
      simpa only[oI]using this
theorem JP:∀(t:Tm)(d:D),t.Is d->t.sz<=9223372036854775807->BK 121 [.dg 9 d] t.sz:=by
 refine Tm.ind λk nm ot n0 ty re l ih d hd hc N Q hQ=>?_;obtain⟨t0,t1,r0,r1,a,es,c,rfl,hh,J,O⟩:=Tm.is_mk.1 hd;simp only[Tm.sz]at hc;refine DK N _ Q λ_=>⟨_,_,_,rfl,?_⟩
 refine up O J (λi xs=>∀(m:Nat) (N':Nat),N<=N'->m+zQ xs=1+zQ l->xu Q N m a es c es.length i N') ?_ ?_ 1 N (oC _) rfl
 ·intro i U _ m N' Y hm;refine vh ?_;simp only[zQ]at hm
  repeat' first|with_reducible intro _|simp only[U,Y1]|with_reducible refine X ?_ ?_|refine⟨_,_,_,rfl,?_⟩|refine⟨_,rfl,?_⟩|refine X0 ?_|fail
  exact Qi (hQ _ aA) (by simp only[Tm.sz];omega)
 ·intro i x xs I _ aa m N' Y hm;have hb:=I.b;have ab:=vC I.m;simp only[zQ]at hm;refine vh ?_;rw[I.lt,I.w,oI];refine⟨⟨aA,aA⟩,λN1 ac=>ih x I.m _ I.r aA N1 _ λN2 ae _=>?_⟩;rw[i64_in _ aA]
  have:=aa (m+x.sz) N2 aA aA
  simpa using this
theorem Dz:∀(t:Tm)(d:D),t.Is d->t.sz<=9223372036854775807->BK 46 [.dg 9 d] t.sz:=by
 refine Tm.ind λk nm ot n0 ty re l ih d hd hc N Q hQ=>?_;obtain⟨t0,t1,r0,r1,a,es,c,rfl,hh,J,O⟩:=Tm.is_mk.1 hd;simp only[Tm.sz]at hc;refine Ll N _ Q λ_=>?_;refine up O J (λi xs=>∀(m:Nat) (N':Nat),N<=N'->m+zQ xs=1+zQ l->vN Q N m i (.ag [.j k,.t nm,.t ot,.j n0,t0,t1,r0,r1,.sl a 9 es c]) N') ?_ ?_ 1 N (oC _) rfl
 ·intro i U _ m N' Y hm;refine pU ⟨_,_,_,rfl,?_⟩;simp only[zQ]at hm;rw[U];exact λN2 aa=>Qi (hQ _ aA) (by simp only[Tm.sz];omega)
 ·intro i x xs I _ ab m N' Y hm;have hb:=I.b;have ac:=vC I.m;simp only[zQ]at hm;refine pU ⟨_,_,_,rfl,?_⟩;rw[I.lt,I.w,oI];refine⟨_,_,_,rfl,⟨aA,aA⟩,λN1 ae=>ih x I.m _ I.r aA N1 _ λN2 aa _=>?_⟩;rw[i64_in _ aA]
  have:=ab (m+x.sz) N2 aA aA
  simpa using this
theorem TY:∀ t:Tm,t.ok=true->t.cnt<=61*t.sz:=by
 refine Tm.ind λk nm ot n ty re l ih h=>?_;obtain⟨h1,I,h3⟩:=Tm.ok_mk.1 h;have Y:∀ t:Ty,t.zero=true->t.cnt<=30:=λt J=>by
  cases t with
  | mk k l=>
  simp only[Ty.zero,Ty.k,Ty.as,oL,mG]at J;have:l=[]:=oV aA;subst this;simp[Ty.cnt,zI]
 have v1:∀ t:Ty,t.valid=true->t.cnt<=30:=λt J=>by simp only[Ty.valid,oL,oh]at J;exact J.1.1
 simp only[zH,oL,mG,mB]at I;have aa:ty.cnt<=30:=by
  rcases I.2.1 with h | h
  ·exact v1 _ (by rw[<-I.1,h])
  ·exact Y _ h
 have ab:re.cnt<=30:=by
  rcases I.2.2.2.1 with h | h
  ·exact v1 _ (by rw[<-I.2.2.1];simpa using h)
  ·exact Y _ h
 have key:∀ xs:aP,(∀ x∈xs,x∈l)->xC xs<=61*zQ xs:=by
  intro xs
  induction xs with
  | nil=>intro _;exact oC _
  | cons x xs O=>intro U;have a1:=ih x (U x aB) (h1 x (U x aB));have a2:=O λy hy=>U y (by simp[hy]);simp only[xC,zQ];omega
 have:=key l λx hx=>hx
 simp only[Tm.cnt,Tm.sz];omega
structure Rch (x:Tm):Prop where
 g:x.G
 s:x.sz<=64482000
 o:x.sz<=400->x.ok=true
theorem Rch.F (h:Rch x)(hs:x.sz<=400):x.F x.dp:=Tm.F.of (h.o hs) (oC _) (by have:=TY x (h.o hs);omega)
theorem Rch.step (h:Rch x)(hs:x.sz<=400):Rch (x.stp x.dp).1:=⟨zAY _ _ h.g,by have:=XF x.dp x hs;omega,λI=>UO _ x (oC _) (h.o hs) I⟩
theorem Rch.of (I:e.ok=true)(J:e.cnt<=4000000):Rch e:=⟨Tm.G_cnt e aA,by have:=Tm.sz_cnt e;omega,λ_=>I⟩
def XS (r:Int × Tm × Nat)(d:D):Prop:=∃ cs,d=.ag (.j r.1::(cs++[.j (r.2.2:Nat)]))/\r.2.1.Is (.ag cs)
theorem qF (m n:Nat)(x:Tm):OC m n x=if x.sz>400 then((3,tm0,n),[])else if x.res then((1,x,n),[])else match m with
  | 0=>((2,x,n),[])
  | m+1=>if(x.stp x.dp).2=0 then((4,x,n),[])else((OC m (n+1) (x.stp x.dp).1).1,(x.stp x.dp).2::(OC m (n+1) (x.stp x.dp).1).2):=by
 cases m<;>rfl
theorem He {s n J O U Y y5 y6 y7 y8}(h:(Tm.mk k nm ot n0 ty re l).Is (.ag [I,J,O,U,Y,y5,y6,y7,y8])):
 XS (s,Tm.mk k nm ot n0 ty re l,n) (.ag [.j s,I,J,O,U,Y,y5,y6,y7,y8,.j (n:Nat)]):=⟨_,rfl,h⟩
theorem WD {s n}:XS (s,tm0,n) (.ag [.j s,.j 0,.t (bytes []),.t (bytes []),.j 0,.j 0,.sl none 2 [] 0,.j 0,.sl none 2 [] 0,.sl none 9 [] 0,.j (n:Nat)]):=⟨_,rfl,NP⟩
theorem Fresh.mono {N0 N1 M a ds}(h:Fresh N0 N a ds)(J:N1<=N0)(O:N<=M):Fresh N1 M a ds:=
 ⟨λad I=>oR J (h.lo ad I),λad I=>o7 (h.hi ad I) O,h.off,h.ap⟩
theorem QG {N' s t cs}(h:Own N N' (.ag cs)):Own N N' (.ag (.lit s::(cs++[.lit t]))):=by
 have e:zC (.lit s::(cs++[.lit t]))=zC cs:=by simp only[zC,D.foot,zF,oa,o8]
 refine⟨?_,⟨trivial,xB h.fl ⟨trivial,trivial⟩⟩,λb hb=>?_,λb hb=>?_⟩
 ·have:=h.nd;simp only[D.foot]at this ⊢;rw[e];exact this
 ·simp only[D.foot]at hb;rw[e]at hb;exact h.lo b (by simpa only[D.foot]using hb)
 ·simp only[D.foot]at hb;rw[e]at hb;exact h.hi b (by simpa only[D.foot]using hb)
theorem LA {N' s t}:Own N N' (.ag [.lit s,.j 0,.t (bytes []),.t (bytes []),.j 0,.j 0,.sl none 2 [] 0,.j 0,.sl none 2 [] 0,.sl none 9 [] 0,.lit t]):=
 ⟨by simp[D.foot,zC],by simp[D.Flat0,wK],by simp[D.foot,zC],by simp[D.foot,zC]⟩
theorem Rs.cells {r:Int × Tm × Nat}(h:XS r d):∃ J O U Y y4 y5 y6 y7 y8,d=.ag [.j r.1,J,O,U,Y,y4,y5,y6,y7,y8,.j (r.2.2:Nat)]/\r.2.1.Is (.ag [J,O,U,Y,y4,y5,y6,y7,y8]):=by
 obtain⟨cs,rfl,h⟩:=h;obtain⟨s,t,n⟩:=r;cases t with
 | mk k nm ot n0 ty re l=>
 obtain⟨t0,t1,r0,r1,a,es,c,I,hh,aa,ab⟩:=Tm.is_mk.1 h;injection I with I
 subst I;exact⟨_,_,_,_,_,_,_,_,_,rfl,h⟩
theorem Ig (he:e.Is d)(hc:e.cnt<=4000000) fu N(Q:QT [.ag 11])(O:∀ d N',N<=N'->XS (xF e fu) d->Q d N'):ACalls prog 18 [.ag 11] [.dg 9 d,.j fu] N Q:=by
 have hG:=Tm.G_cnt e aA;unfold xF at O;refine JA N _ fu Q λ_ N1 ai=>Gr e d he aA 0 N1 _ λN2 aj _=>Br.not (λhv N3 ac=>?_) λhv N4 ak=>xb _ _ _ N4 _ λN5 al _=>Br.not (λhb N6 ae=>?_) λhb N7 ao=>?_
 ·rw[if_neg (by rw[hv];simp)]at O;exact O _ _ aA WD
 ·rw[if_neg (by rw[hv,hb];decide)]at O;exact O _ _ aA WD
 rw[if_pos (by rw[hv,hb];rfl)]at O;have bq:=yE.1 hb;have ax:e.ok=true:=by unfold ut at hv;simp at hv;exact hv.1
 have hR:=Rch.of ax hc;refine pC e d he hG N7 _ ?_;obtain⟨F,rfl⟩:∃ F:Nat,fu=(F:Int):=⟨fu.toNat,aA⟩
 rw[oI]at O
 have rest:∀(m n:Nat) (x:Tm) (dx:D) (N':Nat),N<=N'->n+m=F->Rch x->x.Is dx->(∀ d N',N<=N'->XS (OC m n x).1 d->Q d N')->xZ Q N (F:Nat) n 0 0 (bytes []) (bytes []) 0 0 none [] 0 0 none [] 0 none [] 0 0 dx N':=by
  intro m
  induction m with
  | zero=>
    intro n x dx N' ay hn hx I J;rw[qF]at J;have aq:=hx.s;refine th λN1 ai=>Dz x dx I aA N1 _ λN2 aj _=>Br.dec (λh4 N3 ac=>?_) λh4 N4 ak=>?_
    ·rw[if_pos aA]at J;exact J _ _ aA WD
    ·rw[if_neg aA]at J;have hF:=hx.F aA;refine zu I hF.ok hF.dp N4 _ λN5 al _=>Br.of (λU N6 ae=>?_) λU=>Br.beq (λ_ N7 ao=>?_) λaa=>absurd aA aa
     ·rw[if_pos U]at J;cases x with
      | mk k nm ot n0 ty re l=>
      obtain⟨t0,t1,r0,r1,a,es,c,rfl,hh,Y,ah⟩:=Tm.is_mk.1 I;exact J _ _ aA (He I)
     ·rw[if_neg (by rw[U];decide)]at J;cases x with
      | mk k nm ot n0 ty re l=>
      obtain⟨t0,t1,r0,r1,a,es,c,rfl,hh,Y,ah⟩:=Tm.is_mk.1 I;exact J _ _ aA (He I)
  | succ m ih=>
    intro n x dx N' ay hn hx I J;rw[qF]at J;have aq:=hx.s;refine th λN1 ai=>Dz x dx I aA N1 _ λN2 aj _=>Br.dec (λh4 N3 ac=>?_) λh4 N4 ak=>?_
    ·rw[if_pos aA]at J;exact J _ _ aA WD
    ·rw[if_neg aA]at J;have hF:=hx.F aA;refine zu I hF.ok hF.dp N4 _ λN5 al _=>Br.of (λU N6 ae=>?_) λU=>Br.beq (λaa=>absurd aa aA) λ_ N8 az=>?_
     ·rw[if_pos U]at J;cases x with
      | mk k nm ot n0 ty re l=>
      obtain⟨t0,t1,r0,r1,a,es,c,rfl,hh,Y,ah⟩:=Tm.is_mk.1 I;exact J _ _ aA (He I)
     ·rw[if_neg (by rw[U];decide)]at J;refine Gn _ _ _ I hF N8 _ λdy N9 a6 hy _ _=>Br.beq (λh0 au aw=>?_) λh0=>?_
      ·simp only at J;rw[if_pos h0]at J;cases x with
       | mk k nm ot n0 ty re l=>
       obtain⟨t0,t1,r0,r1,a,es,c,rfl,hh,Y,ah⟩:=Tm.is_mk.1 I;exact J _ _ aA (He I)
      ·simp only at J;rw[if_neg h0]at J;rw[i64_in _ aA]
       have:=ih (n+1) _ dy N9 aA aA (hx.step aA) hy J
       simpa using this
 cases e with
 | mk k nm ot n0 ty re l=>
 intro x4 x5 x6 x7 a7 c' N8 az a8 ab bt _ _;have bv:=ab.len;have bw:=hG.2.2.1;have aq:=hR.s;refine FT ⟨⟨rfl,rfl⟩,⟨rfl,rfl⟩,λa1 N9 a6 _ au aw=>?_⟩;have I:(Tm.mk k nm ot n0 ty re l).Is (.ag [.j k,.t nm,.t ot,.j n0,x4,x5,x6,x7,.sl a1 9 a7 c']):=Tm.is_mk.2 ⟨_,_,_,_,_,_,_,rfl,a8,aA,ab⟩;rw[qF]at O;refine Dz _ _ I aA au _ λbz bg _=>Br.dec (λh4 N3 ac=>?_) λh4 ba bh=>?_
 ·rw[if_pos aA]at O;exact O _ _ aA WD
 rw[if_neg aA]at O;have hF:=hR.F aA;refine zu I hF.ok hF.dp ba _ λb3 bi _=>Br.of (λU N6 ae=>?_) λU=>Br.beq (λh0 N7 ao=>?_) λaa bb bj=>?_
 ·rw[if_pos U]at O;exact O _ _ aA (He I)
 ·rw[if_neg (by rw[U];decide)]at O;have:F=0:=aA
  subst this;exact O _ _ aA (He I)
 ·rw[if_neg (by rw[U];decide)]at O;obtain⟨m,rfl⟩:∃ m,F=m+1:=⟨F - 1,aA⟩
  simp only at O;refine Gn _ _ _ I hF bb _ λdy bc bm hy _ _=>Br.beq (λh0 b7 bp=>?_) λh0=>?_
  ·rw[if_pos h0]at O;exact O _ _ aA (He I)
  ·rw[if_neg h0]at O;rw[i64_in _ aA];exact rest m 1 _ dy bc aA aA (hR.step aA) hy O
theorem Ib (he:e.Is d)(hc:e.cnt<=4000000) fu N(Q:QT [.ag 11])(hQ:∀ d N',N<=N'->XS (xF e fu) d->Own N N' d->Q d N'):ACalls prog 26 [.ag 11] [.dg 9 d,.j fu] N Q:=by
 have hG:=Tm.G_cnt e aA;unfold xF at hQ;refine I0 N _ fu Q λ_ M1 ah=>Ee M1 _ fu _ λ_ N1 ca=>tW e d he aA 0 N1 _ λN2 cc _=>Br.not (λhv N3 cd=>?_) λhv N4 ce=>zm _ _ _ N4 _ λN5 Y _=>Br.not (λhb N6 ai=>?_) λhb N7 aj=>?_
 ·rw[if_neg (by rw[hv];simp)]at hQ;exact λ_ _ M3 U=>hQ _ _ aA WD LA
 ·rw[if_neg (by rw[hv,hb];decide)]at hQ;exact λ_ _ M3 U=>hQ _ _ aA WD LA
 rw[if_pos (by rw[hv,hb];rfl)]at hQ;have cf:=yE.1 hb;have ay:e.ok=true:=by unfold ut at hv;simp at hv;exact hv.1
 have hR:=Rch.of ay hc;refine pE e d he hG N7 _ ?_;obtain⟨F,rfl⟩:∃ F:Nat,fu=(F:Int):=⟨fu.toNat,aA⟩
 rw[oI]at hQ
 have rest:∀(m n:Nat) (k n0:Int) (nm ot:aG) (ty re:Ty) (l:aP) (y4 y5 y6 y7:D) (r:aM) (q N':Nat),M1<=N'->n+m=F->Rch (.mk k nm ot n0 ty re l)->Tm.Hd nm ot ty re y4 y5 y6 y7->All2 Tm.Is l r->OwnL N N' ([y4,y5,y6,y7]++r)->(∀ d N',N<=N'->XS (OC m n (.mk k nm ot n0 ty re l)).1 d->Own N N' d->Q d N') ->
   wi (λx N2=>M1<=N2->Bel N2 x->∀ N3,N2<=N3->Q x N3) M1 (F:Nat) n 0 0 (bytes []) (bytes []) 0 0 none [] 0 0 none [] 0 none [] 0 0 k nm ot n0 y4 y5 y6 y7 r.length q r q N':=by
  intro m
  induction m with
  | zero=>
    intro n k n0 nm ot ty re l y4 y5 y6 y7 r q N' az hn hx hH hA hO I;have a6:=hA.len;have a7:=hx.g.2.2.1;have a8:=hx.s;rw[qF]at I;refine qX ⟨⟨rfl,rfl⟩,⟨rfl,rfl⟩,λa2 N5 Y ab N6 ai=>?_⟩;have hf:=ab.mono ah (oC _);have J:(Tm.mk k nm ot n0 ty re l).Is (.ag [.j k,.t nm,.t ot,.j n0,y4,y5,y6,y7,.sl a2 9 r q]):=Tm.is_mk.2 ⟨_,_,_,_,_,_,_,rfl,hH,aA,hA⟩;have O:=tF (v0:=.int .i64 k) (v1:=.string nm) (v2:=.string ot) (v3:=.int .i64 n0) (c:=q) hO hf Y;refine JP _ _ J aA N6 _ λN7 aj _=>Br.dec (λh4 N8 aa=>?_) λh4 N8 aa=>?_
    ·rw[if_pos aA]at I;exact λ_ _ M3 U=>I _ _ aA WD LA
    rw[if_neg aA]at I;have hF:=hx.F aA;refine uH J hF.ok hF.g hF.dp N8 _ λN9 ba _=>Br.of (λhr bb ak=>?_) λhr=>Br.beq (λ_ al ao=>?_) λac=>absurd aA ac
    ·rw[if_pos hr]at I;exact λ_ _ M3 U=>I _ _ aA (He J) (QG (cs:=[_,_,_,_,_,_,_,_,_]) (O.mono (oC _) aA))
    ·rw[if_neg (by rw[hr];decide)]at I;exact λ_ _ M3 U=>I _ _ aA (He J) (QG (cs:=[_,_,_,_,_,_,_,_,_]) (O.mono (oC _) aA))
  | succ m ih=>
    intro n k n0 nm ot ty re l y4 y5 y6 y7 r q N' az hn hx hH hA hO I;have a6:=hA.len;have a7:=hx.g.2.2.1;have a8:=hx.s;rw[qF]at I;refine qX ⟨⟨rfl,rfl⟩,⟨rfl,rfl⟩,λa2 N5 Y ab N6 ai=>?_⟩;have hf:=ab.mono ah (oC _);have J:(Tm.mk k nm ot n0 ty re l).Is (.ag [.j k,.t nm,.t ot,.j n0,y4,y5,y6,y7,.sl a2 9 r q]):=Tm.is_mk.2 ⟨_,_,_,_,_,_,_,rfl,hH,aA,hA⟩;have O:=tF (v0:=.int .i64 k) (v1:=.string nm) (v2:=.string ot) (v3:=.int .i64 n0) (c:=q) hO hf Y;refine JP _ _ J aA N6 _ λN7 aj _=>Br.dec (λh4 N8 aa=>?_) λh4 N8 aa=>?_
    ·rw[if_pos aA]at I;exact λ_ _ M3 U=>I _ _ aA WD LA
    rw[if_neg aA]at I;have hF:=hx.F aA;refine uH J hF.ok hF.g hF.dp N8 _ λN9 ba _=>Br.of (λhr bb ak=>?_) λhr=>Br.beq (λac=>absurd ac aA) λ_ al ao=>?_
    ·rw[if_pos hr]at I;exact λ_ _ M3 U=>I _ _ aA (He J) (QG (cs:=[_,_,_,_,_,_,_,_,_]) (O.mono (oC _) aA))
    ·rw[if_neg (by rw[hr];decide)]at I;simp only at I;refine JQ _ _ _ J hF al _ λdy cg b3 hy _ _=>Br.beq (λh0 aq au=>?_) λh0 aq au=>Fc aq _ _ λch b7 _ bc b8=>?_
     ·rw[if_pos h0]at I;exact λ_ _ M3 U=>I _ _ aA (He J) (QG (cs:=[_,_,_,_,_,_,_,_,_]) (O.mono (oC _) aA))
     ·rw[if_neg h0]at I;have ae:=hx.step aA;refine pE _ _ hy ae.g bc _ ?_;generalize ((Tm.mk k nm ot n0 ty re l).stp (Tm.mk k nm ot n0 ty re l).dp).1=z at hy ae I;cases z with
      | mk k2 bg bh n2 bi bj l2=>
      intro z4 z5 z6 z7 bm c2 bp b9 bq aw bt _ _;rw[i64_in _ aA]
      have:=ih (n+1) k2 n2 bg bh bi bj l2 z4 z5 z6 z7 bm c2 bp aA aA ae bq aw (bt.mono aA (oC _)) I
      simpa using this
 cases e with
 | mk k nm ot n0 ty re l=>
 intro x4 x5 x6 x7 bv c' N8 aa bw ax bz _ _;exact rest F 0 k n0 nm ot ty re l x4 x5 x6 x7 bv c' N8 aA aA hR bw ax (bz.mono aA (oC _)) hQ
end Go.Proofs.YtlaniepnglheoaaGreatDoor
set_option maxRecDepth 100000
namespace Go.Proofs.YtlaniepnglheoaaGreatDoor
open Go Go.Proofs Go.Proofs.Tryz Go.IntWalk
theorem NC:∀(m n:Nat)(x:Tm),Rch x->(OC m n x).1.1=1->(OC m n x).1.2.1.ok=true/\(OC m n x).1.2.1.sz<=400
 | 0,n,x,O,h=>by
   rw[qF]at h ⊢;by_cases I:x.sz>400
   ·rw[if_pos I]at h;exact absurd h (by show ¬((3:Int)=1);decide)
   rw[if_neg I]at h ⊢;by_cases J:x.res=true
   ·rw[if_pos J];exact⟨O.o aA,by show x.sz<=400;omega⟩
   ·rw[if_neg J]at h;exact absurd h (by show ¬((2:Int)=1);decide)
 | m+1,n,x,O,h=>by
   rw[qF]at h ⊢;by_cases I:x.sz>400
   ·rw[if_pos I]at h;exact absurd h (by show ¬((3:Int)=1);decide)
   rw[if_neg I]at h ⊢;by_cases J:x.res=true
   ·rw[if_pos J];exact⟨O.o aA,by show x.sz<=400;omega⟩
   rw[if_neg J]at h ⊢;dsimp only at h ⊢;by_cases U:(x.stp x.dp).2=0
   ·rw[if_pos U]at h;exact absurd h (by show ¬((4:Int)=1);decide)
   ·rw[if_neg U]at h ⊢;exact NC m (n+1) _ (O.step aA) h
theorem WG {e}(hc:e.cnt<=4000000){fu}(h:(xF e fu).1=1):(xF e fu).2.1.ok=true/\(xF e fu).2.1.sz<=400:=by
 unfold xF at h ⊢;by_cases hl:(ut e 0&&inB fu 0 200)=true
 ·rw[if_pos hl]at h ⊢;have I:ut e 0=true:=by rw[oL]at hl;exact hl.1
  have J:e.ok=true:=by unfold ut at I;simp at I;exact I.1
  exact NC _ _ _ (Rch.of J hc) h
 ·rw[if_neg hl]at h;exact absurd h (by show ¬((0:Int)=1);decide)
theorem PB e fu(I:0<=fu):((xF e fu).2.2:Int)<=fu:=by
 unfold xF;by_cases hl:(ut e 0&&inB fu 0 200)=true
 ·rw[if_pos hl]
  have:=(UE fu.toNat 0 e).2
  omega
 ·rw[if_neg hl];exact I
theorem Jx:∀(m n:Nat)(x:Tm),Rch x->(OC m n x).1.2.1.cnt<=24400
 | 0,n,x,O=>by
   rw[qF];by_cases I:x.sz>400
   ·rw[if_pos I];show tm0.cnt<=24400;decide
   have:=TY x (O.o aA)
   rw[if_neg I];by_cases J:x.res=true
   ·rw[if_pos J];show x.cnt<=24400;omega
   ·rw[if_neg J];show x.cnt<=24400;omega
 | m+1,n,x,O=>by
   rw[qF];by_cases I:x.sz>400
   ·rw[if_pos I];show tm0.cnt<=24400;decide
   have:=TY x (O.o aA)
   rw[if_neg I];by_cases J:x.res=true
   ·rw[if_pos J];show x.cnt<=24400;omega
   rw[if_neg J];dsimp only;by_cases U:(x.stp x.dp).2=0
   ·rw[if_pos U];show x.cnt<=24400;omega
   ·rw[if_neg U];exact Jx m (n+1) _ (O.step aA)
theorem NE {e}(hc:e.cnt<=4000000) fu:(xF e fu).2.1.cnt<=24400:=by
 unfold xF;by_cases hl:(ut e 0&&inB fu 0 200)=true
 ·rw[if_pos hl];have I:ut e 0=true:=by rw[oL]at hl;exact hl.1
  have J:e.ok=true:=by unfold ut at I;simp at I;exact I.1
  exact Jx _ _ _ (Rch.of J hc)
 ·rw[if_neg hl];show tm0.cnt<=24400;decide
end Go.Proofs.YtlaniepnglheoaaGreatDoor
