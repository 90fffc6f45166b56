/- Substitution and steps: sizes, and that terms stay terms (no program in sight). -/
import Derived.Test.YtlaniepnglheoaaGreatDoorA9
import Derived.Test.YtlaniepnglheoaaGreatDoorKa
import Derived.Test.YtlaniepnglheoaaGreatDoorKd
set_option linter.unusedVariables false
set_option linter.unusedSimpArgs false
namespace Go.Proofs.YtlaniepnglheoaaGreatDoor
open Go Go.Proofs Go.Proofs.Tryz Go.IntWalk
theorem wb:∀ {l:List Tm}{t:Tm},t∈l->t.sz<=zO l
 | u::us,t,h=>by
   simp only[zO];rcases oL.1 h with rfl | h
   ·omega
   ·have:=wb h;omega
theorem Tm.sz_pos (t:Tm):1<=t.sz:=by cases t;simp only[Tm.sz];omega
theorem LJ:∀ {l:List Tm},sW l=true↔∀ x∈l,x.ok=true
 | []=>by simp[sW]
 | t::ts=>by simp only[sW,oK,LJ (l:=ts),oL,mY]
theorem szL:∀ {l' l:List Tm},l'.length=l.length->(∀(i:Nat)(t' t:Tm),l'[i]?=some t'->l[i]?=some t->t.sz<=t'.sz)->zO l<=zO l'
 | [],[],_,_=>oC _
 | [],_::_,h,_=>by simp at h
 | _::_,[],h,_=>by simp at h
 | t'::I,t::ts,h,J=>by have Y:=szL (l':=I) (l:=ts) (by simpa using h) λi a b O U=>J (i+1) a b (by simpa using O) (by simpa using U);have h0:=J 0 t' t (by simp) (by simp);simp only[zO];omega
theorem RO {f:Nat}(I:∀ t x y,t.V->t.sz<=(Tm.sub f t x (sZ y)).sz)(k:Int)(n:Nat)(fb:List ByteArray)(x:ByteArray):∀(l:List ByteArray)(s:ByteArray × ByteArray × Tm),s.2.2.V->s.2.2.sz<=(rns (Tm.sub f) k n fb x l s).2.2.sz
 | [],s,_=>oC _
 | old::l,s,J=>by
   have O:=RO I k n fb x l (rn1 (Tm.sub f) k n fb x old s) ((JM (u3 f) k n fb x old s).v J);have U:s.2.2.sz<=(rn1 (Tm.sub f) k n fb x old s).2.2.sz:=by
    unfold rn1;split
    ·split<;>exact I _ _ _ J
    ·exact oC _
   simp only[rns];omega
theorem IB:∀(f:Nat)(t:Tm)(x:ByteArray)(b:Tm),t.V->t.sz<=(t.sub f x b).sz
 | 0,t,x,b,_=>by simp only[Tm.sub];exact oC _
 | f + 1,.mk k nm ot n ty re l,x,b,hv=>by
   have Y:=IB f;have O:=tj.1 hv.2;simp only[Tm.sub];split
   ·rename_i hk;split
    ·rw[hv.1 (by assumption)];simp only[Tm.sz,zO];exact Tm.sz_pos b
    ·exact oC _
   ·split
    ·simp only[Tm.sz]
     have:=szL (l':=l.map λt=>Tm.sub f t x b) (l:=l) (by simp) λi t' t I J=>by rw[oF,J]at I;cases I;exact Y t x b (O t (oB J))
     omega
    ·rename_i hb;obtain⟨g1,g2⟩:=xw hb;split
     ·simp only[Tm.sz]
      have:=szL (l':=(l.map λt=>Tm.sub f t x b).set (yX k l.length).toNat (l.getD (yX k l.length).toNat tm0)) (l:=l) (by simp) λi t' t I J=>by
       rcases C5 I J with⟨h1,U⟩ | ⟨h1,U⟩
       ·rw[h1,zi g1]at J;rw[U,<-oX J];exact oC _
       ·rw[U];exact Y t x b (O t (oB J))
      omega
     ·simp only[Tm.sz]
      have:=szL (l':=(l.map λt=>Tm.sub f t x b).set (yX k l.length).toNat (Tm.sub f (rns (Tm.sub f) k l.length b.fv x (bdN k nm ot l.length) (nm,ot,l.getD (yX k l.length).toNat tm0)).2.2 x b)) (l:=l) (by simp) λi t' t I J=>by
       rcases C5 I J with⟨h1,U⟩ | ⟨h1,U⟩
       ·rw[h1,zi g1]at J;rw[U,<-oX J];have aa:=O _ (oB (zi g1));exact oR (RO (λt x y h=>Y t x _ h) k l.length b.fv x (bdN k nm ot l.length) (nm,ot,l.getD (yX k l.length).toNat tm0) aa) (Y _ x b ((qv (u3 f) _ _ _ _ _ _).v aa))
       ·rw[U];exact Y t x b (O t (oB J))
      omega
theorem UX {k:Int}{s w ot:ByteArray}{n:Nat}(v:ByteArray)(h:s∈bdN k w ot n):s=w\/s∈bdN k v ot n:=by
 unfold bdN at h ⊢;split at h
 ·simp at h;exact .inl h
 ·rename_i I;rw[if_neg I];split at h
  ·simp at h;exact .inl h
  ·rename_i J;rw[if_neg J];split at h
   ·rename_i O;rw[if_pos O];simp at h;rcases h with h | h
    ·exact .inl h
    ·exact .inr (by simp[h])
   ·simp at h
theorem UY {k:Int}{s nm w:ByteArray}{n:Nat}(v:ByteArray)(h:s∈bdN k nm w n):s=w\/s∈bdN k nm v n:=by
 unfold bdN at h ⊢;split at h
 ·rename_i I;rw[if_pos I];exact .inr h
 ·rename_i I;rw[if_neg I];split at h
  ·rename_i J;rw[if_pos J];exact .inr h
  ·rename_i J;rw[if_neg J];split at h
   ·rename_i O;rw[if_pos O];simp at h;rcases h with h | h
    ·exact .inr (by simp[h])
    ·exact .inl h
   ·simp at h
theorem QL:∀(f:Nat) (t:Tm) (s x:ByteArray) (b:Tm),s∈t.fv->s≠x->s∈(t.sub f x b).fv
 | 0,t,s,x,b,h,_=>by simp only[Tm.sub];exact h
 | f + 1, .mk k nm ot n ty re l,s,x,b,h,J=>by
   have ih:=QL f;rw[Tm.fv_mem]at h;simp only[Tm.sub];split
   ·rename_i O;rcases h with⟨_,h⟩ | ⟨h,_⟩
    ·rw[if_neg (λhc=>J (by rw[h,hc]))];rw[Tm.fv_mem];exact .inl ⟨O,h⟩
    ·exact absurd O h
   ·rename_i O;obtain⟨j,p,hj,hs⟩:∃(j:Nat) (x:Tm),l[j]?=some x/\s∈fvI (yX k l.length) (bdN k nm ot l.length) j x:=by
     rcases h with⟨h,_⟩ | ⟨_,h⟩
     ·exact absurd h O
     ·exact h
    unfold fvI at hs;split
    ·rename_i hb;rw[Tm.fv_mem];refine .inr ⟨O,j,p.sub f x b,by rw[oF,hj];rfl,?_⟩;rw[if_neg (by omega)]at hs;unfold fvI;rw[nF,if_neg (by omega)];exact ih p s x b hs J
    ·rename_i hb;obtain⟨g1,g2⟩:=xw hb;have aa:j<l.length:=(oD.1 hj).1;have U:=zi g1;split
     ·rw[Tm.fv_mem];by_cases I:(j:Int)=yX k l.length
      ·refine .inr ⟨O,j,p,?_,?_⟩
       ·have:(yX k l.length).toNat=j:=by omega
        rw[this]at U ⊢;rw[nA (by simpa using aa),<-oX (U.symm.trans hj)]
       ·unfold fvI;simp only[nX,nF];exact hs
      ·refine .inr ⟨O,j,p.sub f x b,?_,?_⟩
       ·rw[nE (by omega),oF,hj];rfl
       ·rw[if_neg I]at hs;unfold fvI;simp only[nX,nF];rw[if_neg I];exact ih p s x b hs J
     ·rw [Tm.fv_mem];by_cases I:(j:Int)=yX k l.length
      ·have ae:(yX k l.length).toNat=j:=by omega
       rw[ae]at U ⊢;have ah:l.getD j tm0=p:=oX (U.symm.trans hj);rw[ah];rw[if_pos I,uU]at hs;obtain⟨ai,ab⟩:=hs;have r1:∀(old:ByteArray) (st:ByteArray × ByteArray × Tm),s≠old->s∈st.2.2.fv->s∉bdN k st.1 st.2.1 l.length->s∈(rn1 (Tm.sub f) k l.length b.fv x old st).2.2.fv/\s∉bdN k (rn1 (Tm.sub f) k l.length b.fv x old st).1 (rn1 (Tm.sub f) k l.length b.fv x old st).2.1 l.length:=λold st h1 Y h3=>by
        unfold rn1;have ac:=FQ (b.fv++(st.2.2.fv++([x]++bdN k st.1 st.2.1 l.length)));generalize fresh (b.fv++(st.2.2.fv++([x]++bdN k st.1 st.2.1 l.length)))=w at ac;have hw:s≠w:=λhc=>ac (by rw[<-hc];simp[Y]);split
        ·split
         ·exact⟨ih _ _ _ _ Y h1,λhc=>(UX st.1 hc).elim hw h3⟩
         ·exact⟨ih _ _ _ _ Y h1,λhc=>(UY st.2.1 hc).elim hw h3⟩
        ·exact⟨Y,h3⟩
       have rs:∀(ns:List ByteArray) (st:ByteArray × ByteArray × Tm),(∀ o∈ns,s≠o)->s∈st.2.2.fv->s∉bdN k st.1 st.2.1 l.length->s∈(rns (Tm.sub f) k l.length b.fv x ns st).2.2.fv/\s∉bdN k (rns (Tm.sub f) k l.length b.fv x ns st).1 (rns (Tm.sub f) k l.length b.fv x ns st).2.1 l.length:=by
        intro ns
        induction ns with
        | nil=>exact λst _ Y h3=>⟨Y,h3⟩
        | cons o os aj=>intro st h1 Y h3;obtain⟨a1,a2⟩:=r1 o st (h1 o (by simp)) Y h3;exact aj _ (λo' ho=>h1 o' (by simp[ho])) a1 a2
       obtain⟨a1,a2⟩:=rs (bdN k nm ot l.length) (nm,ot,p) (λo ho hc=>ab (hc ▸ ho)) ai ab;refine .inr ⟨O,j,_,nA (by simpa using aa),?_⟩;unfold fvI;simp only[nX,nF];rw[if_pos I,uU];exact⟨ih _ _ _ _ a1 J,a2⟩
      ·refine .inr ⟨O,j,p.sub f x b,?_,?_⟩
       ·rw[nE (by omega),oF,hj];rfl
       ·rw[if_neg I]at hs;unfold fvI;simp only[nX,nF];rw[if_neg I];exact ih p s x b hs J
theorem RN {f:Nat}(k:Int)(n:Nat)(fb:List ByteArray)(x:ByteArray):∀(l:List ByteArray)(s:ByteArray × ByteArray × Tm),x∉l->x∈s.2.2.fv->x∈(rns (Tm.sub f) k n fb x l s).2.2.fv
 | [],s,_,h=>h
 | old::l,s,J,h=>by
   refine RN k n fb x l _ (λhc=>J (by simp[hc])) ?_;unfold rn1;have I:x≠old:=λhc=>J (by simp[hc]);split
   ·split<;>exact QL f _ _ _ _ h I
   ·exact h
theorem Re:∀(f:Nat)(t:Tm)(x:ByteArray)(b:Tm),t.dp<=f->x∈t.fv->b.sz<=(t.sub f x b).sz
 | 0,t,x,b,h,_=>absurd (Tm.dp_pos t) (by omega)
 | f + 1,.mk k nm ot n ty re l,x,b,hd,h=>by
   have ih:=Re f;rw[Tm.fv_mem]at h;simp only[Tm.dp]at hd;have ae:=λy hy=>ti.1 (mV hd) y hy;simp only[Tm.sub];split
   ·rename_i hk;rcases h with⟨_,h⟩ | ⟨h,_⟩
    ·rw[if_pos h.symm];exact oC _
    ·exact absurd hk h
   ·rename_i hk;obtain⟨j,p,U,hs⟩:∃(j:Nat) (y:Tm),l[j]?=some y/\x∈fvI (yX k l.length) (bdN k nm ot l.length) j y:=by
     rcases h with⟨h,_⟩ | ⟨_,h⟩
     ·exact absurd h hk
     ·exact h
    unfold fvI at hs;have J:=ae p (oB U);have fin:∀(aa ab:ByteArray) (l':List Tm) (y:Tm),l'[j]?=some y->b.sz<=y.sz->b.sz<=(Tm.mk k aa ab n ty re l').sz:=λaa ab l' y h1 h2=>by
     have:=wb (oB h1)
     simp only[Tm.sz];omega
    split
    ·rename_i hb;rw[if_neg (by omega)]at hs;exact fin _ _ _ (p.sub f x b) (by rw[oF,U];rfl) (ih p x b J hs)
    ·rename_i hb;obtain⟨g1,g2⟩:=xw hb;have ah:j<l.length:=(oD.1 U).1;have O:=zi g1;split
     ·rename_i hc;by_cases I:(j:Int)=yX k l.length
      ·exfalso;have:(yX k l.length).toNat=j:=by omega
       rw[this]at O hc;have Y:l.getD j tm0=p:=oX (O.symm.trans U);rw[if_pos I,uU]at hs;rw[Y]at hc;rcases hc with hc | hc
       ·exact hs.2 hc
       ·exact hc hs.1
      ·rw[if_neg I]at hs;exact fin _ _ _ (p.sub f x b) (by rw[nE (by omega),oF,U];rfl) (ih p x b J hs)
     ·rename_i hc;by_cases I:(j:Int)=yX k l.length
      ·have ai:(yX k l.length).toNat=j:=by omega
       rw[ai]at O ⊢;have Y:l.getD j tm0=p:=oX (O.symm.trans U);rw[Y];rw[if_pos I,uU]at hs;have aj:=qv (u3 f) k l.length b.fv x (bdN k nm ot l.length) (nm,ot,p);have ac:=aj.d;refine fin _ _ _ _ (nA (by simpa using ah)) (ih _ x b (oR ac J) (RN _ _ _ _ _ _ hs.2 hs.1))
      ·rw[if_neg I]at hs;exact fin _ _ _ (p.sub f x b) (by rw[nE (by omega),oF,U];rfl) (ih p x b J hs)
theorem P9 {k:Nat}(h:k<=999):Lib.decDigits k=(if k<10 then [UInt8.ofNat (48+k)]else if k<100 then [UInt8.ofNat (48+k / 10),UInt8.ofNat (48+k % 10)]else [UInt8.ofNat (48+k / 10 / 10),UInt8.ofNat (48+k / 10 % 10),UInt8.ofNat (48+k % 10)]):=by
 have e1:∀ u,u<10->Lib.decDigits u=[UInt8.ofNat (48+u)]:=λu h=>by rw[Lib.decDigits,dif_pos h]
 have J:∀ u,¬u<10->Lib.decDigits u=Lib.decDigits (u / 10)++[UInt8.ofNat (48+u % 10)]:=λu h=>by rw[Lib.decDigits,dif_neg h]
 split
 ·rename_i I;exact e1 k I
 ·rename_i I;rw[J k I];split
  ·rename_i O;rw[e1 _ (by omega)];rfl
  ·rename_i O;rw[J (k / 10) (by omega),e1 _ (by omega)];rfl
theorem QS:∀ a:_root_.Fin 10,yK ⟨#[118,UInt8.ofNat (48+a.val)]⟩=true:=by decide +kernel
theorem QU:∀ a b:_root_.Fin 10,yK ⟨#[118,UInt8.ofNat (48+a.val),UInt8.ofNat (48+b.val)]⟩=true:=by decide +kernel
theorem QV:∀ a b c:_root_.Fin 10,yK ⟨#[118,UInt8.ofNat (48+a.val),UInt8.ofNat (48+b.val),UInt8.ofNat (48+c.val)]⟩=true:=by decide +kernel
theorem Sc {k:Nat}(h:k<=999):yK (tD k)=true:=by
 unfold tD;rw[P9 h];split
 ·rename_i I;exact QS ⟨k,I⟩
 ·split
  ·rename_i I J;exact QU ⟨k / 10,by omega⟩ ⟨k % 10,by omega⟩
  ·rename_i I J;exact QV ⟨k / 10 / 10,by omega⟩ ⟨k / 10 % 10,by omega⟩ ⟨k % 10,by omega⟩
theorem Kn {l:List ByteArray}(h:l.length<=998):yK (fresh l)=true:=by obtain⟨k,e,_,I,_,_⟩:=sL l;rw[e];exact Sc (by omega)
theorem Tm.vc_sz:∀ t:Tm,t.vc<=t.sz:=by
 refine Tm.ind λk nm ot n ty re l J=>?_;have key:∀ l:List Tm,(∀ t∈l,t.vc<=t.sz)->pp l<=zO l:=by
  intro l
  induction l with
  | nil=>intro _;exact oC _
  | cons t ts I=>intro h;have U:=h t (by simp);have Y:=I λx O=>h x (by simp[O]);simp only[pp,zO];omega
 have:=key l J
 simp only[Tm.vc,Tm.sz];split<;>omega
theorem Tm.ok_mk {k:Int}{nm ot:ByteArray}{n:Int}{ty re:Ty}{l:List Tm}:(Tm.mk k nm ot n ty re l).ok=true↔(∀ x∈l,x.ok=true)/\zI k nm ot n ty re=true/\(l.length:Int)=GX k nm:=by simp only[Tm.ok,oK,LJ,mK]
theorem Ro {s:ByteArray}(h:yK s=true):(sZ s).ok=true:=by
 refine Tm.ok_mk.2 ⟨by simp,?_,rfl⟩;have:(Ty.mk 0 []).valid=false:=by decide +kernel
 simp[zI,ri,this,Ty.zero,Ty.k,Ty.as,inB,zw,h]
theorem QF {k:Int}{nm ot I J:ByteArray}{n:Int}{ty re:Ty}{m:Nat}(hb:¬yX k m<0)(h:zI k nm ot n ty re=true)(U:yK I=true)(Y:k=9->yK J=true/\I≠J)(O:k≠9->J=ot):zI k I J n ty re=true/\(GX k I=GX k nm):=by
 have hk:k=6\/k=8\/k=9:=by
  rcases vV k m with h | ⟨_,_,h | h⟩ | ⟨_,_,h⟩
  ·omega
  ·exact .inl h
  ·exact .inr (.inr h)
  ·exact .inr (.inl h)
 rcases hk with rfl | rfl | rfl
 ·have O:=O (by decide);subst O;refine⟨?_,rfl⟩;simp only[zI,zw,oK]at h ⊢;simp[U]at h ⊢;exact⟨h.1,h.2.1,h.2.2.1,h.2.2.2.1,h.2.2.2.2.1,h.2.2.2.2.2.2⟩
 ·have O:=O (by decide);subst O;refine⟨?_,rfl⟩;simp only[zI,zw,oK]at h ⊢;simp[U]at h ⊢;exact⟨h.1,h.2.1,h.2.2.1,h.2.2.2.1,h.2.2.2.2.1,h.2.2.2.2.2.2⟩
 ·obtain⟨h4,h5⟩:=Y rfl;refine⟨?_,rfl⟩;simp only[zI,zw,oK]at h ⊢;simp[U,h4,h5]at h ⊢;exact⟨h.1,h.2.1,h.2.2.1,h.2.2.2.1⟩
theorem Su {k:Int}{nm ot:ByteArray}{n:Int}{ty re:Ty}{m:Nat}(J:¬yX k m<0)(h:zI k nm ot n ty re=true):yK nm=true/\(k=9->yK ot=true/\nm≠ot):=by
 have I:k=6\/k=8\/k=9:=by
  rcases vV k m with h | ⟨_,_,h | h⟩ | ⟨_,_,h⟩
  ·omega
  ·exact .inl h
  ·exact .inr (.inr h)
  ·exact .inr (.inl h)
 rcases I with rfl | rfl | rfl
 ·simp only[zI,zw,oK]at h;refine⟨?_,λh=>absurd h (by decide)⟩;simp at h;exact h.2.2.2.2.2.1
 ·simp only[zI,zw,oK]at h;refine⟨?_,λh=>absurd h (by decide)⟩;simp at h;exact h.2.2.2.2.2.1
 ·simp only[zI,zw,oK]at h;simp at h;exact⟨h.2.2.2.2.1,λ_=>⟨h.2.2.2.2.2.1,h.2.2.2.2.2.2⟩⟩
theorem UH:∀(f:Nat) (e:Tm) (x:ByteArray) (b:Tm),e.dp<=f->e.ok=true->b.ok=true->(e.sub f x b).sz<=400->(e.sub f x b).ok=true
 | 0,e,x,b,h,_,_,_=>absurd (Tm.dp_pos e) (by omega)
 | f + 1, .mk k nm ot n ty re l,x,b,hd,he,hb,hs=>by
   have ih:=UH f;obtain⟨h1,h2,h3⟩:=Tm.ok_mk.1 he;simp only[Tm.dp]at hd;have ae:=λy hy=>ti.1 (mV hd) y hy;simp only[Tm.sub]at hs ⊢;split
   ·rename_i hk;rw[if_pos hk]at hs;split
    ·exact hb
    ·exact he
   ·rename_i hk;rw[if_neg hk]at hs;split
    ·rename_i O;rw[if_pos O]at hs;refine Tm.ok_mk.2 ⟨λy hy=>?_,h2,by simpa using h3⟩;obtain⟨z,hz,rfl⟩:=oU.1 hy
     have:=wb hy
     simp only[Tm.sz]at hs;exact ih z x b (ae z hz) (h1 z hz) hb (by omega)
    ·rename_i O;rw[if_neg O]at hs;obtain⟨g1,g2⟩:=xw O;have ai:=zi g1;have U:=oB ai;generalize hp:l.getD (yX k l.length).toNat tm0=p at hs ai U ⊢;have parts:∀(v:Tm) (s:Nat),v.ok=true->zO ((l.map λt=>Tm.sub f t x b).set (yX k l.length).toNat v)<=400->∀ y∈(l.map λt=>Tm.sub f t x b).set (yX k l.length).toNat v,y.ok=true:=λv s hv hs y hy=>by
      have a8:=wb hy;rcases nM hy with hy | rfl
      ·obtain⟨z,hz,rfl⟩:=oU.1 hy;exact ih z x b (ae z hz) (h1 z hz) hb (by omega)
      ·exact hv
     split
     ·rename_i hc;rw[if_pos hc]at hs;simp only[Tm.sz]at hs;exact Tm.ok_mk.2 ⟨parts _ 0 (h1 p U) (by omega),h2,by simpa using h3⟩
     ·rename_i hc;rw[if_neg hc]at hs;have aq:x∉bdN k nm ot l.length:=λh=>hc (.inl h);have au:x∈p.fv:=mP.1 λh=>hc (.inr h);have aj:=Vu p (h1 p U);have Y:=ae p U;obtain⟨n1,n2⟩:=Su O h2;have ab:=qv (u3 f) k l.length b.fv x (bdN k nm ot l.length) (nm,ot,p);have ac:=ab.d;have aw:=wb (oB (nA (l:=l.map λt=>Tm.sub f t x b) (i:=(yX k l.length).toNat) (a:=Tm.sub f (rns (Tm.sub f) k l.length b.fv x (bdN k nm ot l.length) (nm,ot,p)).2.2 x b) (by simpa using g1)));simp only[Tm.sz]at hs;have ax:=RN (f:=f) k l.length b.fv x (bdN k nm ot l.length) (nm,ot,p) aq au;have ba:=Re f _ x b (oR ac Y) ax;have bb:=IB f (rns (Tm.sub f) k l.length b.fv x (bdN k nm ot l.length) (nm,ot,p)).2.2 x b (ab.v aj);have bc:=Tm.fv_len b;have bd:=Tm.vc_sz b;have bg:b.fv.length<=400:=by omega
      have r1:∀(old:ByteArray) (st:ByteArray × ByteArray × Tm),old∈bdN k st.1 st.2.1 l.length->st.2.2.ok=true->st.2.2.dp<=f->(rn1 (Tm.sub f) k l.length b.fv x old st).2.2.sz<=400->yK st.1=true->(k=9->yK st.2.1=true/\st.1≠st.2.1) ->
        (rn1 (Tm.sub f) k l.length b.fv x old st).2.2.ok=true/\yK (rn1 (Tm.sub f) k l.length b.fv x old st).1=true/\(k=9->yK (rn1 (Tm.sub f) k l.length b.fv x old st).2.1=true/\(rn1 (Tm.sub f) k l.length b.fv x old st).1≠(rn1 (Tm.sub f) k l.length b.fv x old st).2.1)/\(k≠9->(rn1 (Tm.sub f) k l.length b.fv x old st).2.1=st.2.1):=λold st ho a1 a2 a3 a4 a5=>by
       have ak:=FQ (b.fv++(st.2.2.fv++([x]++bdN k st.1 st.2.1 l.length)));unfold rn1 at a3 ⊢;split
       ·rename_i hold;rw[if_pos hold]at a3;have bh:st.2.2.sz<=400:=by
         split at a3
         ·exact oR (IB f _ _ _ (Vu _ a1)) a3
         ·exact oR (IB f _ _ _ (Vu _ a1)) a3
        have bi:=Tm.fv_len st.2.2;have bj:=Tm.vc_sz st.2.2;have bm:=qC k st.1 st.2.1 l.length;have aa:=Kn (l:=b.fv++(st.2.2.fv++([x]++bdN k st.1 st.2.1 l.length))) (by simp only[oH,oJ,oN];omega);generalize fresh (b.fv++(st.2.2.fv++([x]++bdN k st.1 st.2.1 l.length)))=w at ak aa a3 ⊢;have hw:w∉bdN k st.1 st.2.1 l.length:=λh=>ak (by simp[h]);split
        ·rename_i hq;rw[if_pos hq]at a3;refine⟨ih _ _ _ a2 a1 (Ro aa) a3,aa,λh9=>⟨(a5 h9).1,λJ=>hw ?_⟩,λ_=>rfl⟩;subst h9;have h9:l.length=1:=by rcases vV 9 l.length with h | ⟨_,h,_⟩ | ⟨_,_,h⟩<;>first | exact h | omega
         have J:w=st.2.1:=J;rw[h9,J];simp[bdN]
        ·rename_i hq;rw[if_neg hq]at a3;have h9:k=9:=by
          unfold bdN at ho
          (repeat' split at ho)<;>simp_all
         subst h9;have ah:l.length=1:=by rcases vV 9 l.length with h | ⟨_,h,_⟩ | ⟨_,_,h⟩<;>first | exact h | omega
         refine⟨ih _ _ _ a2 a1 (Ro aa) a3,a4,λ_=>⟨aa,λJ=>hw ?_⟩,λh=>absurd rfl h⟩;have J:st.1=w:=J;rw[ah,<-J];simp[bdN]
       ·exact⟨a1,a4,a5,λ_=>rfl⟩
      have al:∀(os:List ByteArray) (st:ByteArray × ByteArray × Tm),st.2.2.V->(rns (Tm.sub f) k l.length b.fv x os st).2.2.sz<=400->st.2.2.sz<=400:=λos st hv h=>oR (RO (λt x y h=>IB f t x _ h) _ _ _ _ _ _ hv) h;have fin:(rns (Tm.sub f) k l.length b.fv x (bdN k nm ot l.length) (nm,ot,p)).2.2.ok=true/\yK (rns (Tm.sub f) k l.length b.fv x (bdN k nm ot l.length) (nm,ot,p)).1=true /\
        (k=9->yK (rns (Tm.sub f) k l.length b.fv x (bdN k nm ot l.length) (nm,ot,p)).2.1=true/\(rns (Tm.sub f) k l.length b.fv x (bdN k nm ot l.length) (nm,ot,p)).1≠(rns (Tm.sub f) k l.length b.fv x (bdN k nm ot l.length) (nm,ot,p)).2.1) /\
        (k≠9->(rns (Tm.sub f) k l.length b.fv x (bdN k nm ot l.length) (nm,ot,p)).2.1=ot):=by
       have I:(rns (Tm.sub f) k l.length b.fv x (bdN k nm ot l.length) (nm,ot,p)).2.2.sz<=400:=by omega
       have ay:bdN k nm ot l.length=[nm]\/(k=9/\l.length=1/\bdN k nm ot l.length=[nm,ot]):=by
        rcases vV k l.length with h | ⟨_,h,h | h⟩ | ⟨_,h,h'⟩
        ·omega
        ·left;subst h;rw[show l.length=1 from ‹_›];simp[bdN]
        ·right;subst h;rw[show l.length=1 from ‹_›];simp[bdN]
        ·left;subst h';rw[h];simp[bdN]
       rcases ay with e | ⟨ao,ah,e⟩
       ·rw[e]at I ⊢;simp only[rns]at I ⊢;exact r1 nm (nm,ot,p) (by rw[e];simp) (h1 p U) Y I n1 n2
       ·rw[e]at I ⊢;simp only[rns]at I ⊢;have q1:=JM (u3 f) k l.length b.fv x nm (nm,ot,p);have q2:=al [ot] _ (q1.v aj) (by simpa only[rns]using I);obtain⟨b1,b2,b3,b4⟩:=r1 nm (nm,ot,p) (by rw[e];simp) (h1 p U) Y q2 n1 n2;have az:=q1.d;have a6:ot∈bdN k (rn1 (Tm.sub f) k l.length b.fv x nm (nm,ot,p)).1 (rn1 (Tm.sub f) k l.length b.fv x nm (nm,ot,p)).2.1 l.length:=by
         have:(rn1 (Tm.sub f) k l.length b.fv x nm (nm,ot,p)).2.1=ot:=by unfold rn1;simp only[mF];split<;>rfl
         rw[this,ao,ah];simp[bdN]
        obtain⟨d1,d2,d3,d4⟩:=r1 ot _ a6 b1 (oR az Y) I b2 b3;exact⟨d1,d2,d3,λh=>absurd ao h⟩
      obtain⟨fa,a7,fc,fd⟩:=fin;obtain⟨u1,u2⟩:=QF O h2 a7 fc fd;exact Tm.ok_mk.2 ⟨parts _ 0 (ih _ x b (oR ac Y) fa hb (by omega)) (by omega),u1,by rw[u2];simpa using h3⟩
theorem Tm.dp_mem {k:Int}{nm ot:ByteArray}{n:Int}{ty re:Ty}{l:List Tm}{y:Tm}(h:y∈l):y.dp+1<=(Tm.mk k nm ot n ty re l).dp:=by
 have:=ti.1 (oC (v7 l)) y h
 simp only[Tm.dp];omega
theorem Tm.sz_mem {k:Int}{nm ot:ByteArray}{n:Int}{ty re:Ty}{l:List Tm}{y:Tm}(h:y∈l):y.sz+1<=(Tm.mk k nm ot n ty re l).sz:=by
 have:=wb h
 simp only[Tm.sz];omega
theorem Ru {e x:Tm}{i:Nat}(J:e.ok=true)(O:x.ok=true):(e.wth i x).ok=true:=by
 cases e with
 | mk k nm ot n ty re l=>
 obtain⟨U,Y,h3⟩:=Tm.ok_mk.1 J;refine Tm.ok_mk.2 ⟨λy I=>?_,Y,by simpa using h3⟩;rcases nM I with I | rfl
 ·exact U y I
 ·exact O
theorem Rv {k:Int}{nm ot:ByteArray}{n:Int}{ty re:Ty}{l:List Tm}{i:Nat}{x:Tm}(h:i<l.length):x.sz+1<=((Tm.mk k nm ot n ty re l).wth i x).sz:=by simp only[Tm.wth];exact Tm.sz_mem (oB (nA h))
theorem VO {e:Tm}{i:Nat}(I:e.ok=true)(hi:i<e.as.length):(e.pt i).ok=true:=by
 cases e with
 | mk k nm ot n ty re l=>exact(Tm.ok_mk.1 I).1 _ (zM hi)
theorem U4 {k n:Int}(h:(k=2/\0<=n/\n<=10006)\/(k=3/\0<=n/\n<=1)):(PI k n).ok=true:=by
 have I:(Ty.mk 0 []).valid=false:=by decide +kernel
 rcases h with⟨rfl,h⟩ | ⟨rfl,h⟩
 ·refine Tm.ok_mk.2 ⟨by simp,?_,rfl⟩;simp[zI,ri,I,Ty.zero,Ty.k,Ty.as,inB,zw,h]
 ·refine Tm.ok_mk.2 ⟨by simp,?_,rfl⟩;simp[zI,ri,I,Ty.zero,Ty.k,Ty.as,inB,zw,h]
theorem Wo {x:Tm}(h:x.ok=true):(Tm.nod 10 [x]).ok=true:=by
 have I:(Ty.mk 0 []).valid=false:=by decide +kernel
 refine Tm.ok_mk.2 ⟨by simpa using h,?_,rfl⟩;simp[zI,ri,I,Ty.zero,Ty.k,Ty.as,inB,zw]
theorem TM {e b:Tm}{x:ByteArray}(I:e.ok=true)(J:b.ok=true)(h:(e.sb x b).sz<=400):(e.sb x b).ok=true:=UH _ e x b (oC _) I J h
theorem WC {e:Tm}(O:e.ok=true)(hs:e.apl.1.sz<=400):e.apl.1.ok=true:=by
 cases e with
 | mk k nm ot n ty re l=>
 obtain⟨h1,h2,h3⟩:=Tm.ok_mk.1 O;obtain⟨a1,a2,a3,a4,a5⟩:=wC O;have g:∀ i,i<l.length->(l.getD i tm0).ok=true:=λi hi=>h1 _ (zM hi);simp only[Tm.apl]at hs ⊢;split
 ·rename_i I;unfold Tm.opr;split
  ·refine U4 ?_;simp only[Tm.nm];have Y:=ON nm (l.getD 0 tm0).no (l.getD 1 tm0).no;unfold G2;by_cases U:Kt nm=true
   ·rw[if_pos U];exact .inl ⟨rfl,Y.1,Y.2⟩
   ·rw[if_neg U];simp only[Kt,ny,oe,not_or]at U
    have:=KN U.1 U.2.1 U.2.2 (l.getD 0 tm0).no (l.getD 1 tm0).no
    exact .inr ⟨rfl,this.1,this.2⟩
  ·exact O
 ·rename_i ab;rw[if_neg ab]at hs;split
  ·rename_i I;split
   ·rename_i hb
    have:=MJ (g 0 (by have:=a3 I;omega)) hb
    refine g _ ?_
    have:=a3 I
    omega
   ·exact O
  ·rename_i ac;rw[if_neg ac]at hs;split
   ·rename_i I;rw[if_pos I]at hs;have hl:=a2 (.inl I);have J:=g 0 (by omega);have q1:=g 1 (by omega);generalize l.getD 0 tm0=p at hs J ⊢;generalize l.getD 1 tm0=q at hs q1 ⊢;have hp:(p.kd=6\/p.kd=9)->(p.pt 0).ok=true:=λh=>by
     refine VO J ?_;cases p with
     | mk pk pn po pm pt pr pl=>
     have:=(wC J).1 (by simp only[Tm.kd]at h;omega)
     simp only[Tm.as];omega
    split
    ·rename_i h6;rw[if_pos h6]at hs;exact TM (hp (.inl h6)) q1 hs
    ·rename_i h6;rw[if_neg h6]at hs;split
     ·rename_i h9;rw[if_pos h9]at hs;have hV:=Vc (p.pt 0).dp (p.pt 0) p.nm p (Vu _ (hp (.inr h9))) (Vu _ J);have ae:=IB ((p.pt 0).sb p.nm p).dp ((p.pt 0).sb p.nm p) p.ot q hV;exact TM (TM (hp (.inr h9)) J (oR ae hs)) q1 hs
     ·exact O
   ·rename_i ah;rw[if_neg ah]at hs;split
    ·rename_i I;rw[if_pos I]at hs;have hl:=a2 (.inr I);exact TM (g 1 (by omega)) (g 0 (by omega)) hs
    ·rename_i ai;split
     ·rename_i I;split
      ·rename_i aa;have J:=g 0 (by have:=a1 (by omega);omega);refine VO J ?_;generalize l.getD 0 tm0=p at J aa ⊢;cases p with
       | mk pk pn po pm pt pr pl=>
       have:=(wC J).1 (by simp only[Tm.kd]at aa;omega)
       simp only[Tm.as];omega
      ·exact O
     ·split
      ·rename_i I;split
       ·exact Wo (g 0 (by have:=a1 (by omega);omega))
       ·exact O
      ·exact O
theorem WQ {S:Tm->Tm × Int}{f:Nat}(hS:∀ x:Tm,x.dp<=f->x.ok=true->(S x).1.sz<=400->(S x).1.ok=true):∀(t:Tm)(m:Int),t.dp<=f+1->t.ok=true->(t.cod S m).1.sz<=400->(t.cod S m).1.ok=true:=by
 refine Tm.ind λk nm ot n ty re l ih m hd J hs=>?_;obtain⟨O,Y,h3⟩:=Tm.ok_mk.1 J;simp only[Tm.cod]at hs ⊢;split
 ·rename_i hk;rw[if_pos hk]at hs;have hl:=(wC J).1 (by omega);unfold Vb at hs ⊢;have U:((Tm.mk k nm ot n ty re l).pt 0).ok=true:=O _ (zM (by omega));have d0:((Tm.mk k nm ot n ty re l).pt 0).dp<=f:=by
   have:=Tm.dp_mem (k:=k) (nm:=nm) (ot:=ot) (n:=n) (ty:=ty) (re:=re) (zM (l:=l) (i:=0) (by omega))
   simp only[Tm.pt];omega
  generalize hp:(Tm.mk k nm ot n ty re l).pt 0=p at hs U d0 ⊢;split
  ·split
   ·rename_i aa;refine VO U ?_;cases p with
    | mk pk pn po pm pt pr pl=>
    have:=(wC U).1 (by simp only[Tm.kd]at aa;omega)
    simp only[Tm.as];omega
   ·exact J
  ·rename_i hr;rw[if_neg hr]at hs
   have:=Rv (k:=k) (nm:=nm) (ot:=ot) (n:=n) (ty:=ty) (re:=re) (l:=l) (i:=0) (x:=(S p).1) (by omega)
   exact Ru J (hS p d0 U (by simp only at hs;omega))
 ·rename_i hk;rw[if_neg hk]at hs
  have key:∀(xs:List Tm),(∀ x∈xs,x∈l)->∀ l' r,yL S xs (zK k m)=some (l',r)->zO l'<=400->l'.length=xs.length/\∀ x∈l',x.ok=true:=by
   intro xs
   induction xs with
   | nil=>intro _ l' r h;simp[yL]at h
   | cons x xs ab=>
     intro hm l' r h hs;have I:=hm x (by simp);simp only[yL]at h;split at h
     ·cases h;simp only[zO]at hs;refine⟨by simp,λy hy=>?_⟩;rcases oL.1 hy with rfl | hy
      ·have ac:=Tm.dp_mem (k:=k) (nm:=nm) (ot:=ot) (n:=n) (ty:=ty) (re:=re) I;exact ih x I _ (by omega) (O x I) (by omega)
      ·exact O y (hm y (by simp[hy]))
     ·split at h
      ·cases h
      ·rename_i l2 r2 Y;cases h;simp only[zO]at hs;obtain⟨b1,b2⟩:=ab (λy hy=>hm y (by simp[hy])) _ _ Y (by omega);refine⟨by simp[b1],λy hy=>?_⟩;rcases oL.1 hy with rfl | hy
       ·exact O y I
       ·exact b2 y hy
  cases hc:yL S l (zK k m)with
  | none=>exact J
  | some p=>obtain⟨l',r⟩:=p;rw[hc]at hs;simp only[Tm.sz]at hs;obtain⟨b1,b2⟩:=key l (λx I=>I) l' r hc (by omega);exact Tm.ok_mk.2 ⟨b2,Y,by rw[b1];exact h3⟩
theorem Ra:∀(f:Nat) (e:Tm),e.dp<=f->e.ok=true->(e.stp f).1.sz<=400->(e.stp f).1.ok=true
 | 0,e,h,_,_=>absurd (Tm.dp_pos e) (by omega)
 | f + 1,.mk k nm ot n ty re l,hd,I,hs=>by
   have ih:=Ra f;obtain⟨h1,h2,h3⟩:=Tm.ok_mk.1 I;simp only[Tm.stp]at hs ⊢;split
   ·exact I
   ·rename_i hr;rw[if_neg hr]at hs;split
    ·rename_i J;rw[if_pos J]at hs;have J:k=10:=J;have hl:=(wC I).1 (by omega);have O:=zM (l:=l) (i:=0) (by omega);have aa:=Tm.dp_mem (k:=k) (nm:=nm) (ot:=ot) (n:=n) (ty:=ty) (re:=re) O
     have:=Rv (k:=k) (nm:=nm) (ot:=ot) (n:=n) (ty:=ty) (re:=re) (l:=l) (i:=0) (x:=(Tm.cod (Tm.stp f) ((Tm.mk k nm ot n ty re l).pt 0) 1).1) (by omega)
     exact Ru I (WQ ih _ 1 (by simp only[Tm.pt];omega) (h1 _ O) (by simp only at hs;omega))
    ·rename_i J;rw[if_neg J]at hs;cases hg:goS (Tm.stp f) (Tm.mk k nm ot n ty re l) (l.take (Ac k l.length)) 0 with
     | none=>rw[hg]at hs;exact WC I hs
     | some r=>
       rw[hg]at hs;obtain⟨j,x,Y,g2,rfl⟩:=Eb hg;have U:l[j]?=some x:=by
        rw[oi]at Y;split at Y
        ·exact Y
        ·cases Y
       have O:=oB U;have aa:=Tm.dp_mem (k:=k) (nm:=nm) (ot:=ot) (n:=n) (ty:=ty) (re:=re) O;simp only[nG]at hs ⊢
       have:=Rv (k:=k) (nm:=nm) (ot:=ot) (n:=n) (ty:=ty) (re:=re) (l:=l) (i:=j) (x:=(Tm.stp f x).1) (oD.1 U).1
       exact Ru I (ih x (by omega) (h1 x O) (by omega))
theorem F3 {g:Tm->Tm}{m:Nat}:∀ {l:List Tm},(∀ t∈l,(g t).sz<=t.sz*m)->zO (l.map g)<=zO l*m
 | [],_=>by simp[zO]
 | t::l,h=>by have J:=F3 (l:=l) λx I=>h x (by simp[I]);have O:=h t (by simp);simp only[nH,zO,nP];omega
theorem C7 {g:Tm->Tm}{m:Nat}{v:Tm}:∀ {l:List Tm}{j:Nat},(∀ t∈l,(g t).sz<=t.sz*m)->(∀ t,l[j]?=some t->v.sz<=t.sz*m)->zO ((l.map g).set j v)<=zO l*m
 | [],_,_,_=>by simp[zO]
 | t::l,0,h,J=>by have O:=F3 (l:=l) λx I=>h x (by simp[I]);have U:=J t rfl;simp only[nH,mb,zO,nP];omega
 | t::l,j+1,h,J=>by have O:=C7 (l:=l) (j:=j) (v:=v) (λx I=>h x (by simp[I])) λx I=>J x (by simpa using I);have U:=h t (by simp);simp only[nH,mq,zO,nP];omega
theorem Rf:∀(f:Nat)(t:Tm)(x:ByteArray)(b:Tm),(t.sub f x b).sz<=t.sz*(b.sz+1)
 | 0,t,x,b=>by simp only[Tm.sub];exact lD _ (by omega)
 | f + 1,.mk k nm ot n ty re l,x,b=>by
   have J:=Rf f;have one:∀ m:Nat,m<=zO l*(b.sz+1)->1+m<=(1+zO l)*(b.sz+1):=λm h=>by rw[nP];omega
   simp only[Tm.sub];split
   ·split
    ·simp only[Tm.sz];rw[nP];omega
    ·exact lD _ (by omega)
   ·split
    ·simp only[Tm.sz];exact one _ (F3 λt _=>J t x b)
    ·rename_i O;obtain⟨U,Y⟩:=xw O;split
     ·simp only[Tm.sz];refine one _ (C7 (λt _=>J t x b) λt I=>?_);rw[zi U]at I;rw[<-oX I];exact lD _ (by omega)
     ·simp only[Tm.sz];refine one _ (C7 (λt _=>J t x b) λt I=>?_);rw[zi U]at I;rw[<-oX I];exact oR (J _ x b) (nc _ (qv (u3 f) _ _ _ _ _ _).s)
theorem Bu {x:Tm}:∀ {l:List Tm}{i:Nat},i<l.length->zO (l.set i x)+(l.getD i tm0).sz=zO l+x.sz
 | t::l,0,_=>by simp only[mb,zO,mI];omega
 | t::l,i+1,h=>by
   have:=Bu (x:=x) (l:=l) (i:=i) (by simpa using h)
   simp only[mq,zO,mi];omega
theorem Oy {e:Tm}{i:Nat}:(e.pt i).sz<=e.sz:=by
 cases e with
 | mk k nm ot n ty re l=>
 simp only[Tm.pt];by_cases h:i<l.length
 ·have:=Tm.sz_mem (k:=k) (nm:=nm) (ot:=ot) (n:=n) (ty:=ty) (re:=re) (zM h);omega
 ·rw[oA,ob (by omega)];simp only[Option.getD_none,tm0,Tm.sz,zO];omega
theorem WD (e:Tm)(h:e.sz<=400):e.apl.1.sz<=e.sz+64481600:=by
 have I:∀(t b:Tm) (x:ByteArray) (m:Nat),t.sz<=m->b.sz<=400->(t.sb x b).sz<=m*401:=λt b x m U h2=>oR (Rf _ t x b) (Nat.mul_le_mul U (by omega));cases e with
 | mk k nm ot n ty re l=>
 have g:∀ i,(l.getD i tm0).sz<=400:=λi=>oR (Oy (e:=.mk k nm ot n ty re l)) h;have Y:∀ i j,((l.getD i tm0).pt j).sz<=400:=λi j=>oR Oy (g i);have g0:=g 0;have O:=g 1;have J:=Y 0 0;simp only[Tm.apl,Tm.opr];have k1:=I ((l.getD 0 tm0).pt 0) (l.getD 1 tm0) (l.getD 0 tm0).nm 400 J O;have k2:=I ((l.getD 0 tm0).pt 0) (l.getD 0 tm0) (l.getD 0 tm0).nm 400 J g0;have k3:=I _ (l.getD 1 tm0) (l.getD 0 tm0).ot _ k2 O;have k4:=I (l.getD 1 tm0) (l.getD 0 tm0) nm 400 O g0;have k5:=g (2 - (l.getD 0 tm0).no).toNat
 (repeat' split)<;>first | (simp only;omega) | (simp only[PI,Tm.nod,Tm.sz,zO];omega)
theorem WR {S:Tm->Tm × Int}(Y:∀ x:Tm,x.sz<=400->(S x).1.sz<=x.sz+64481600):∀(t:Tm)(m:Int),t.sz<=400->(t.cod S m).1.sz<=t.sz+64481600:=by
 refine Tm.ind λk nm ot n ty re l ih m hs=>?_;simp only[Tm.cod];split
 ·unfold Vb;split
  ·split
   ·have h1:=Oy (e:=(Tm.mk k nm ot n ty re l).pt 0) (i:=0);have I:=Oy (e:=Tm.mk k nm ot n ty re l) (i:=0);simp only;omega
   ·simp only;omega
  ·have I:=Oy (e:=Tm.mk k nm ot n ty re l) (i:=0);have h3:=Y _ (oR I hs);simp only[Tm.wth,Tm.pt]at h3 ⊢;by_cases h:0<l.length
   ·have:=Bu (x:=(S (l.getD 0 tm0)).1) h
    simp only[Tm.sz]at hs ⊢;omega
   ·rw[lA (by omega)];omega
 ·have key:∀(xs:List Tm),(∀ x∈xs,x∈l)->∀ l' r,yL S xs (zK k m)=some (l',r)->zO l'<=zO xs+64481600:=by
   intro xs
   induction xs with
   | nil=>intro _ l' r h;simp[yL]at h
   | cons x xs O=>
     intro U l' r h;have J:=U x (by simp);simp only[yL]at h;split at h
     ·cases h
      have:=ih x J (zK k m) (by have:=Tm.sz_mem (k:=k) (nm:=nm) (ot:=ot) (n:=n) (ty:=ty) (re:=re) J;omega)
      simp only[zO];omega
     ·split at h
      ·cases h
      ·rename_i l2 r2 I;cases h
       have:=O (λy hy=>U y (by simp[hy])) _ _ I
       simp only[zO];omega
  cases hc:yL S l (zK k m)with
  | none=>simp only;omega
  | some p=>
    obtain⟨l',r⟩:=p
    have:=key l (λx J=>J) l' r hc
    simp only[Tm.sz];omega
theorem UF:∀(f:Nat) (e:Tm),e.sz<=400->(e.stp f).1.sz<=e.sz+64481600
 | 0,e,_=>by simp only[Tm.stp];omega
 | f + 1,.mk k nm ot n ty re l,hs=>by
   have O:=UF f;simp only[Tm.stp];split
   ·simp only;omega
   ·by_cases U:(Tm.mk k nm ot n ty re l).kd=10
    ·rw[if_pos U];have h2:=Oy (e:=Tm.mk k nm ot n ty re l) (i:=0);have Y:=WR O ((Tm.mk k nm ot n ty re l).pt 0) 1 (oR h2 hs);simp only[Tm.wth,Tm.pt]at Y ⊢;by_cases h:0<l.length
     ·have:=Bu (x:=((l.getD 0 tm0).cod (Tm.stp f) 1).1) h
      simp only[Tm.sz]at hs ⊢;omega
     ·rw[lA (by omega)];omega
    ·rw [if_neg U];cases hg:goS (Tm.stp f) (Tm.mk k nm ot n ty re l) (l.take (Ac k l.length)) 0 with
     | none=>exact WD _ hs
     | some r=>
       obtain⟨j,x,J,g2,rfl⟩:=Eb hg;have I:l[j]?=some x:=by
        rw[oi]at J;split at J
        ·exact J
        ·cases J
       have hj:=(oD.1 I).1;have Y:=O x (by have:=Tm.sz_mem (k:=k) (nm:=nm) (ot:=ot) (n:=n) (ty:=ty) (re:=re) (oB I);omega);have h4:=Bu (x:=(Tm.stp f x).1) hj;have h5:l.getD j tm0=x:=by rw[oA,I];rfl
       rw[h5]at h4;simp only[nG,Tm.wth,Tm.sz]at hs ⊢;omega
def Ll:Nat->Nat->Tm->(Int × Tm × Nat) × List Int
 | 0,n,x=>if x.sz>400 then((3,tm0,n),[])else if x.res then((1,x,n),[])else((2,x,n),[])
 | m+1,n,x=>if x.sz>400 then((3,tm0,n),[])else if x.res then((1,x,n),[])else if(x.stp x.dp).2=0 then((4,x,n),[])
   else((Ll m (n+1) (x.stp x.dp).1).1,(x.stp x.dp).2::(Ll m (n+1) (x.stp x.dp).1).2)
def xA (e:Tm)(I:Int):Int × Tm × Nat:=if(uG e 0&&inB I 0 200)=true then(Ll I.toNat 0 e).1 else(0,tm0,0)
theorem RR:∀(m n:Nat)(x:Tm),n<=(Ll m n x).1.2.2/\(Ll m n x).1.2.2<=n+m
 | 0,n,x=>by simp only[Ll];(repeat' split)<;>simp
 | m+1,n,x=>by
   have:=RR m (n+1) (x.stp x.dp).1
   simp only[Ll];(repeat' split)<;>simp<;>omega
theorem YN {e b:Tm}{x:ByteArray}{f g:Nat}(I:e.F f)(J:b.F g):(e.sb x b).Z:=by have O:=UI e.dp e x b (oC _) (Xo _ I.ok);have U:=I.w;have Y:=J.w;have h4:=b.fv_wd;exact⟨TN _ _ _ _ I.g J.g,by unfold Tm.sb;omega,Vc _ _ _ _ I.z.v J.z.v⟩
theorem EX {e b:Tm}{d I:D}(J:e.Is d)(O:b.Is I)(x:ByteArray)(U:e.Z)(Y:b.Z):UR 158 [.dg 9 d,.str x,.dg 9 I] (e.sb x b):=Hc e.dp e d x b I J O (oC _) U Y
def UD (f:Nat):Tm->Nat->Tm × Int
 | .mk k nm ot n ty re l,m=>match goS (Tm.stp f) (.mk k nm ot n ty re l) (l.take m) 0 with
   | some r=>r
   | none=>(Tm.mk k nm ot n ty re l).apl
theorem SC {f:Nat} (hS:Tf 48 f) {n0:Int} {nm ot:ByteArray} {ty re:Ty} {l:List Tm} {d:D} (hd:(Tm.mk 7 nm ot n0 ty re l).Is d) (hF:(Tm.mk 7 nm ot n0 ty re l).F (f+1)) :
  OL 93 [.dg 9 d] (UD f (Tm.mk 7 nm ot n0 ty re l) l.length):=λN Q hQ=>by
 have aj:=hd;obtain⟨t0,t1,r0,r1,a,es,c,rfl,hh,ak,Y⟩:=Tm.is_mk.1 hd;have hl:=Y.len;have bb:=(wC hF.ok).2.1 (.inl rfl);simp only[UD,List.take_length]at hQ;have e2:(es.length:Int)=2:=by omega
 refine Jp N _ Q λ_=>⟨_,_,_,rfl,⟨by omega,by omega⟩,?_⟩
 refine up Y ak (λi xs=>∀ N',N<=N'->(∀ r:Tm × Int,(match goS (Tm.stp f) (Tm.mk 7 nm ot n0 ty re l) xs i with | some r=>r | none=>(Tm.mk 7 nm ot n0 ty re l).apl)=r->∀ d aa,N<=aa->r.1.Is d->Q d r.2 aa) ->
  wo Q N i (.ag [.j 7,.t nm,.t ot,.j n0,t0,t1,r0,r1,.sl a 9 es c]) 0 (bytes []) (bytes []) 0 0 none [] 0 0 none [] 0 none [] 0 (List.getD es 0 default) N') ?_ ?_ N (oC _) (λr I d aa h1 h2=>by rw[<-I];rw[<-I]at h2;exact hQ d aa h1 h2)
 ·intro i ab hi N' aq I;have I:=I _ rfl;simp only[goS,Tm.apl]at I;rw[if_neg (by decide),if_neg (by decide),if_pos trivial]at I;refine qW ?_;rw[<-e2,ab];have ac:=yf Y (j:=0) (by omega);have ae:=yf Y (j:=1) (by omega);have O:=hF.mem _ (zM (l:=l) (i:=0) (by omega));have ah:=hF.mem _ (zM (l:=l) (i:=1) (by omega));generalize l.getD 0 tm0=p at ac O I;generalize l.getD 1 tm0=q at ae ah I;have al:=ac;cases p with
  | mk pk pn po pm pt pr pl=>
  obtain⟨u0,u1,v0,v1,a2,bc,c2,heq,bd,au,U⟩:=Tm.is_mk.1 ac;have bg:=U.len;rw[heq]at al ⊢;have one:(pk=6\/pk=9)->pl.length=1:=λh=>(wC O.ok).1 (by omega);have ai:pl.length=1->(pl.getD 0 tm0).F f:=λh=>((O.up (g:=f+1) (by omega)).mem _ (zM (l:=pl) (i:=0) (by omega)))
  refine⟨_,rfl,Br.beq (λh6=>?_) λh6=>Br.beq (λh9=>?_) λh9 bh az=>?_⟩
  ·have h1:=one (.inl h6);rw[if_pos (show(Tm.mk pk pn po pm pt pr pl).kd=6 from h6)]at I;refine⟨_,_,_,rfl,⟨by omega,by omega⟩,_,rfl,_,_,_,rfl,⟨by omega,by omega⟩,λN6 bi=>?_⟩;exact EX (yf U (j:=0) (by omega)) ae pn (ai h1).z ah.z N6 _ λdx N7 bj hx _ _ _ N8 bm=>I _ _ (by omega) hx
  ·have h1:=one (.inr h9);rw[if_neg (show ¬(Tm.mk pk pn po pm pt pr pl).kd=6 from h6),if_pos (show(Tm.mk pk pn po pm pt pr pl).kd=9 from h9)]at I;refine⟨_,_,_,rfl,⟨by omega,by omega⟩,_,rfl,_,rfl,_,_,_,rfl,⟨by omega,by omega⟩,λN9 bn=>?_⟩;refine EX (yf U (j:=0) (by omega)) al pn (ai h1).z O.z N9 _ λdx bp a6 hx _ _ _ aw a7=>?_;exact EX hx ae po (YN (ai h1) O) ah.z aw _ λdy bq a8 hy _ _ _ bt ba=>I _ _ (by omega) hy
  ·rw[if_neg (show ¬(Tm.mk pk pn po pm pt pr pl).kd=6 from h6),if_neg (show ¬(Tm.mk pk pn po pm pt pr pl).kd=9 from h9)]at I;exact I _ _ (by omega) aj
 ·intro i x xs J bv ax N' aq I;have hb:=J.b;have ay:i<l.length:=(oD.1 J.g).1;obtain rfl:l.getD i tm0=x:=by rw[oA,J.g];rfl
  have ao:=hF.mem _ J.m;have ab:=J.lt;rw[e2]at ab;refine qW ?_;rw[ab,oG,J.w];refine⟨_,_,_,rfl,⟨by omega,by omega⟩,λN1 bw=>zt J.r ao.ok ao.dp N1 _ λN2 bz _=>Br.not (λhv N3 b3=>?_) λhv=>?_⟩
  ·have I:=I _ rfl;simp only[goS]at I;rw[if_neg (by rw[hv];decide)]at I;exact Ii hS aj hF ay N3 _ λdx N4 b7 hx _ _ N5 b8=>I _ _ (by omega) hx
  ·rw[Ea hv]at I;exact ax _ (by omega) I
theorem TQ {l:List Tm}(h:0<l.length):l.take 1=[l.getD 0 tm0]:=by
 cases l with
 | nil=>simp at h
 | cons x xs=>rfl
theorem Qe {k n:Int}{nm ot:ByteArray}{ty re:Ty}{l:List Tm}(h:(Tm.mk k nm ot n ty re l).ok=true)(U:k=2\/k=3):(Tm.mk k nm ot n ty re l).cnt<=1073741824:=by
 have nd:=yk h;have Y:=(wC h).2.2.2.1 (.inr U);have:l=[]:=oV Y;subst this;have O:∀ t:Ty,t.zero=true->t.cnt<=30:=λt J=>by
  cases t with
  | mk k l=>
  simp only[Ty.zero,Ty.k,Ty.as,oK,mK]at J;have:l=[]:=oV (by omega);subst this;simp[Ty.cnt,zS]
 have v1:∀ t:Ty,t.valid=true->t.cnt<=30:=λt J=>Ty.valid_cnt J;have I:=nd.f;simp only[zI,oK,mK,ny]at I;have aa:ty.cnt<=30:=by
  rcases I.2.1 with h | h
  ·exact v1 _ (by rw[<-I.1,h])
  ·exact O _ h
 have ab:re.cnt<=30:=by
  rcases I.2.2.2.1 with h | h
  ·exact v1 _ (by rw[<-I.2.2.1];simpa using h)
  ·exact O _ h
 simp only[Tm.cnt,xQ];omega
theorem Pq (k:Int) {p:Tm} {d:D} (h:p.Is d) (hc:p.cnt<=1073741824) (a:Option Addr) (N:Nat) (Q:QT [.ag 9]) (I:∀ d' N',N<=N'->(Tm.nod k [p]).Is d'->Own N N' d'->Q d' N') :
 ACalls prog 141 [.ag 9] [.j k,.sv a 9 [d] 1] N Q:=SF k (l:=[p]) (es:=[d]) ⟨d,[],rfl,h,rfl⟩ (by simp) (by simpa using hc) a 1 N Q I
theorem EV {f:Nat} (hS:Tf 48 f) {k n0:Int} {nm ot:ByteArray} {ty re:Ty} {l:List Tm} {d:D} (hk:k=5\/k=8\/k=12\/k=13) (hd:(Tm.mk k nm ot n0 ty re l).Is d) (hF:(Tm.mk k nm ot n0 ty re l).F (f+1)) :
  OL 96 [.dg 9 d] (UD f (Tm.mk k nm ot n0 ty re l) 1):=λN Q I=>by
 have aa:=hd;obtain⟨t0,t1,r0,r1,a,es,c,rfl,hh,bc,ab⟩:=Tm.is_mk.1 hd;have hl:=ab.len;have ac:0<l.length:=by
  obtain⟨a1,a2,a3,_⟩:=wC hF.ok;rcases hk with h | h | h | h
  ·have:=a3 h;omega
  ·have:=a2 (.inr h);omega
  ·have:=a1 (by omega);omega
  ·have:=a1 (by omega);omega
 have ae:=yf ab ac;have J:=hF.mem _ (zM ac);simp only[UD]at I;rw[TQ ac]at I;simp only[goS]at I;refine Jq N _ Q λ_=>⟨_,_,_,rfl,⟨by omega,by omega⟩,λN1 bg=>zt ae J.ok J.dp N1 _ λN2 bh _=>Br.not (λhv N3 bi=>?_) λhv=>?_⟩
 ·rw[if_neg (by rw[hv];decide)]at I;exact Ii hS aa hF ac N3 _ λdx N4 ax hx _ _ N5 ay=>I _ _ (by omega) hx
 rw[if_pos hv]at I;simp only[Tm.apl]at I;generalize bj:l.getD 0 tm0=p at ae J hv I;have ai:=ae;have ao:=λh=>MJ J.ok h;cases p with
 | mk pk O U pm pt pr Y=>
 obtain⟨u0,u1,v0,v1,a2,az,c2,heq,bm,a7,ah⟩:=Tm.is_mk.1 ae;have bn:=ah.len;simp only[Tm.kd,Tm.no]at ao;rw[heq]at ai ⊢;have lift:∀(N:Nat) (a:Option Addr) (N':Nat) (hN:N2<=N) (_:vN N [a]) (_:(Tm.mk pk O U pm pt pr Y).cnt<=1073741824),(∀ d N',N2<=N'->(Tm.nod 10 [Tm.mk pk O U pm pt pr Y]).Is d->Q d 8 N') ->
   ACalls prog 141 [.ag 9] [.j 10,.sv a 9 [.ag [.j pk,.t O,.t U,.j pm,u0,u1,v0,v1,.sl a2 9 az c2]] 1] N (λx N7=>N<=N7->Off [a] x/\(Bel N7 x->∀ N8,N7<=N8->Q x 8 N8)):=λN3 a N' hN hb a8 hq=>
  Pq 10 ai a8 a N3 _ λdx N4 ax hx ho _=>⟨s6 hb ho,λ_ N5 ay=>hq _ _ (by omega) hx⟩
 rcases hk with rfl | rfl | rfl | rfl
 ·have bp:=(wC hF.ok).2.2.1 rfl;rw[if_neg (by decide),if_pos rfl]at I;refine⟨_,rfl,Br.beq (λ_=>⟨_,rfl,Br.beq (λh3=>?_) λh3=>?_⟩) (λh=>absurd rfl h)⟩
  ·have hn:=ao h3;rw[if_pos (show(Tm.mk pk O U pm pt pr Y).kd=3 from h3)]at I;have hw:IntKind.i64.wrap (2 - pm)=2 - pm:=i64_in _ (by omega);refine⟨_,_,_,rfl,_,rfl,?_⟩;rw[hw];refine⟨⟨by omega,by omega⟩,λN6 aq=>?_⟩;refine Ka qD (yf ab (j:=(2 - pm).toNat) (by omega)) (zy hF.z.g.2.2.2 (zM (by omega))) (N0:=N) (by omega) (λd N=>Q d 2 N) λd' N7 au aj _=>I _ _ (by omega) aj
  ·rw[if_neg (show ¬(Tm.mk pk O U pm pt pr Y).kd=3 from h3)]at I
   repeat' first | refine⟨_,rfl,?_⟩ | refine Br.beq (λh=>absurd h (by decide)) λ_=>?_
   all_goals exact λN hN=>I _ _ (by omega) aa
 ·have bq:=(wC hF.ok).2.1 (.inr rfl);rw[if_neg (by decide),if_neg (by decide),if_neg (by decide),if_pos rfl]at I;have ba:=hF.mem _ (zM (l:=l) (i:=1) (by omega));have bb:=yf ab (j:=1) (by omega)
  repeat' first | refine⟨_,rfl,?_⟩ | refine Br.beq (λh=>absurd h (by decide)) λ_=>?_ | refine Br.beq (λ_=>?_) (λh=>absurd rfl h)
  all_goals
   refine⟨_,_,_,rfl,⟨by omega,by omega⟩,_,rfl,λN6 aq=>?_⟩;exact EX bb ai nm ba.z J.z N6 _ λdx N7 au hx _ _ _ N8 bt=>I _ _ (by omega) hx
 ·rw[if_neg (by decide),if_neg (by decide),if_neg (by decide),if_neg (by decide),if_pos rfl]at I
  repeat' first | refine⟨_,rfl,?_⟩ | refine Br.beq (λh=>absurd h (by decide)) λ_=>?_ | refine Br.beq (λ_=>?_) (λh=>absurd rfl h)
  all_goals
   refine Br.beq (λak=>?_) λak=>?_
   ·rw[if_pos (show(Tm.mk pk O U pm pt pr Y).kd=10 from ak)]at I;have h1:=(wC J.ok).1 (by omega);refine⟨_,_,_,rfl,⟨by omega,by omega⟩,λN6 aq=>?_⟩;refine Ka qD (yf ah (j:=0) (by omega)) (zy J.z.g.2.2.2 (zM (by omega))) (N0:=N) (by omega) (λd N=>Q d 7 N) λd' N7 au aj _=>I _ _ (by omega) aj
   ·rw[if_neg (show ¬(Tm.mk pk O U pm pt pr Y).kd=10 from ak)]at I
    repeat' first | refine⟨_,rfl,?_⟩ | refine Br.beq (λh=>absurd h (by decide)) λ_=>?_
    all_goals exact λN hN=>I _ _ (by omega) aa
 ·rw[if_neg (by decide),if_neg (by decide),if_neg (by decide),if_neg (by decide),if_neg (by decide),if_pos rfl]at I
  repeat' first | refine⟨_,rfl,?_⟩ | refine Br.beq (λh=>absurd h (by decide)) λ_=>?_ | refine Br.beq (λ_=>?_) (λh=>absurd rfl h)
  all_goals
   refine Br.beq (λh2=>⟨⟨rfl,rfl⟩,λa6 _ al aw hb=>?_⟩) λh2=>⟨_,rfl,Br.beq (λh3=>⟨⟨rfl,rfl⟩,λa6 _ al aw hb=>?_⟩) λh3 bv bd=>?_⟩
   ·rw[if_pos (show(Tm.mk pk O U pm pt pr Y).kd=2\/(Tm.mk pk O U pm pt pr Y).kd=3 from .inl h2)]at I;exact lift al a6 0 (by omega) hb (Qe J.ok (.inl h2)) λd N' h1 h2=>I _ _ (by omega) h2
   ·rw[if_pos (show(Tm.mk pk O U pm pt pr Y).kd=2\/(Tm.mk pk O U pm pt pr Y).kd=3 from .inr h3)]at I;exact lift al a6 0 (by omega) hb (Qe J.ok (.inr h3)) λd N' h1 h2=>I _ _ (by omega) h2
   ·rw[if_neg (show ¬((Tm.mk pk O U pm pt pr Y).kd=2\/(Tm.mk pk O U pm pt pr Y).kd=3)from λh=>h.elim h2 h3)]at I;exact I _ _ (by omega) aa
theorem E8:∀ f,Tf 48 f
 | 0=>λe d _ U=>absurd (Tm.dp_pos e) (by have:=U.d;omega)
 | f+1=>λe d hd U N Q hQ=>by
   have ih:=E8 f;cases e with
   | mk k nm ot n0 ty re l=>
   have I:=hd;obtain⟨t0,t1,r0,r1,a,es,c,rfl,hh,ao,ah⟩:=Tm.is_mk.1 hd;have hl:=ah.len;simp only[Tm.stp]at hQ;refine HO N _ Q λ_ N1 az=>zt I U.ok U.dp N1 _ λN2 a6 _=>Br.of (λhv N3 a7=>?_) λhv=>⟨_,rfl,?_⟩
   ·rw[if_pos hv]at hQ;exact hQ _ _ (by omega) I
   rw[if_neg (by rw[hv];decide)]at hQ;have other:k≠10->∀ m,Ac k l.length=m->∀ d N',N<=N'->(UD f (Tm.mk k nm ot n0 ty re l) m).1.Is d->Q d (UD f (Tm.mk k nm ot n0 ty re l) m).2 N':=λhk m hm=>by rw[if_neg (show ¬(Tm.mk k nm ot n0 ty re l).kd=10 from hk),hm]at hQ;exact hQ
   refine Br.beq (λh4 N4 Y=>?_) λh4=>Br.beq (λh7 N4 Y=>?_) λh7=>Br.beq (λO=>?_) λO=>Br.beq (λh5 N4 Y=>?_) λh5=>Br.beq (λh8 N4 Y=>?_) λh8=>Br.beq (λaa N4 Y=>?_) λaa=>Br.beq (λab N4 Y=>?_) λab N4 Y=>?_
   ·subst h4;have J:=other (by decide) l.length (by simp[Ac]);simp only[UD,List.take_length,Tm.apl,mF]at J;exact Uf ih I U rfl N4 _ λx N5 ac hx _ _ N6 ae=>J _ _ (by omega) hx
   ·subst h7;have J:=other (by decide) l.length (by simp[Ac]);exact SC ih I U N4 _ λx N5 ac hx _ _ N6 ae=>J _ _ (by omega) hx
   ·rw[if_pos (by exact O)]at hQ;have a8:=(wC U.ok).1 (by omega);have ai:=zM (l:=l) (i:=0) (by omega);refine⟨_,_,_,rfl,⟨by omega,by omega⟩,λaj aq=>?_⟩;have ba:=dp_mem (k:=k) (nm:=nm) (ot:=ot) (n:=n0) (ty:=ty) (re:=re) ai;have bb:=U.dp;refine Pn ih _ _ (yf ah (j:=0) (by omega)) ((U.mem _ ai).up (by omega)) 1 (by unfold LvIn;omega) aj _ λdx bc au hx _ _ ak aw=>?_;exact E9 I U.z.g hx (i:=0) (by simp only[Tm.as];omega) ak _ λd' bd ax al _ _ bg ay=>hQ _ _ (by omega) al
   ·have J:=other O 1 (by simp[Ac,h4,h7,h5]);exact EV ih (.inl h5) I U N4 _ λx N5 ac hx _ _ N6 ae=>J _ _ (by omega) hx
   ·have J:=other O 1 (by simp[Ac,h4,h7,h8]);exact EV ih (.inr (.inl h8)) I U N4 _ λx N5 ac hx _ _ N6 ae=>J _ _ (by omega) hx
   ·have J:=other O 1 (by simp[Ac,h4,h7,aa]);exact EV ih (.inr (.inr (.inl aa))) I U N4 _ λx N5 ac hx _ _ N6 ae=>J _ _ (by omega) hx
   ·have J:=other O 1 (by simp[Ac,h4,h7,ab]);exact EV ih (.inr (.inr (.inr ab))) I U N4 _ λx N5 ac hx _ _ N6 ae=>J _ _ (by omega) hx
   ·have J:=other O 0 (by simp[Ac,h4,h7,h5,h8,aa,ab]);simp only[UD,mu,goS,Tm.apl]at J;rw[if_neg h4,if_neg h5,if_neg h7,if_neg h8,if_neg aa,if_neg ab]at J;exact J _ _ (by omega) I
theorem LD:tm0.Is (.ag [.j 0,.t (bytes []),.t (bytes []),.j 0,.j 0,.sl none 2 [] 0,.j 0,.sl none 2 [] 0,.sl none 9 [] 0]):=
 Tm.is_mk.2 ⟨_,_,_,_,_,_,_,rfl,⟨by decide,by decide,vQ _,vQ _⟩,by simp,rfl⟩
theorem Na {s:ByteArray}(h:0<sc s):s=bytes [43]\/s=bytes [45]\/s=bytes [42]\/s=bytes [61]\/s=bytes [60]\/s=bytes [38]\/s=bytes [124]\/s=bytes [33]:=by
 unfold sc at h
 (repeat' split at h)<;>first | exact absurd h (by decide) | simp[*]
theorem OO {s:ByteArray}(h:0<sc s){a b:Int}(I:0<=a/\a<=10006)(J:0<=b/\b<=10006):(yC s a b).2=true:=by
 have:=Na h
 unfold yC;rw[if_pos (yI.2 I),if_pos (yI.2 J)]
 (repeat' split)<;>first | rfl | (rcases this with h | h | h | h | h | h | h | h<;>contradiction)
def qP (s:ByteArray):Bool:=vm s||(decide (s=bytes [61])||decide (s=bytes [60]))
theorem QN {s:ByteArray}(h:0<sc s):G2 s=if qP s then 3 else 2:=by rcases Na h with h | h | h | h | h | h | h | h<;>subst h<;>decide +kernel
theorem Hb (s:ByteArray):vU 251 [.str s] (vm s):=λN Q J=>GN N s Q (Br.str (λe1 N1 I=>Qb (J _ I) (by simp[vm,e1])) λe1=>Br.str (λO N1 I=>Qb (J _ I) (by simp[vm,O])) λO N1 I=>Qb (J _ I) (by simp[vm,e1,O,xp]))
theorem Lx (s:ByteArray):vU 253 [.str s] (qP s):=λN Q J=>EE N s Q λN1 O=>Hb s N1 _ λN2 U _=>Br.of (λe0 N3 I=>Qb (J _ (by omega)) (by simp[qP,e0])) λe0=>Br.str (λe1 N3 I=>Qb (J _ (by omega)) (by simp[qP,e1])) λe1 N3 I=>Qb (J _ (by omega)) (by simp[qP,e0,e1,xp])
theorem Px (n:Int)(b:Bool)(N:Nat)(Q:QT [.ag 9])(J:∀ d N',N<=N'->(PI (if b then 3 else 2) n).Is d->Q d N'):ACalls prog 105 [.ag 9] [.j n,.bool b] N Q:=by refine t8 N n b Q (Br.of (λh N1 I=>J _ _ I (by rw[h];exact I9)) λh N2 O=>De N2 n _ λN3 U _ _ N4 Y=>J _ _ (by omega) (by rw[h];exact I9))
def R0 (f:FuncId)(args:List PV)(r:Tm × Bool):Prop:=∀(N:Nat) (Q:QT [.ag 9,.bool]),(∀ d N',N<=N'->r.1.Is d->Q d r.2 N')->ACalls prog f [.ag 9,.bool] args N Q
theorem Xp {n0:Int}{nm ot:ByteArray}{ty re:Ty}{l:List Tm}(h:(Tm.mk 4 nm ot n0 ty re l).ok=true):0<sc nm:=by
 simp only[Tm.ok,oK,zI,zw]at h
 have:=h.2.1.2.2.2.2.2
 rw[if_pos trivial,oK]at this;simpa using this.1
theorem Qf {e:Tm}(h:e.ok=true)(I:e.kd=2\/e.kd=3):0<=e.no/\e.no<=10006:=by
 cases e with
 | mk k nm ot n ty re l=>
 simp only[Tm.kd]at I;simp only[Tm.ok,oK,zI,inB]at h;simp only[Tm.no];rcases I with rfl | rfl
 ·have:=h.2.1.2.2.2.2.1
  simp at this;omega
 ·have:=h.2.1.2.2.2.2.1
  simp at this;omega
theorem Kv (s:ByteArray):yR s=2\/yR s=3:=by unfold yR;split<;>simp
def Sy (nm:ByteArray)(l:List Tm):Tm × Bool:=if l.all (λx=>x.kd==yR nm)then(PI (G2 nm) (yC nm (l.getD 0 tm0).no (l.getD 1 tm0).no).1,true)else(tm0,false)
theorem OV {n0:Int}{nm ot:ByteArray}{ty re:Ty}{l:List Tm}{d:D}(hd:(Tm.mk 4 nm ot n0 ty re l).Is d)(aa:0<sc nm)(ae:l.length<=2)(ah:∀ x∈l,x.kd=2\/x.kd=3->0<=x.no/\x.no<=10006):R0 231 [.dg 9 d] (Sy nm l):=λN Q hQ=>by
 obtain⟨t0,t1,r0,r1,a,es,c,rfl,hh,ab,ac⟩:=Tm.is_mk.1 hd;have hl:=ac.len;have loop:∀ N',N<=N'->yn Q N (yR nm) 2 2 a es c es.length 0 (.ag [.j 4,.t nm,.t ot,.j n0,t0,t1,r0,r1,.sl a 9 es c]) 0 (bytes []) (bytes []) 0 0 none [] 0 0 none [] 0 none [] 0 [.j 0,.j 0] 2 N':=λN' J=>by
  refine up ac ab (λi xs=>∀ N',N<=N'->(∀ j x,j<i->l[j]?=some x->x.kd=yR nm)->yn Q N (yR nm) 2 2 a es c es.length i (.ag [.j 4,.t nm,.t ot,.j n0,t0,t1,r0,r1,.sl a 9 es c]) 0 (bytes []) (bytes []) 0 0 none [] 0 0 none [] 0 none [] 0 (G1 l i) 2 N') ?_ ?_ N' J (λj x h=>absurd h (by omega))
  ·intro i ai hi N' J hk;have O:∀ x∈l,x.kd=yR nm:=λx U=>by obtain⟨j,hj⟩:=oS.1 U;exact hk j x (by have:=(oD.1 hj).1;omega) hj
   have aj:i=l.length:=by omega
   have hr:∀ j,0<=(l.getD j tm0).no/\(l.getD j tm0).no<=10006:=λj=>by
    by_cases hj:j<l.length
    ·have hm:=zM hj;refine ah _ hm ?_;rw[O _ hm];exact Kv nm
    ·rw[EZ (by omega)];decide
   have hq:Sy nm l=(PI (G2 nm) (yC nm (l.getD 0 tm0).no (l.getD 1 tm0).no).1,true):=by unfold Sy;rw[if_pos (oc.2 λx U=>by rw[O x U];exact beq_self_eq_true _)]
   rw[hq]at hQ;refine rX ?_;rw[ai,aj,NW ae];refine⟨_,rfl,⟨⟨by omega,by omega,by simp⟩,by simp,_,rfl,⟨by omega,by omega,by simp⟩,by simp,_,rfl,λN2 ak=>Gi _ _ _ N2 _ λN3 az _=>⟨_,rfl,λN4 a6=>Lx _ N4 _ λN5 a7 _ N6 a8=>Px _ _ N6 _ λx N7 ba U _ _ N8 bb=>?_⟩⟩⟩;rw[OO aa (hr 0) (hr 1)];rw[<-QN aa]at U;exact hQ _ _ (by omega) U
  ·intro i x xs I bc al N' J hk;have hb:=I.b;have U:=I.r;have ao:l.getD i tm0=x:=by rw[oA,I.g];rfl
   refine rX ?_;rw[I.lt,oG,I.w];cases x with
   | mk pk pn po pm pt pr pl=>
   obtain⟨u0,u1,v0,v1,a2,bd,c2,heq,bg,aq,ay⟩:=Tm.is_mk.1 U;rw[heq];refine⟨⟨by omega,by omega⟩,_,rfl,Br.bne (λau N1 aw=>?_) λhe=>⟨_,rfl,⟨by omega,by omega,by simp only[G1,oJ,oN];omega⟩,by simp only[G1,oJ,oN];omega,?_⟩⟩
   ·have hq:Sy nm l=(tm0,false):=by unfold Sy;rw[if_neg λhc=>au (by have:=oc.1 hc _ I.m;exact(by simpa using this:(Tm.mk pk pn po pm pt pr pl).kd=yR nm))]
    rw[hq]at hQ;exact hQ _ _ (by omega) LD
   ·rw[nG];have Y:=NX (l:=l) (i:=i) (by omega);rw[ao]at Y;simp only[Tm.no]at Y;rw[Y];refine al _ J λj y hj hy=>?_;by_cases ax:j<i
    ·exact hk j y ax hy
    ·have:j=i:=by omega
     subst this;rw[I.g]at hy;rw[<-oX hy];exact he
 refine HE N _ Q λ_=>⟨_,rfl,λN1 aw=>Hb nm N1 _ λN2 ak _=>Br.of (λh=>⟨_,_,_,rfl,?_⟩) λh=>⟨_,_,_,rfl,?_⟩⟩
 ·have:=loop N2 (by omega)
  rw[show yR nm=3 by unfold yR;rw[if_pos h]]at this;exact this
 ·have:=loop N2 (by omega)
  rw[show yR nm=2 by unfold yR;rw[if_neg (by rw[h];decide)]]at this;exact this
theorem Pu {n0:Int}{nm ot:ByteArray}{ty re:Ty}{l:List Tm}{d:D}(hd:(Tm.mk 4 nm ot n0 ty re l).Is d)(I:(Tm.mk 4 nm ot n0 ty re l).ok=true):R0 231 [.dg 9 d] (Sy nm l):=by
 have O:l.length<=2:=by have h1:=(wC I).2.2.2.2 rfl;have h2:=Qn nm;omega
 have J:∀ x∈l,x.ok=true:=by
  simp only[Tm.ok,oK]at I;have U:∀ {l:List Tm},sW l=true->∀ x∈l,x.ok=true:=λ{l}=>by
   induction l with
   | nil=>intro _ x hx;simp at hx
   | cons t ts Y=>
     intro h x hx;simp only[sW,oK]at h;rcases oL.1 hx with rfl | hx
     ·exact h.1
     ·exact Y h.2 x hx
  exact U I.1
 exact OV hd (Xp I) O λx hx h=>Qf (J x hx) h
theorem E5 {k n m:Int}{c1 c2 c4 c5 O U Y:D}:vU 229 [.dg 9 (.ag [.j k,c1,c2,.j n,c4,c5,O,U,Y]),.j m] (!(k==11&&m==1)):=λN Q J=>pu N _ m Q λ_=>⟨_,rfl,Br.bne (λh N1 I=>Qb (J _ I) (by simp[h])) λh N1 I=>Qb (J _ I) (by rw[h];simp[bne])⟩
theorem Ps:∀(t:Tm)(d:D),t.Is d->∀ m:Int,LvIn m t.dp->vU 118 [.dg 9 d,.j m,.fn 229 []] (t.made m):=by
 refine Tm.ind λk nm ot n ty re l ih d hd m hm N Q hQ=>?_;obtain⟨t0,t1,r0,r1,a,es,c,rfl,hh,U,Y⟩:=Tm.is_mk.1 hd;have hl:=Y.len;refine DJ N _ m Q λ_ N1 ae=>E5 N1 _ λN2 ah _=>Br.not (λhv N3 ai=>Qb (hQ _ (by omega)) (by simp only[Tm.made,hv,Bool.false_and])) λhv=>⟨_,_,_,rfl,?_⟩
 refine up Y U (λi xs=>∀(N':Nat),N<=N'->(∀ I,N'<=I->Q (u6 xs (zK k m)) I)->wH Q N m a es c es.length i (.ag [.j k,.t nm,.t ot,.j n,t0,t1,r0,r1,.sl a 9 es c]) N') ?_ ?_ N2 (by omega) λI h=>Qb (hQ I (by omega)) (by simp only[Tm.made,hv,Bool.true_and])
 ·intro i aa _ N' ab O;refine rV ?_
  repeat' first|with_reducible intro _|simp only[aa,Y1]|with_reducible refine X ?_ ?_|refine⟨_,_,_,rfl,?_⟩|refine⟨_,rfl,?_⟩|refine X0 ?_|fail
  exact Qb (O _ (by omega)) (by simp[u6])
 ·intro i x xs J _ ac N' ab O;have aj:=J.b;refine rV ?_
  repeat' first|with_reducible intro _|simp only[J.lt,J.w,oG,Y1]|with_reducible refine X ?_ ?_|refine⟨_,_,_,rfl,?_⟩|refine⟨_,rfl,?_⟩|refine X0 ?_|refine(DU hm.b) _ _ ?_|refine(ih x J.m _ J.r _ (hm.next (dp_mem J.m))) _ _ ?_|fail
  ·refine Qb (O _ (by omega)) ?_;simp[u6, *]
  ·exact ac _ (by omega) λI h=>Qb (O I (by omega)) (by simp[u6, *])
theorem Ie {t:Tm}{d:D}(hd:t.Is d)(hc:t.G){m:Int}(U:LvIn m t.dp):vU 187 [.dg 9 d,.j m] (uG t m&&t.made m):=λN Q O=>B4 N _ m Q λ_ N1 Y=>rQ t d hd hc m N1 _ λN2 aa _=>Br.of (λI N3 J=>Ps t d hd m U N3 _ λN4 ab _ N5 ac=>Qb (O _ (by omega)) (by rw[I];simp)) λI N3 J=>Qb (O _ (by omega)) (by rw[I];simp)
theorem vX {e:Tm}{d:D}(he:e.Is d)(J:e.ok=true)(hc:e.G)(ac:e.dp<=1073741824):vU 124 [.dg 9 d] e.res:=λN Q hQ=>by
 cases e with
 | mk k nm ot n0 ty re l=>
 have hI:=vk _ d he hc;rw[J]at hI;obtain⟨t0,t1,r0,r1,a,es,c,rfl,hh,ai,aa⟩:=Tm.is_mk.1 he;have hl:=aa.len;refine GH N _ Q λ_=>⟨_,rfl,?_⟩
 refine Br.beq (λh2 N1 I=>hI N1 _ λN2 O _ N3 U=>Qb (hQ _ (by omega)) (by simp[Tm.res,NO,Tm.kd,h2])) λh2=>?_;refine Br.beq (λh3 N1 I=>hI N1 _ λN2 O _ N3 U=>Qb (hQ _ (by omega)) (by simp[Tm.res,NO,Tm.kd,h3])) λh3=>?_;refine Br.beq (λh6 N1 I=>hI N1 _ λN2 O _ N3 U=>Qb (hQ _ (by omega)) (by simp[Tm.res,NO,Tm.kd,h6])) λh6=>?_;refine Br.beq (λh9 N1 I=>hI N1 _ λN2 O _ N3 U=>Qb (hQ _ (by omega)) (by simp[Tm.res,NO,Tm.kd,h9])) λh9=>?_;refine Br.beq (λY N1 I=>?_) λY N1 I=>Qb (hQ _ I) (by simp[Tm.res,NO,Tm.kd,h2,h3,h6,h9,Y]);subst Y;have ab:=(wC J).1 (by omega);refine hI N1 _ λN2 O _=>Br.of (λ_=>?_) λh=>absurd h (by decide);cases l with
 | nil=>simp at ab
 | cons p ls=>
 cases ls with
 | cons _ _=>simp at ab
 | nil=>
 have ae:p.G:=hc.2.2.2.1;have ah:p.ok=true:=by simp only[Tm.ok,sW,oK]at J;exact J.1.1
 simp only[Tm.dp,v7]at ac;refine⟨_,_,_,rfl,⟨by omega,by omega⟩,λN3 U=>?_⟩;refine Ie (yf aa (j:=0) (by simp)) ae (m:=1) (by unfold LvIn;simp only[mI];omega) N3 _ λN4 aj _ N5 ak=>Qb (hQ _ (by omega)) ?_;simp only[mI,Tm.res,NO,Tm.kd,Tm.lev,sV,zK,Tm.pt,uG,ah];simp[inB]
theorem E2 {e:Tm}{d:D}(he:e.Is d)(O:e.ok=true)(hG:e.G)(Y:e.dp<=1073741824):R0 230 [.dg 9 d] (if e.kd=10/\e.res=true then(e.pt 0,true)else(tm0,false)):=λN Q J=>by
 cases e with
 | mk k nm ot n0 ty re l=>
 have hR:=vX he O hG Y;obtain⟨t0,t1,r0,r1,a,es,c,rfl,hh,ac,U⟩:=Tm.is_mk.1 he;have hl:=U.len;refine GF N _ Q λ_=>⟨_,rfl,Br.bne (λI N1 aa=>?_) λI N2 ae=>hR N2 _ λN3 ah _=>Br.not (λhv N4 ai=>?_) λhv=>?_⟩
 ·rw[if_neg (λh=>I h.1)]at J;exact J _ _ aa LD
 ·rw[if_neg (λh=>by rw[hv]at h;exact absurd h.2 (by decide))]at J;exact J _ _ (by omega) LD
 ·rw[if_pos ⟨I,hv⟩]at J;have aj:=(wC O).1 (by omega);refine⟨_,_,_,rfl,⟨by omega,by omega⟩,λN5 ak=>?_⟩;exact Ka qF (yf U (j:=0) (by omega)) (zy hG.2.2.2 (zM (by omega))) (N0:=N) (by omega) (λd N=>Q d true N) λd' N7 al ab _=>J _ _ (by omega) ab
theorem Pj {e:Tm}{d:D}(he:e.Is d)(hok:e.ok=true)(hG:e.G):R0 233 [.dg 9 d] (if e.kd=2\/e.kd=3 then(Tm.nod 10 [e],true)else(tm0,false)):=fun N Q hQ=>by
 cases e with
 | mk k nm ot n0 ty re l=>
 have hI:=vk _ d he hG;rw[hok]at hI;have he0:=he;obtain⟨t0,t1,r0,r1,a,es,c,rfl,hh,hlen,hes⟩:=Tm.is_mk.1 he;have hl:=hes.len
 have fin:(Tm.mk k nm ot n0 ty re l).kd=2\/(Tm.mk k nm ot n0 ty re l).kd=3->∀ N2,N<=N2->∀ N3,N2<=N3->ACalls prog 123 [.pk,.i,.str,.str,.i,.dc,.dc,.dc,.dc,.row 35 9] [.dg 9 (.ag [.j k,.t nm,.t ot,.j n0,t0,t1,r0,r1,.sl a 9 es c])] N3
   (fun n s s_1 n_1 x x_1 x_2 x_3 es c N4=>N3<=N4->Bel N4 (D.ag es)->(es.length=es.length/\c=c)/\∀ a N5,N4<=N5->Fresh N N5 a [D.ag es]->(1=([D.ag [D.j n,D.t s,D.t s_1,D.j n_1,x,x_1,x_2,x_3,D.sl a 9 es c]]).length/\1=1) /\
    ∀ a_1 N6,N5<=N6->Fresh N N6 a_1 [D.ag [D.ag [D.j n,D.t s,D.t s_1,D.j n_1,x,x_1,x_2,x_3,D.sl a 9 es c]]]->∀ N7,N6<=N7->ACalls prog 258 [.ag 9] [.j 10,.sv a_1 9 [D.ag [D.j n,D.t s,D.t s_1,D.j n_1,x,x_1,x_2,x_3,D.sl a 9 es c]] 1] N7
      (fun x_4 N8=>N7<=N8->Bel N8 x_4->∀ N9,N8<=N9->Q x_4 true N9)):=fun hk N2 hN2 N3 hN3=>by
  rw[if_pos hk]at hQ;refine qF _ _ he0 hG N3 _ ?_;intro x4 x5 x6 x7 es' c' N4 hN4 hh' hes' ho' _ _;have hl':=hes'.len;have hgl:=hG.2.2.1;refine⟨⟨rfl,rfl⟩,fun a1 N5 hN5 _=>⟨⟨rfl,rfl⟩,fun a2 N6 hN6 _ N7 hN7=>Jf N7 10 a2 _ 1 _ fun _ N8 hN8 _ _ N9 hN9=>hQ _ _ (by omega) ?_⟩⟩;exact Tm.is_mk.2 ⟨_,_,_,_,_,_,_,rfl,⟨by decide,by decide,vQ _,vQ _⟩,by simp,_,[],rfl,Tm.is_mk.2 ⟨_,_,_,_,_,_,_,rfl,hh',by omega,hes'⟩,rfl⟩
 refine JZ N _ Q fun _=>⟨_,rfl,Br.bne (fun h2=>⟨_,rfl,Br.bne (fun h3 N1 hN1=>?_) fun h3 N2 hN2=>hI N2 _ fun N3 hN3 _=>Br.not (fun h=>absurd h (by decide)) fun _=>fin (.inr h3) N3 (by omega)⟩) fun h2 N2 hN2=>hI N2 _ fun N3 hN3 _=>Br.not (fun h=>absurd h (by decide)) fun _=>fin (.inl h2) N3 (by omega)⟩
 rw[if_neg (fun h=>h.elim h2 h3)]at hQ;exact hQ _ _ hN1 LD
theorem EU {e b:Tm}{d I:D}(J:e.Is d)(O:b.Is I)(x:ByteArray)(U:e.Z)(Y:b.Z):UR 232 [.dg 9 d,.str x,.dg 9 I] (e.sb x b):=Ha e.dp e d x b I J O (oC _) U Y
theorem Sz {n0:Int}{nm ot:ByteArray}{ty re:Ty}{l:List Tm}:(Tm.mk 4 nm ot n0 ty re l).opr l=if(Sy nm l).2=true then((Sy nm l).1,1)else(Tm.mk 4 nm ot n0 ty re l,0):=by
 unfold Tm.opr Sy;by_cases hc:(l.all λx=>x.kd==yR nm)=true
 ·rw[if_pos hc,if_pos (show(l.all λx=>x.kd==yR (Tm.mk 4 nm ot n0 ty re l).nm)=true from hc),if_pos rfl];rfl
 ·rw[if_neg hc,if_neg (show ¬(l.all λx=>x.kd==yR (Tm.mk 4 nm ot n0 ty re l).nm)=true from hc),if_neg (by decide)]
theorem Ua {k n0:Int} {nm ot:ByteArray} {ty re:Ty} {l:List Tm} {d:D} {f:Nat} (hd:(Tm.mk k nm ot n0 ty re l).Is d) (hF:(Tm.mk k nm ot n0 ty re l).F (f+1)) (ak:k=12->(l.getD 0 tm0).res=true) :
  OL 191 [.dg 9 d] (Tm.mk k nm ot n0 ty re l).apl:=λN Q I=>by
 have U:=hd;obtain⟨t0,t1,r0,r1,a,es,c,rfl,hh,bp,ab⟩:=Tm.is_mk.1 hd;have hl:=ab.len;have ac:=hF.ok;have al:k=4->∀ N1,N<=N1->ACalls prog 231 [.ag 9,.bool] [.dg 9 (.ag [.j k,.t nm,.t ot,.j n0,t0,t1,r0,r1,.sl a 9 es c])] N1 (λx b N2=>N1<=N2->Bel N2 x->Br b (∀ N3,N2<=N3->Q x 1 N3) (∀ N4,N2<=N4->Q (.ag [.j k,.t nm,.t ot,.j n0,t0,t1,r0,r1,.sl a 9 es c]) 0 N4)):=λh4 N1 ch=>by
  subst h4;simp only[Tm.apl]at I;rw[if_pos trivial,Sz]at I;refine Pu U ac N1 _ λdx N2 cj hx _ _=>Br.of (λO N3 ck=>?_) λO N4 cm=>?_
  ·rw[if_pos O]at I;exact I _ _ (by omega) hx
  ·rw[if_neg (by rw[O];decide)]at I;exact I _ _ (by omega) U
 refine LT N _ Q λ_=>⟨_,_,_,rfl,Br.dec (λbq=>⟨_,_,_,rfl,⟨by omega,by omega⟩,_,rfl,?_⟩) λbt=>⟨_,rfl,?_⟩⟩
 ·have aw:0<l.length:=by omega
  have ao:=yf ab aw;have J:=hF.mem _ (zM aw);have ax:=J.b;have aq:=J.g;refine Br.beq (λh4=>al h4) λh4=>?_;simp only[Tm.apl]at I;rw[if_neg h4]at I;generalize cn:l.getD 0 tm0=p at ao J I ak ax aq;have ai:=ao;have ay:=λh=>MJ J.ok h;have az:=E2 ai J.ok aq ax;have a6:=Pj ai J.ok aq;cases p with
  | mk pk pn po pm pt pr Y=>
  obtain⟨u0,u1,v0,v1,a2,co,c2,heq,cp,bb,aj⟩:=Tm.is_mk.1 ao;have cq:=aj.len;simp only[Tm.kd,Tm.no]at ay;rw[heq]at ai az a6 ⊢;have one:(pk=6\/pk=9)->Y.length=1:=λh=>(wC J.ok).1 (by omega);have au:Y.length=1->(Y.getD 0 tm0).F f:=λh=>((J.up (g:=f+1) (by omega)).mem _ (zM (l:=Y) (i:=0) (by omega)))
  refine Br.beq (λh5=>⟨_,rfl,Br.beq (λh3=>?_) λh3 N9 bc=>?_⟩) λh5=>Br.beq (λh7=>⟨_,rfl,Br.beq (λh6=>?_) λh6=>Br.beq (λh9=>?_) λh9 cr bv=>?_⟩) λh7=>Br.beq (λh8=>?_) λh8=>Br.beq (λaa bd bw=>?_) λaa=>Br.beq (λae bg bz=>?_) λae bh a7=>?_
  ·rw[if_pos h5,if_pos (show(Tm.mk pk pn po pm pt pr Y).kd=3 from h3)]at I;have ct:=(wC ac).2.2.1 h5;have hn:=ay h3;have hw:IntKind.i64.wrap (2 - pm)=2 - pm:=i64_in _ (by omega);refine⟨_,_,_,rfl,_,rfl,?_⟩;rw[hw];refine⟨⟨by omega,by omega⟩,λN6 a8=>?_⟩;exact Ka qF (yf ab (j:=(2 - pm).toNat) (by omega)) (zy hF.z.g.2.2.2 (zM (by omega))) (N0:=N) (by omega) (λd N=>Q d 2 N) λd' N7 ba bi _=>I _ _ (by omega) bi
  ·rw[if_pos h5,if_neg (show ¬(Tm.mk pk pn po pm pt pr Y).kd=3 from h3)]at I;exact I _ _ (by omega) U
  ·have bj:=(wC ac).2.1 (.inl h7);have h1:=one (.inl h6);rw[if_neg h5,if_pos h7,if_pos (show(Tm.mk pk pn po pm pt pr Y).kd=6 from h6)]at I;refine⟨_,_,_,rfl,⟨by omega,by omega⟩,_,rfl,_,_,_,rfl,⟨by omega,by omega⟩,λN6 a8=>?_⟩;exact EU (yf aj (j:=0) (by omega)) (yf ab (j:=1) (by omega)) pn (au h1).z (hF.mem _ (zM (i:=1) (by omega))).z N6 _ λdx N7 ba hx _ _ _ N8 bm=>I _ _ (by omega) hx
  ·have bj:=(wC ac).2.1 (.inl h7);have h1:=one (.inr h9);rw[if_neg h5,if_pos h7,if_neg (show ¬(Tm.mk pk pn po pm pt pr Y).kd=6 from h6),if_pos (show(Tm.mk pk pn po pm pt pr Y).kd=9 from h9)]at I;refine⟨_,_,_,rfl,⟨by omega,by omega⟩,_,rfl,_,rfl,_,_,_,rfl,⟨by omega,by omega⟩,λN9 bc=>?_⟩;refine EU (yf aj (j:=0) (by omega)) ai pn (au h1).z J.z N9 _ λdx cw b3 hx _ _ _ bn b7=>?_;exact EU hx (yf ab (j:=1) (by omega)) po (YN (au h1) J) (hF.mem _ (zM (i:=1) (by omega))).z bn _ λdy cx b8 hy _ _ _ cy b9=>I _ _ (by omega) hy
  ·rw[if_neg h5,if_pos h7,if_neg (show ¬(Tm.mk pk pn po pm pt pr Y).kd=6 from h6),if_neg (show ¬(Tm.mk pk pn po pm pt pr Y).kd=9 from h9)]at I;exact I _ _ (by omega) U
  ·have cz:=(wC ac).2.1 (.inr h8);rw[if_neg h5,if_neg h7,if_pos h8]at I;refine⟨_,_,_,rfl,⟨by omega,by omega⟩,_,rfl,λN6 a8=>?_⟩;exact EU (yf ab (j:=1) (by omega)) ai nm (hF.mem _ (zM (i:=1) (by omega))).z J.z N6 _ λdx N7 ba hx _ _ _ N8 bm=>I _ _ (by omega) hx
  ·rw[if_neg h5,if_neg h7,if_neg h8,if_pos aa]at I;have hr:=ak aa;refine az bd _ λdx c6 ca hx _ _=>Br.of (λO c7 cc=>?_) λO c8 cd=>?_
   ·by_cases ah:(Tm.mk pk pn po pm pt pr Y).kd=10
    ·rw[if_pos ⟨ah,hr⟩]at hx;rw[if_pos ah]at I;exact I _ _ (by omega) hx
    ·rw[if_neg (λh=>ah h.1)]at O
     first | exact absurd (show true=false from O) (by decide) | exact absurd (show false=true from O) (by decide)
   ·by_cases ah:(Tm.mk pk pn po pm pt pr Y).kd=10
    ·rw[if_pos ⟨ah,hr⟩]at O
     first | exact absurd (show true=false from O) (by decide) | exact absurd (show false=true from O) (by decide)
    ·rw[if_neg ah]at I;exact I _ _ (by omega) U
  ·rw[if_neg h5,if_neg h7,if_neg h8,if_neg aa,if_pos ae]at I;refine a6 bg _ λdx da ce hx _ _=>Br.of (λO db cf=>?_) λO de cg=>?_
   ·by_cases h2:(Tm.mk pk pn po pm pt pr Y).kd=2\/(Tm.mk pk pn po pm pt pr Y).kd=3
    ·rw[if_pos h2]at hx I;exact I _ _ (by omega) hx
    ·rw[if_neg h2]at O
     first | exact absurd (show true=false from O) (by decide) | exact absurd (show false=true from O) (by decide)
   ·by_cases h2:(Tm.mk pk pn po pm pt pr Y).kd=2\/(Tm.mk pk pn po pm pt pr Y).kd=3
    ·rw[if_pos h2]at O
     first | exact absurd (show true=false from O) (by decide) | exact absurd (show false=true from O) (by decide)
    ·rw[if_neg h2]at I;exact I _ _ (by omega) U
  ·rw[if_neg h5,if_neg h7,if_neg h8,if_neg aa,if_neg ae]at I;exact I _ _ (by omega) U
 ·have dh:l.length=0:=by omega
  obtain⟨a1,a2,a3,_,_⟩:=wC ac;refine Br.beq (λh4=>al h4) λh4=>Br.beq (λh5=>by have:=a3 h5;omega) λh5=>Br.beq (λh7=>by have:=a2 (.inl h7);omega) λh7=>Br.beq (λh8=>by have:=a2 (.inr h8);omega) λh8=>Br.beq (λaa=>by have:=a1 (by omega);omega) λaa=>Br.beq (λae=>by have:=a1 (by omega);omega) λae bh a7=>?_;simp only[Tm.apl]at I;rw[if_neg h4,if_neg h5,if_neg h7,if_neg h8,if_neg aa,if_neg ae]at I;exact I _ _ (by omega) U
theorem OW {k n0:Int}{nm ot:ByteArray}{t0 t1 r0 r1:D}{a:Option Addr}{es:List D}{c:Nat}:AG 190 [.dg 9 (.ag [.j k,.t nm,.t ot,.j n0,t0,t1,r0,r1,.sl a 9 es c])] (Ac k es.length:Nat):=λN Q J=>by
 refine GP N _ Q λ_=>⟨_,rfl,Br.beq (λY=>⟨_,_,_,rfl,λN1 I=>Qi (J _ I) (by simp[Ac,Y])⟩) λY=>Br.beq (λh7=>⟨_,_,_,rfl,λN1 I=>Qi (J _ I) (by simp[Ac,h7])⟩) λh7=>?_⟩
 refine Br.beq (λh5 N1 I=>Qi (J _ I) (by simp[Ac,h5])) λh5=>Br.beq (λh8 N1 I=>Qi (J _ I) (by simp[Ac,h8])) λh8=>Br.beq (λO N1 I=>Qi (J _ I) (by simp[Ac,O])) λO=>Br.beq (λU N1 I=>Qi (J _ I) (by simp[Ac,U])) λU N1 I=>Qi (J _ I) (by simp[Ac,Y,h7,h5,h8,O,U])
theorem Tq {t y:Tm} {d dy:D} (h:t.Is d) (hG:t.G) (hy:y.Is dy) (h1:t.as.length=1) {N0 N:Nat} {a1:Option Addr} (hb:vN N [a1]) (Q':D->Nat->Prop) (hq:∀ d' N',N<=N'->(t.wth 0 y).Is d'->Q' d' N') :
  ACalls prog 189 [.pk,.i,.str,.str,.i,.dc,.dc,.dc,.dc,.bk 1] [.dg 9 d,.sv a1 9 [dy] 1] N (λn s ab ac I J O U ae N7=>N<=N7->ae=D.sl a1 9 [dy] 1/\Off [a1] I/\Off [a1] J/\Off [a1] O/\Off [a1] U/\(1=([dy]).length/\1=1)/\(1=([dy]).length/\1=1)/\(1=([dy]).length/\1=1) /\
   ∀ Y N8,N7<=N8->Fresh N0 N8 Y [D.ag [dy],I,J,O,U]->∀ N9,N8<=N9->Q' (D.ag [D.j n,D.t s,D.t ab,D.j ac,I,J,O,U,D.sl Y 9 [dy] 1]) N9):=by
 cases t with
 | mk k nm ot n0 ty re l=>
 obtain⟨t0,t1,r0,r1,a,es,c,rfl,hh,al,ao⟩:=Tm.is_mk.1 h;simp only[Tm.as]at h1;obtain⟨g1,g2,g3,g4⟩:=hG;refine Lz hh g1 g2 a1 [dy] 1 N _ λx4 x5 x6 x7 N5 aq ah ai _=>⟨rfl,?_⟩
 have off:∀ y∈[x4,x5,x6,x7],Off [a1] y:=λy hy a' aj ad ak hc=>by have h1:=hb a' aj ad ak;have h2:=ai.lo _ (zJ.2 ⟨y,hy,hc⟩);omega
 refine⟨off x4 (by simp),off x5 (by simp),off x6 (by simp),off x7 (by simp),⟨rfl,rfl⟩,⟨rfl,rfl⟩,⟨rfl,rfl⟩,λa2 N8 au _ N9 aw=>hq _ _ (by omega) ?_⟩;have aa:l.set 0 y=[y]:=by
  cases l with
  | nil=>simp at h1
  | cons p ls=>cases ls with
    | nil=>rfl
    | cons _ _=>simp at h1
 simp only[Tm.wth];rw[aa];exact Tm.is_mk.2 ⟨_,_,_,_,_,_,_,rfl,ah,by simp,dy,[],rfl,hy,rfl⟩
theorem KV {f:Nat}(hS:Tf 125 f):∀(t:Tm)(d:D),t.Is d->t.F (f+1)->∀ m:Int,LvIn m t.dp->Te 188 [.dg 9 d,.j m,.fn 125 []] (t.cod (Tm.stp f) m):=by
 refine Tm.ind λk nm ot n0 ty re l ih d hd hF m hm N Q J=>?_;have aa:=hd;obtain⟨t0,t1,r0,r1,a,es,c,rfl,hh,ah,ab⟩:=Tm.is_mk.1 hd;have hl:=ab.len;have loop:¬(k=11/\m=1)->yo Q N m a es c es.length 0 (.ag [.j k,.t nm,.t ot,.j n0,t0,t1,r0,r1,.sl a 9 es c]) 0 (bytes []) (bytes []) 0 0 none [] 0 0 none [] 0 none [] 0 N:=λal=>by
  simp only[Tm.cod]at J;rw[if_neg al]at J;refine up ab ah (λi xs=>∀ N',N<=N'->(match yL (Tm.stp f) xs (zK k m)with | none=>yL (Tm.stp f) l (zK k m)=none | some (l',r)=>yL (Tm.stp f) l (zK k m)=some (l.take i++l',r)) ->
   yo Q N m a es c es.length i (.ag [.j k,.t nm,.t ot,.j n0,t0,t1,r0,r1,.sl a 9 es c]) 0 (bytes []) (bytes []) 0 0 none [] 0 0 none [] 0 none [] 0 N') ?_ ?_ N (oC _) ?_
  ·intro i ao hi N' aq U;simp only[yL]at U;rw[U]at J;refine rZ ?_;rw[ao];exact λN2 ai=>J _ _ (by omega) aa
  ·intro i x xs I au aw N' aq U;have hb:=I.b;have aj:i<l.length:=(oD.1 I.g).1;refine rZ ?_;rw[I.lt,I.w];refine⟨⟨by omega,by omega⟩,λN1 ax=>DU hm.b N1 _ λN2 ai _ N3 ay=>?_⟩;have hr:=I.r;rw[<-oG i]at hr;refine ih x I.m _ hr ((hF.mem x I.m).up (by omega)) _ (hm.next (dp_mem I.m)) N3 _ λdx N4 az hx _ _=>Br.of (λhv N5 a6=>?_) λhv=>?_
   ·simp only[yL]at U;rw[if_pos hv]at U;simp only at U;rw[U]at J;refine VZ qF aa hF.z.g hx aj (N0:=N) (λd N=>Q d (x.cod (Tm.stp f) (zK k m)).2.1 true N) λd' N6 a7 ac=>J _ _ (by omega) ?_;have:l.take i++(x.cod (Tm.stp f) (zK k m)).1::xs=l.set i (x.cod (Tm.stp f) (zK k m)).1:=by rw[lE,if_pos aj,au]
    simp only;rw[this];exact ac
   ·refine aw _ (by omega) ?_;simp only[yL]at U;rw[if_neg (by rw[hv];decide)]at U;cases hc:yL (Tm.stp f) xs (zK k m)with
    | none=>rw[hc]at U;exact U
    | some p=>obtain⟨l',r⟩:=p;rw[hc]at U;simp only at U ⊢;rw[U,vJ I.g,oP];rfl
  ·cases hc:yL (Tm.stp f) l (zK k m)with
   | none=>rfl
   | some p=>obtain⟨l',r⟩:=p;simp
 refine EG N _ m Q λ_=>⟨_,rfl,Br.beq (λh1=>Br.beq (λh2=>?_) λh2=>⟨_,_,_,rfl,loop λh=>h2 h.2⟩) λh1=>⟨_,_,_,rfl,loop λh=>h1 h.1⟩⟩
 have a8:=(wC hF.ok).1 (by omega);have ak:0<l.length:=by omega
 have ba:=zM ak;have O:=hF.mem _ ba;have ae:=yf ab ak;simp only[Tm.cod]at J;rw[if_pos ⟨h1,h2⟩]at J;unfold Vb at J;rw[VN]at J;refine⟨_,_,_,rfl,⟨by omega,by omega⟩,λN1 ax=>vX ae O.ok O.g O.dp N1 _ λN2 ai _=>Br.not (λhr N3 ay=>?_) λhr N9 bg=>?_⟩
 ·rw[if_neg (by rw[hr];decide)]at J;refine hS _ _ ae O N3 _ λdx N4 az hx _ _=>⟨⟨rfl,rfl⟩,λa1 _ _ N5 a6 hb=>?_⟩
  exact Tq aa hF.z.g hx a8 hb (N0:=N) (λd N=>Q d (Tm.stp f (l.getD 0 tm0)).2 true N) λd' N6 a7 ac=>J _ _ (by omega) ac
 ·rw[if_pos hr]at J;refine E2 ae O.ok O.g O.dp N9 _ λdx bh bb hx _ _=>Br.of (λhv bi bc=>?_) λhv bj bd=>?_
  ·by_cases Y:(l.getD 0 tm0).kd=10
   ·rw[if_pos ⟨Y,hr⟩]at hx;rw[if_pos Y]at J;exact J _ _ (by omega) hx
   ·rw[if_neg (λh=>Y h.1)]at hv
    first | exact absurd (show true=false from hv) (by decide) | exact absurd (show false=true from hv) (by decide)
  ·by_cases Y:(l.getD 0 tm0).kd=10
   ·rw[if_pos ⟨Y,hr⟩]at hv
    first | exact absurd (show true=false from hv) (by decide) | exact absurd (show false=true from hv) (by decide)
   ·rw[if_neg Y]at J;exact J _ _ (by omega) aa
theorem HZ:∀ f,Tf 125 f
 | 0=>λe d _ J=>absurd (Tm.dp_pos e) (by have:=J.d;omega)
 | f + 1=>λe d hd J N Q hQ=>by
   have ih:=HZ f;cases e with
   | mk k nm ot n0 ty re l=>
   have O:=hd;obtain⟨t0,t1,r0,r1,a,es,c,rfl,hh,bm,U⟩:=Tm.is_mk.1 hd;have hl:=U.len;simp only[Tm.stp]at hQ;refine Mr N _ Q λ_ N1 ax=>vX O J.ok J.g J.dp N1 _ λN2 ay _=>Br.of (λhv N3 az=>?_) λhv=>⟨_,rfl,Br.beq (λah=>?_) λah aj ak=>?_⟩
   ·rw[if_pos hv]at hQ;exact hQ _ _ (by omega) O
   ·rw[if_neg (by rw[hv];decide),if_pos (show(Tm.mk k nm ot n0 ty re l).kd=10 from ah)]at hQ;have a6:=(wC J.ok).1 (by omega);have al:=zM (l:=l) (i:=0) (by omega);have bn:=dp_mem (k:=k) (nm:=nm) (ot:=ot) (n:=n0) (ty:=ty) (re:=re) al;have bp:=J.dp;refine⟨_,_,_,rfl,⟨by omega,by omega⟩,λN4 a7=>?_⟩;refine KV ih _ _ (yf U (j:=0) (by omega)) ((J.mem _ al).up (by omega)) 1 (by unfold LvIn;omega) N4 _ λdx N5 a8 hx _ _=>⟨⟨rfl,rfl⟩,λa1 _ _ N6 ao hb=>?_⟩
    exact Tq O J.z.g hx a6 hb (N0:=N) (λd N=>Q d (Tm.cod (Tm.stp f) (l.getD 0 tm0) 1).2.1 N) λd' N6 ao ai=>hQ _ _ (by omega) ai
   ·rw [if_neg (by rw[hv];decide),if_neg (show ¬(Tm.mk k nm ot n0 ty re l).kd=10 from ah)]at hQ;refine OW aj _ λaq au _=>?_;have bq:Ac k l.length<=l.length:=by
     unfold Ac;split
     ·exact oC _
     ·split
      ·rename_i h;obtain⟨b1,b2,b3,_⟩:=wC J.ok;rcases h with h | h | h | h
       ·have:=b3 h;omega
       ·have:=b2 (.inr h);omega
       ·have:=b1 (by omega);omega
       ·have:=b1 (by omega);omega
      ·omega
    have ba:All2 Tm.Is (l.take (Ac k l.length)) (es.take (Ac k l.length)):=by
     have:∀(n:Nat) (l:List Tm) (es:List D),All2 Tm.Is l es->All2 Tm.Is (l.take n) (es.take n):=by
      intro n
      induction n with
      | zero=>intro l es _;simp;rfl
      | succ n bb=>
        intro l es h;cases l with
        | nil=>cases h;exact rfl
        | cons x xs=>obtain⟨y,ys,rfl,h1,h2⟩:=h;exact⟨y,ys.take n,rfl,h1,bb _ _ h2⟩
     exact this _ _ _ U
    have aw:(es.take (Ac k l.length)).length=Ac k l.length:=by rw[nL];omega
    rw[hl];refine up ba (by omega) (λi xs=>∀ N',N<=N'->(∀ j x,j<i->(l.take (Ac k l.length))[j]?=some x->x.res=true)->(∀ r:Tm × Int,(match goS (Tm.stp f) (Tm.mk k nm ot n0 ty re l) xs i with | some r=>r | none=>(Tm.mk k nm ot n0 ty re l).apl)=r->∀ d ab,N<=ab->r.1.Is d->Q d r.2 ab) ->
     uS Q N (Ac k l.length:Nat) i (.ag [.j k,.t nm,.t ot,.j n0,t0,t1,r0,r1,.sl a 9 es c]) 0 (bytes []) (bytes []) 0 0 none [] 0 0 none [] 0 none [] 0 N') ?_ ?_ aq (by omega) (λj x h=>absurd h (by omega)) (λr I d ab h1 h2=>by rw[<-I];rw[<-I]at h2;exact hQ d ab h1 h2)
    ·intro i Y hi N' bc hk I;rw[aw]at Y;refine Ba ?_;rw[Y];have I:=I _ rfl;simp only[goS]at I;refine λN9 bt=>Ua O J (λbd=>?_) N9 _ λdx aj ak hx _ _ aq au=>I _ _ (by omega) hx;have bg:Ac k l.length=1:=by simp[Ac,bd]
     refine hk 0 _ (by omega) ?_;rw[bg,List.getElem?_take_of_lt (by omega)];exact zi (by omega)
    ·intro i x xs aa bv bh N' bc hk I;have hb:=aa.b;have Y:=aa.lt;rw[aw]at Y hb;have ac:i<l.length:=by omega
     have bi:l[i]?=some x:=by
      have:=aa.g
      rw[List.getElem?_take_of_lt (by omega)]at this;exact this
     obtain rfl:l.getD i tm0=x:=by rw[oA,bi];rfl
     have ae:=J.mem _ (zM ac);refine Ba ?_;rw[Y,aa.w];refine⟨_,_,_,rfl,⟨by omega,by omega⟩,λN1 ax=>?_⟩;rw[oG];refine vX (yf U ac) ae.ok ae.g ae.dp N1 _ λN2 ay _=>Br.of (λhv=>?_) λhv=>?_
     ·rw[Ea hv]at I;refine bh _ (by omega) (λj y hj hy=>?_) I;by_cases bj:j<i
      ·exact hk j y bj hy
      ·have:j=i:=by omega
       subst this;rw[aa.g]at hy;rw[<-oX hy];exact hv
     ·have I:=I _ rfl;simp only[goS]at I;rw[if_neg (by rw[hv];decide)]at I;refine⟨_,_,_,rfl,⟨by omega,by omega⟩,λN3 az=>?_⟩;refine ih _ _ (yf U ac) ae N3 _ λdx N4 a7 hx _ _ N5 a8=>?_
      have:=VZ qF O J.z.g hx ac (N0:=N) (N:=N5) (λd N=>Q d (Tm.stp f (l.getD i tm0)).2 N) λd' N6 ao ai=>I _ _ (by omega) ai
      simpa only[oG]using this
theorem HY:∀(t:Tm)(d:D),t.Is d->t.sz<=9223372036854775807->AG 121 [.dg 9 d] t.sz:=by
 refine Tm.ind λk nm ot n0 ty re l ih d hd hc N Q hQ=>?_;obtain⟨t0,t1,r0,r1,a,es,c,rfl,hh,J,O⟩:=Tm.is_mk.1 hd;simp only[Tm.sz]at hc;refine B8 N _ Q λ_=>⟨_,_,_,rfl,?_⟩
 refine up O J (λi xs=>∀(m:Nat) (N':Nat),N<=N'->m+zO xs=1+zO l->xf Q N m a es c es.length i N') ?_ ?_ 1 N (oC _) rfl
 ·intro i U _ m N' Y hm;refine w6 ?_;simp only[zO]at hm
  repeat' first|with_reducible intro _|simp only[U,Y1]|with_reducible refine X ?_ ?_|refine⟨_,_,_,rfl,?_⟩|refine⟨_,rfl,?_⟩|refine X0 ?_|fail
  exact Qi (hQ _ (by omega)) (by simp only[Tm.sz];omega)
 ·intro i x xs I _ aa m N' Y hm;have hb:=I.b;have ab:=wb I.m;simp only[zO]at hm;refine w6 ?_;rw[I.lt,I.w,oG];refine⟨⟨by omega,by omega⟩,λN1 ac=>ih x I.m _ I.r (by omega) N1 _ λN2 ae _=>?_⟩;rw[i64_in _ (by omega)]
  have:=aa (m+x.sz) N2 (by omega) (by omega)
  simpa using this
theorem Cf:∀(t:Tm)(d:D),t.Is d->t.sz<=9223372036854775807->AG 46 [.dg 9 d] t.sz:=by
 refine Tm.ind λk nm ot n0 ty re l ih d hd hc N Q hQ=>?_;obtain⟨t0,t1,r0,r1,a,es,c,rfl,hh,J,O⟩:=Tm.is_mk.1 hd;simp only[Tm.sz]at hc;refine Jn N _ Q λ_=>?_;refine up O J (λi xs=>∀(m:Nat) (N':Nat),N<=N'->m+zO xs=1+zO l->wn Q N m i (.ag [.j k,.t nm,.t ot,.j n0,t0,t1,r0,r1,.sl a 9 es c]) N') ?_ ?_ 1 N (oC _) rfl
 ·intro i U _ m N' Y hm;refine qV ⟨_,_,_,rfl,?_⟩;simp only[zO]at hm;rw[U];exact λN2 aa=>Qi (hQ _ (by omega)) (by simp only[Tm.sz];omega)
 ·intro i x xs I _ ab m N' Y hm;have hb:=I.b;have ac:=wb I.m;simp only[zO]at hm;refine qV ⟨_,_,_,rfl,?_⟩;rw[I.lt,I.w,oG];refine⟨_,_,_,rfl,⟨by omega,by omega⟩,λN1 ae=>ih x I.m _ I.r (by omega) N1 _ λN2 aa _=>?_⟩;rw[i64_in _ (by omega)]
  have:=ab (m+x.sz) N2 (by omega) (by omega)
  simpa using this
theorem Qm:∀ t:Tm,t.ok=true->t.cnt<=61*t.sz:=by
 refine Tm.ind λk nm ot n ty re l ih h=>?_;obtain⟨h1,I,h3⟩:=Tm.ok_mk.1 h;have Y:∀ t:Ty,t.zero=true->t.cnt<=30:=λt J=>by
  cases t with
  | mk k l=>
  simp only[Ty.zero,Ty.k,Ty.as,oK,mK]at J;have:l=[]:=oV (by omega);subst this;simp[Ty.cnt,zS]
 have v1:∀ t:Ty,t.valid=true->t.cnt<=30:=λt J=>by simp only[Ty.valid,oK,oe]at J;exact J.1.1
 simp only[zI,oK,mK,ny]at I;have aa:ty.cnt<=30:=by
  rcases I.2.1 with h | h
  ·exact v1 _ (by rw[<-I.1,h])
  ·exact Y _ h
 have ab:re.cnt<=30:=by
  rcases I.2.2.2.1 with h | h
  ·exact v1 _ (by rw[<-I.2.2.1];simpa using h)
  ·exact Y _ h
 have key:∀ xs:List Tm,(∀ x∈xs,x∈l)->xQ xs<=61*zO xs:=by
  intro xs
  induction xs with
  | nil=>intro _;exact oC _
  | cons x xs O=>intro U;have a1:=ih x (U x (by simp)) (h1 x (U x (by simp)));have a2:=O λy hy=>U y (by simp[hy]);simp only[xQ,zO];omega
 have:=key l λx hx=>hx
 simp only[Tm.cnt,Tm.sz];omega
structure Rch (x:Tm):Prop where
 g:x.G
 s:x.sz<=64482000
 o:x.sz<=400->x.ok=true
theorem Rch.F {x:Tm}(h:Rch x)(hs:x.sz<=400):x.F x.dp:=Tm.F.of (h.o hs) (oC _) (by have:=Qm x (h.o hs);omega)
theorem Rch.step {x:Tm}(h:Rch x)(hs:x.sz<=400):Rch (x.stp x.dp).1:=⟨XC _ _ h.g,by have:=UF x.dp x hs;omega,λI=>Ra _ x (oC _) (h.o hs) I⟩
theorem Rch.of {e:Tm}(I:e.ok=true)(J:e.cnt<=4000000):Rch e:=⟨Tm.G_cnt e (by omega),by have:=Tm.sz_cnt e;omega,λ_=>I⟩
def US (r:Int × Tm × Nat)(d:D):Prop:=∃ cs,d=.ag (.j r.1::(cs++[.j (r.2.2:Nat)]))/\r.2.1.Is (.ag cs)
theorem rE (m n:Nat)(x:Tm):Ll m n x=if x.sz>400 then((3,tm0,n),[])else if x.res then((1,x,n),[])else match m with
  | 0=>((2,x,n),[])
  | m+1=>if(x.stp x.dp).2=0 then((4,x,n),[])else((Ll m (n+1) (x.stp x.dp).1).1,(x.stp x.dp).2::(Ll m (n+1) (x.stp x.dp).1).2):=by
 cases m<;>rfl
theorem Ft {s:Int} {k n0:Int} {nm ot:ByteArray} {ty re:Ty} {l:List Tm} {n:Nat} {I J O U Y y5 y6 y7 y8:D} (h:(Tm.mk k nm ot n0 ty re l).Is (.ag [I,J,O,U,Y,y5,y6,y7,y8])) :
 US (s,Tm.mk k nm ot n0 ty re l,n) (.ag [.j s,I,J,O,U,Y,y5,y6,y7,y8,.j (n:Nat)]):=⟨_,rfl,h⟩
theorem TG {s:Int}{n:Nat}:US (s,tm0,n) (.ag [.j s,.j 0,.t (bytes []),.t (bytes []),.j 0,.j 0,.sl none 2 [] 0,.j 0,.sl none 2 [] 0,.sl none 9 [] 0,.j (n:Nat)]):=⟨_,rfl,LD⟩
theorem Fresh.mono {N0 N1 N M:Nat}{a:Option Addr}{ds:List D}(h:Fresh N0 N a ds)(J:N1<=N0)(O:N<=M):Fresh N1 M a ds:=
 ⟨λad I=>oR J (h.lo ad I),λad I=>o6 (h.hi ad I) O,h.off,h.ap⟩
theorem Nf {N N':Nat}{s t:Value}{cs:List D}(h:Own N N' (.ag cs)):Own N N' (.ag (.lit s::(cs++[.lit t]))):=by
 have e:zC (.lit s::(cs++[.lit t]))=zC cs:=by simp only[zC,D.foot,zG,oa,o7]
 refine⟨?_,⟨trivial,yz h.fl ⟨trivial,trivial⟩⟩,λb I=>?_,λb I=>?_⟩
 ·have:=h.nd;simp only[D.foot]at this ⊢;rw[e];exact this
 ·simp only[D.foot]at I;rw[e]at I;exact h.lo b (by simpa only[D.foot]using I)
 ·simp only[D.foot]at I;rw[e]at I;exact h.hi b (by simpa only[D.foot]using I)
theorem JD {N N':Nat}{s:Value}{t:Value}:Own N N' (.ag [.lit s,.j 0,.t (bytes []),.t (bytes []),.j 0,.j 0,.sl none 2 [] 0,.j 0,.sl none 2 [] 0,.sl none 9 [] 0,.lit t]):=
 ⟨by simp[D.foot,zC],by simp[D.Flat0,xr],by simp[D.foot,zC],by simp[D.foot,zC]⟩
theorem Rs.cells {r:Int × Tm × Nat}{d:D}(h:US r d):∃ J O U Y y4 y5 y6 y7 y8,d=.ag [.j r.1,J,O,U,Y,y4,y5,y6,y7,y8,.j (r.2.2:Nat)]/\r.2.1.Is (.ag [J,O,U,Y,y4,y5,y6,y7,y8]):=by
 obtain⟨cs,rfl,h⟩:=h;obtain⟨s,t,n⟩:=r;cases t with
 | mk k nm ot n0 ty re l=>
 obtain⟨t0,t1,r0,r1,a,es,c,I,hh,aa,ab⟩:=Tm.is_mk.1 h;injection I with I
 subst I;exact⟨_,_,_,_,_,_,_,_,_,rfl,h⟩
theorem Gr {e:Tm}{d:D}(he:e.Is d)(hc:e.cnt<=4000000)(fu:Int)(N:Nat)(Q:QT [.ag 11])(O:∀ d N',N<=N'->US (xA e fu) d->Q d N'):ACalls prog 18 [.ag 11] [.dg 9 d,.j fu] N Q:=by
 have hG:=Tm.G_cnt e (by omega);unfold xA at O;refine HK N _ fu Q λ_ N1 ai=>FB e d he (by omega) 0 N1 _ λN2 aj _=>Br.not (λhv N3 ac=>?_) λhv N4 ak=>xU _ _ _ N4 _ λN5 al _=>Br.not (λhb N6 ae=>?_) λhb N7 ao=>?_
 ·rw[if_neg (by rw[hv];simp)]at O;exact O _ _ (by omega) TG
 ·rw[if_neg (by rw[hv,hb];decide)]at O;exact O _ _ (by omega) TG
 rw[if_pos (by rw[hv,hb];rfl)]at O;have bn:=yI.1 hb;have ax:e.ok=true:=by unfold uG at hv;simp at hv;exact hv.1
 have hR:=Rch.of ax hc;refine qD e d he hG N7 _ ?_;obtain⟨F,rfl⟩:∃ F:Nat,fu=(F:Int):=⟨fu.toNat,by omega⟩
 rw[oG]at O
 have rest:∀(m n:Nat) (x:Tm) (dx:D) (N':Nat),N<=N'->n+m=F->Rch x->x.Is dx->(∀ d N',N<=N'->US (Ll m n x).1 d->Q d N')->xT Q N (F:Nat) n 0 0 (bytes []) (bytes []) 0 0 none [] 0 0 none [] 0 none [] 0 0 dx N':=by
  intro m
  induction m with
  | zero=>
    intro n x dx N' ay hn hx I J;rw[rE]at J;have aq:=hx.s;refine uv λN1 ai=>Cf x dx I (by omega) N1 _ λN2 aj _=>Br.dec (λh4 N3 ac=>?_) λh4 N4 ak=>?_
    ·rw[if_pos (by omega)]at J;exact J _ _ (by omega) TG
    ·rw[if_neg (by omega)]at J;have hF:=hx.F (by omega);refine zt I hF.ok hF.dp N4 _ λN5 al _=>Br.of (λU N6 ae=>?_) λU=>Br.beq (λ_ N7 ao=>?_) λaa=>absurd (by omega) aa
     ·rw[if_pos U]at J;cases x with
      | mk k nm ot n0 ty re l=>
      obtain⟨t0,t1,r0,r1,a,es,c,rfl,hh,Y,ah⟩:=Tm.is_mk.1 I;exact J _ _ (by omega) (Ft I)
     ·rw[if_neg (by rw[U];decide)]at J;cases x with
      | mk k nm ot n0 ty re l=>
      obtain⟨t0,t1,r0,r1,a,es,c,rfl,hh,Y,ah⟩:=Tm.is_mk.1 I;exact J _ _ (by omega) (Ft I)
  | succ m ih=>
    intro n x dx N' ay hn hx I J;rw[rE]at J;have aq:=hx.s;refine uv λN1 ai=>Cf x dx I (by omega) N1 _ λN2 aj _=>Br.dec (λh4 N3 ac=>?_) λh4 N4 ak=>?_
    ·rw[if_pos (by omega)]at J;exact J _ _ (by omega) TG
    ·rw[if_neg (by omega)]at J;have hF:=hx.F (by omega);refine zt I hF.ok hF.dp N4 _ λN5 al _=>Br.of (λU N6 ae=>?_) λU=>Br.beq (λaa=>absurd aa (by omega)) λ_ N8 az=>?_
     ·rw[if_pos U]at J;cases x with
      | mk k nm ot n0 ty re l=>
      obtain⟨t0,t1,r0,r1,a,es,c,rfl,hh,Y,ah⟩:=Tm.is_mk.1 I;exact J _ _ (by omega) (Ft I)
     ·rw[if_neg (by rw[U];decide)]at J;refine E8 _ _ _ I hF N8 _ λdy N9 a6 hy _ _=>Br.beq (λh0 au aw=>?_) λh0=>?_
      ·simp only at J;rw[if_pos h0]at J;cases x with
       | mk k nm ot n0 ty re l=>
       obtain⟨t0,t1,r0,r1,a,es,c,rfl,hh,Y,ah⟩:=Tm.is_mk.1 I;exact J _ _ (by omega) (Ft I)
      ·simp only at J;rw[if_neg h0]at J;rw[i64_in _ (by omega)]
       have:=ih (n+1) _ dy N9 (by omega) (by omega) (hx.step (by omega)) hy J
       simpa using this
 cases e with
 | mk k nm ot n0 ty re l=>
 intro x4 x5 x6 x7 a7 c' N8 az a8 ab bp _ _;have bq:=ab.len;have bt:=hG.2.2.1;have aq:=hR.s;refine D0 ⟨⟨rfl,rfl⟩,⟨rfl,rfl⟩,λa1 N9 a6 _ au aw=>?_⟩;have I:(Tm.mk k nm ot n0 ty re l).Is (.ag [.j k,.t nm,.t ot,.j n0,x4,x5,x6,x7,.sl a1 9 a7 c']):=Tm.is_mk.2 ⟨_,_,_,_,_,_,_,rfl,a8,by omega,ab⟩;rw[rE]at O;refine Cf _ _ I (by omega) au _ λbv bd _=>Br.dec (λh4 N3 ac=>?_) λh4 ba bg=>?_
 ·rw[if_pos (by omega)]at O;exact O _ _ (by omega) TG
 rw[if_neg (by omega)]at O;have hF:=hR.F (by omega);refine zt I hF.ok hF.dp ba _ λbw bh _=>Br.of (λU N6 ae=>?_) λU=>Br.beq (λh0 N7 ao=>?_) λaa bb bi=>?_
 ·rw[if_pos U]at O;exact O _ _ (by omega) (Ft I)
 ·rw[if_neg (by rw[U];decide)]at O;have:F=0:=by omega
  subst this;exact O _ _ (by omega) (Ft I)
 ·rw[if_neg (by rw[U];decide)]at O;obtain⟨m,rfl⟩:∃ m,F=m+1:=⟨F - 1,by omega⟩
  simp only at O;refine E8 _ _ _ I hF bb _ λdy bc bj hy _ _=>Br.beq (λh0 bz bm=>?_) λh0=>?_
  ·rw[if_pos h0]at O;exact O _ _ (by omega) (Ft I)
  ·rw[if_neg h0]at O;rw[i64_in _ (by omega)];exact rest m 1 _ dy bc (by omega) (by omega) (hR.step (by omega)) hy O
theorem Gk {e:Tm}{d:D}(he:e.Is d)(hc:e.cnt<=4000000)(fu:Int)(N:Nat)(Q:QT [.ag 11])(hQ:∀ d N',N<=N'->US (xA e fu) d->Own N N' d->Q d N'):ACalls prog 26 [.ag 11] [.dg 9 d,.j fu] N Q:=by
 have hG:=Tm.G_cnt e (by omega);unfold xA at hQ;refine HA N _ fu Q λ_ M1 ah=>DK M1 _ fu _ λ_ N1 b8=>um e d he (by omega) 0 N1 _ λN2 b9 _=>Br.not (λhv N3 ca=>?_) λhv N4 cc=>zn _ _ _ N4 _ λN5 Y _=>Br.not (λhb N6 ai=>?_) λhb N7 aj=>?_
 ·rw[if_neg (by rw[hv];simp)]at hQ;exact λ_ _ M3 U=>hQ _ _ (by omega) TG JD
 ·rw[if_neg (by rw[hv,hb];decide)]at hQ;exact λ_ _ M3 U=>hQ _ _ (by omega) TG JD
 rw[if_pos (by rw[hv,hb];rfl)]at hQ;have cd:=yI.1 hb;have ay:e.ok=true:=by unfold uG at hv;simp at hv;exact hv.1
 have hR:=Rch.of ay hc;refine qF e d he hG N7 _ ?_;obtain⟨F,rfl⟩:∃ F:Nat,fu=(F:Int):=⟨fu.toNat,by omega⟩
 rw[oG]at hQ
 have rest:∀(m n:Nat) (k n0:Int) (nm ot:ByteArray) (ty re:Ty) (l:List Tm) (y4 y5 y6 y7:D) (r:List D) (q N':Nat),M1<=N'->n+m=F->Rch (.mk k nm ot n0 ty re l)->Tm.Hd nm ot ty re y4 y5 y6 y7->All2 Tm.Is l r->OwnL N N' ([y4,y5,y6,y7]++r)->(∀ d N',N<=N'->US (Ll m n (.mk k nm ot n0 ty re l)).1 d->Own N N' d->Q d N') ->
   wI (λx N2=>M1<=N2->Bel N2 x->∀ N3,N2<=N3->Q x N3) M1 (F:Nat) n 0 0 (bytes []) (bytes []) 0 0 none [] 0 0 none [] 0 none [] 0 0 k nm ot n0 y4 y5 y6 y7 r.length q r q N':=by
  intro m
  induction m with
  | zero=>
    intro n k n0 nm ot ty re l y4 y5 y6 y7 r q N' az hn hx hH hA hO I;have a6:=hA.len;have a7:=hx.g.2.2.1;have a8:=hx.s;rw[rE]at I;refine rY ⟨⟨rfl,rfl⟩,⟨rfl,rfl⟩,λa2 N5 Y ab N6 ai=>?_⟩;have hf:=ab.mono ah (oC _);have J:(Tm.mk k nm ot n0 ty re l).Is (.ag [.j k,.t nm,.t ot,.j n0,y4,y5,y6,y7,.sl a2 9 r q]):=Tm.is_mk.2 ⟨_,_,_,_,_,_,_,rfl,hH,by omega,hA⟩;have O:=uW (v0:=.int .i64 k) (v1:=.string nm) (v2:=.string ot) (v3:=.int .i64 n0) (c:=q) hO hf Y;refine HY _ _ J (by omega) N6 _ λN7 aj _=>Br.dec (λh4 N8 aa=>?_) λh4 N8 aa=>?_
    ·rw[if_pos (by omega)]at I;exact λ_ _ M3 U=>I _ _ (by omega) TG JD
    rw[if_neg (by omega)]at I;have hF:=hx.F (by omega);refine vX J hF.ok hF.g hF.dp N8 _ λN9 ba _=>Br.of (λhr bb ak=>?_) λhr=>Br.beq (λ_ al ao=>?_) λac=>absurd (by omega) ac
    ·rw[if_pos hr]at I;exact λ_ _ M3 U=>I _ _ (by omega) (Ft J) (Nf (cs:=[_,_,_,_,_,_,_,_,_]) (O.mono (oC _) (by omega)))
    ·rw[if_neg (by rw[hr];decide)]at I;exact λ_ _ M3 U=>I _ _ (by omega) (Ft J) (Nf (cs:=[_,_,_,_,_,_,_,_,_]) (O.mono (oC _) (by omega)))
  | succ m ih=>
    intro n k n0 nm ot ty re l y4 y5 y6 y7 r q N' az hn hx hH hA hO I;have a6:=hA.len;have a7:=hx.g.2.2.1;have a8:=hx.s;rw[rE]at I;refine rY ⟨⟨rfl,rfl⟩,⟨rfl,rfl⟩,λa2 N5 Y ab N6 ai=>?_⟩;have hf:=ab.mono ah (oC _);have J:(Tm.mk k nm ot n0 ty re l).Is (.ag [.j k,.t nm,.t ot,.j n0,y4,y5,y6,y7,.sl a2 9 r q]):=Tm.is_mk.2 ⟨_,_,_,_,_,_,_,rfl,hH,by omega,hA⟩;have O:=uW (v0:=.int .i64 k) (v1:=.string nm) (v2:=.string ot) (v3:=.int .i64 n0) (c:=q) hO hf Y;refine HY _ _ J (by omega) N6 _ λN7 aj _=>Br.dec (λh4 N8 aa=>?_) λh4 N8 aa=>?_
    ·rw[if_pos (by omega)]at I;exact λ_ _ M3 U=>I _ _ (by omega) TG JD
    rw[if_neg (by omega)]at I;have hF:=hx.F (by omega);refine vX J hF.ok hF.g hF.dp N8 _ λN9 ba _=>Br.of (λhr bb ak=>?_) λhr=>Br.beq (λac=>absurd ac (by omega)) λ_ al ao=>?_
    ·rw[if_pos hr]at I;exact λ_ _ M3 U=>I _ _ (by omega) (Ft J) (Nf (cs:=[_,_,_,_,_,_,_,_,_]) (O.mono (oC _) (by omega)))
    ·rw[if_neg (by rw[hr];decide)]at I;simp only at I;refine HZ _ _ _ J hF al _ λdy ce bw hy _ _=>Br.beq (λh0 aq au=>?_) λh0 aq au=>EA aq _ _ λcf bz _ bc b3=>?_
     ·rw[if_pos h0]at I;exact λ_ _ M3 U=>I _ _ (by omega) (Ft J) (Nf (cs:=[_,_,_,_,_,_,_,_,_]) (O.mono (oC _) (by omega)))
     ·rw[if_neg h0]at I;have ae:=hx.step (by omega);refine qF _ _ hy ae.g bc _ ?_;generalize ((Tm.mk k nm ot n0 ty re l).stp (Tm.mk k nm ot n0 ty re l).dp).1=z at hy ae I;cases z with
      | mk k2 bd bg n2 bh bi l2=>
      intro z4 z5 z6 z7 bj c2 bm b7 bn aw bp _ _;rw[i64_in _ (by omega)]
      have:=ih (n+1) k2 n2 bd bg bh bi l2 z4 z5 z6 z7 bj c2 bm (by omega) (by omega) ae bn aw (bp.mono (by omega) (oC _)) I
      simpa using this
 cases e with
 | mk k nm ot n0 ty re l=>
 intro x4 x5 x6 x7 bq c' N8 aa bt ax bv _ _;exact rest F 0 k n0 nm ot ty re l x4 x5 x6 x7 bq c' N8 (by omega) (by omega) hR bt ax (bv.mono (by omega) (oC _)) hQ
end Go.Proofs.YtlaniepnglheoaaGreatDoor
set_option maxRecDepth 100000
namespace Go.Proofs.YtlaniepnglheoaaGreatDoor
open Go Go.Proofs Go.Proofs.Tryz Go.IntWalk
theorem K2:∀(m n:Nat)(x:Tm),Rch x->(Ll m n x).1.1=1->(Ll m n x).1.2.1.ok=true/\(Ll m n x).1.2.1.sz<=400
 | 0,n,x,O,h=>by
   rw[rE]at h ⊢;by_cases I:x.sz>400
   ·rw[if_pos I]at h;exact absurd h (by show ¬((3:Int)=1);decide)
   rw[if_neg I]at h ⊢;by_cases J:x.res=true
   ·rw[if_pos J];exact⟨O.o (by omega),by show x.sz<=400;omega⟩
   ·rw[if_neg J]at h;exact absurd h (by show ¬((2:Int)=1);decide)
 | m+1,n,x,O,h=>by
   rw[rE]at h ⊢;by_cases I:x.sz>400
   ·rw[if_pos I]at h;exact absurd h (by show ¬((3:Int)=1);decide)
   rw[if_neg I]at h ⊢;by_cases J:x.res=true
   ·rw[if_pos J];exact⟨O.o (by omega),by show x.sz<=400;omega⟩
   rw[if_neg J]at h ⊢;dsimp only at h ⊢;by_cases U:(x.stp x.dp).2=0
   ·rw[if_pos U]at h;exact absurd h (by show ¬((4:Int)=1);decide)
   ·rw[if_neg U]at h ⊢;exact K2 m (n+1) _ (O.step (by omega)) h
theorem TJ {e:Tm}(hc:e.cnt<=4000000){fu:Int}(h:(xA e fu).1=1):(xA e fu).2.1.ok=true/\(xA e fu).2.1.sz<=400:=by
 unfold xA at h ⊢;by_cases I:(uG e 0&&inB fu 0 200)=true
 ·rw[if_pos I]at h ⊢;have J:uG e 0=true:=by rw[oK]at I;exact I.1
  have O:e.ok=true:=by unfold uG at J;simp at J;exact J.1
  exact K2 _ _ _ (Rch.of O hc) h
 ·rw[if_neg I]at h;exact absurd h (by show ¬((0:Int)=1);decide)
theorem Me (e:Tm)(fu:Int)(J:0<=fu):((xA e fu).2.2:Int)<=fu:=by
 unfold xA;by_cases I:(uG e 0&&inB fu 0 200)=true
 ·rw[if_pos I]
  have:=(RR fu.toNat 0 e).2
  omega
 ·rw[if_neg I];exact J
theorem H7:∀(m n:Nat)(x:Tm),Rch x->(Ll m n x).1.2.1.cnt<=24400
 | 0,n,x,O=>by
   rw[rE];by_cases I:x.sz>400
   ·rw[if_pos I];show tm0.cnt<=24400;decide
   have:=Qm x (O.o (by omega))
   rw[if_neg I];by_cases J:x.res=true
   ·rw[if_pos J];show x.cnt<=24400;omega
   ·rw[if_neg J];show x.cnt<=24400;omega
 | m+1,n,x,O=>by
   rw[rE];by_cases I:x.sz>400
   ·rw[if_pos I];show tm0.cnt<=24400;decide
   have:=Qm x (O.o (by omega))
   rw[if_neg I];by_cases J:x.res=true
   ·rw[if_pos J];show x.cnt<=24400;omega
   rw[if_neg J];dsimp only;by_cases U:(x.stp x.dp).2=0
   ·rw[if_pos U];show x.cnt<=24400;omega
   ·rw[if_neg U];exact H7 m (n+1) _ (O.step (by omega))
theorem K4 {e:Tm}(hc:e.cnt<=4000000)(fu:Int):(xA e fu).2.1.cnt<=24400:=by
 unfold xA;by_cases I:(uG e 0&&inB fu 0 200)=true
 ·rw[if_pos I];have J:uG e 0=true:=by rw[oK]at I;exact I.1
  have O:e.ok=true:=by unfold uG at J;simp at J;exact J.1
  exact H7 _ _ _ (Rch.of O hc)
 ·rw[if_neg I];show tm0.cnt<=24400;decide
end Go.Proofs.YtlaniepnglheoaaGreatDoor
