/- A step of a term is a term, if it is small (no program in sight). -/
import Derived.Test.YtlaniepnglheoaaGreatB6
import Derived.Test.YtlaniepnglheoaaGreatB2
import Derived.Test.YtlaniepnglheoaaGreatKa
import Derived.Test.YtlaniepnglheoaaGreatKf
import Derived.Test.YtlaniepnglheoaaGreatA9
import Derived.Test.YtlaniepnglheoaaGreatA5
set_option linter.unusedVariables false
set_option linter.unusedSimpArgs false
namespace Go.Proofs.YtlaniepnglheoaaGreat
open Go Go.Proofs Go.Proofs.Tryz Go.IntWalk
variable {a b e v x y:Tm} {d:D} {f i j:Nat} {k m n n0:Int} {l:List Tm} {nm ot:ByteArray} {r:Rho} {re t ty u:Ty}
theorem Tm.dp_mem (h:y∈l):y.dp+1<=(Tm.mk k nm ot n ty re l).dp:=by
 have:=uZ.1 (oD (ut l)) y h
 simp only[Tm.dp];omega
theorem Tm.sz_mem (h:y∈l):y.sz+1<=(Tm.mk k nm ot n ty re l).sz:=by
 have:=uQ h
 simp only[Tm.sz];omega
theorem UO (J:e.ok=true)(hx:x.ok=true):(e.wth i x).ok=true:=by
 cases e with
 | mk k nm ot n ty re l=>
 obtain⟨O,U,Y⟩:=Tm.ok_mk.1 J;refine Tm.ok_mk.2 ⟨λy I=>?_,U,by simpa using Y⟩;rcases nA I with I | rfl
 ·exact O y I
 ·exact hx
theorem UP (h:i<l.length):x.sz+1<=((Tm.mk k nm ot n ty re l).wth i x).sz:=by simp only[Tm.wth];exact Tm.sz_mem (oA (nV h))
theorem Xt (I:e.ok=true)(hi:i<e.as.length):(e.pt i).ok=true:=by
 cases e with
 | mk k nm ot n ty re l=>exact(Tm.ok_mk.1 I).1 _ (zk hi)
theorem Xg (h:(k=2/\0<=n/\n<=10006)\/(k=3/\0<=n/\n<=1)):(RF k n).ok=true:=by
 have I:(Ty.mk 0 []).valid=false:=by decide +kernel
 rcases h with⟨rfl,h⟩ | ⟨rfl,h⟩
 ·refine Tm.ok_mk.2 ⟨by simp,?_,rfl⟩;simp[zK,rp,I,Ty.zero,Ty.k,Ty.as,inB,xV,h]
 ·refine Tm.ok_mk.2 ⟨by simp,?_,rfl⟩;simp[zK,rp,I,Ty.zero,Ty.k,Ty.as,inB,xV,h]
theorem ZU (h:x.ok=true):(Tm.nod 10 [x]).ok=true:=by
 have I:(Ty.mk 0 []).valid=false:=by decide +kernel
 refine Tm.ok_mk.2 ⟨by simpa using h,?_,rfl⟩;simp[zK,rp,I,Ty.zero,Ty.k,Ty.as,inB,xV]
theorem V0 {x:ByteArray}(I:e.ok=true)(J:b.ok=true)(h:(e.sb x b).sz<=400):(e.sb x b).ok=true:=Wq _ e x b (oD _) I J h
theorem Ym (J:e.ok=true)(hs:e.apl.1.sz<=400):e.apl.1.ok=true:=by
 cases e with
 | mk k nm ot n ty re l=>
 obtain⟨h1,h2,h3⟩:=Tm.ok_mk.1 J;obtain⟨a1,a2,a3,a4,a5⟩:=rA J;have g:∀ i,i<l.length->(l.getD i tm0).ok=true:=λi hi=>h1 _ (zk hi);simp only[Tm.apl]at hs ⊢;split
 ·rename_i hk;unfold Tm.opr;split
  ·refine Xg ?_;simp only[Tm.nm];have U:=Iv nm (l.getD 0 tm0).no (l.getD 1 tm0).no;unfold Az;by_cases O:Km nm=true
   ·rw[if_pos O];exact .inl ⟨rfl,U.1,U.2⟩
   ·rw[if_neg O];simp only[Km,nB,oq,not_or]at O
    have:=Ef O.1 O.2.1 O.2.2 (l.getD 0 tm0).no (l.getD 1 tm0).no
    exact .inr ⟨rfl,this.1,this.2⟩
  ·exact J
 ·rename_i aa;rw[if_neg aa]at hs;split
  ·rename_i hk;split
   ·rename_i hb
    have:=TH (g 0 (by have:=a3 hk;omega)) hb
    refine g _ ?_
    have:=a3 hk
    omega
   ·exact J
  ·rename_i ab;rw[if_neg ab]at hs;split
   ·rename_i hk;rw[if_pos hk]at hs;have hl:=a2 (.inl hk);have I:=g 0 (by omega);have q1:=g 1 (by omega);generalize l.getD 0 tm0=p at hs I ⊢;generalize l.getD 1 tm0=q at hs q1 ⊢;have hp:(p.kd=6\/p.kd=9)->(p.pt 0).ok=true:=λh=>by
     refine Xt I ?_;cases p with
     | mk pk pn po pm pt pr pl=>
     have:=(rA I).1 (by simp only[Tm.kd]at h;omega)
     simp only[Tm.as];omega
    split
    ·rename_i h6;rw[if_pos h6]at hs;exact V0 (hp (.inl h6)) q1 hs
    ·rename_i h6;rw[if_neg h6]at hs;split
     ·rename_i h9;rw[if_pos h9]at hs;have hV:=X7 (p.pt 0).dp (p.pt 0) p.nm p (YO _ (hp (.inr h9))) (YO _ I);have ac:=Jd ((p.pt 0).sb p.nm p).dp ((p.pt 0).sb p.nm p) p.ot q hV;exact V0 (V0 (hp (.inr h9)) I (oP ac hs)) q1 hs
     ·exact J
   ·rename_i ae;rw[if_neg ae]at hs;split
    ·rename_i hk;rw[if_pos hk]at hs;have hl:=a2 (.inr hk);exact V0 (g 1 (by omega)) (g 0 (by omega)) hs
    ·rename_i ah;split
     ·rename_i hk;split
      ·rename_i Y;have I:=g 0 (by have:=a1 (by omega);omega);refine Xt I ?_;generalize l.getD 0 tm0=p at I Y ⊢;cases p with
       | mk pk pn po pm pt pr pl=>
       have:=(rA I).1 (by simp only[Tm.kd]at Y;omega)
       simp only[Tm.as];omega
      ·exact J
     ·split
      ·rename_i hk;split
       ·exact ZU (g 0 (by have:=a1 (by omega);omega))
       ·exact J
      ·exact J
theorem Yx {S:Tm->Tm × Int}(hS:∀ x:Tm,x.dp<=f->x.ok=true->(S x).1.sz<=400->(S x).1.ok=true):∀(t:Tm)(m:Int),t.dp<=f+1->t.ok=true->(t.cod S m).1.sz<=400->(t.cod S m).1.ok=true:=by
 refine Tm.ind λk nm ot n ty re l ih m hd I hs=>?_;obtain⟨J,U,h3⟩:=Tm.ok_mk.1 I;simp only[Tm.cod]at hs ⊢;split
 ·rename_i hk;rw[if_pos hk]at hs;have hl:=(rA I).1 (by omega);unfold YT at hs ⊢;have O:((Tm.mk k nm ot n ty re l).pt 0).ok=true:=J _ (zk (by omega));have d0:((Tm.mk k nm ot n ty re l).pt 0).dp<=f:=by
   have:=Tm.dp_mem (k:=k) (nm:=nm) (ot:=ot) (n:=n) (ty:=ty) (re:=re) (zk (l:=l) (i:=0) (by omega))
   simp only[Tm.pt];omega
  generalize hp:(Tm.mk k nm ot n ty re l).pt 0=p at hs O d0 ⊢;split
  ·split
   ·rename_i Y;refine Xt O ?_;cases p with
    | mk pk pn po pm pt pr pl=>
    have:=(rA O).1 (by simp only[Tm.kd]at Y;omega)
    simp only[Tm.as];omega
   ·exact I
  ·rename_i hr;rw[if_neg hr]at hs
   have:=UP (k:=k) (nm:=nm) (ot:=ot) (n:=n) (ty:=ty) (re:=re) (l:=l) (i:=0) (x:=(S p).1) (by omega)
   exact UO I (hS p d0 O (by simp only at hs;omega))
 ·rename_i hk;rw[if_neg hk]at hs
  have key:∀(xs:List Tm),(∀ x∈xs,x∈l)->∀ l' r,ym S xs (zP k m)=some (l',r)->yI l'<=400->l'.length=xs.length/\∀ x∈l',x.ok=true:=by
   intro xs
   induction xs with
   | nil=>intro _ l' r h;simp[ym]at h
   | cons x xs aa=>
     intro hm l' r h hs;have hx:=hm x (by simp);simp only[ym]at h;split at h
     ·cases h;simp only[yI]at hs;refine⟨by simp,λy hy=>?_⟩;rcases oH.1 hy with rfl | hy
      ·have ab:=Tm.dp_mem (k:=k) (nm:=nm) (ot:=ot) (n:=n) (ty:=ty) (re:=re) hx;exact ih x hx _ (by omega) (J x hx) (by omega)
      ·exact J y (hm y (by simp[hy]))
     ·split at h
      ·cases h
      ·rename_i l2 r2 U;cases h;simp only[yI]at hs;obtain⟨b1,b2⟩:=aa (λy hy=>hm y (by simp[hy])) _ _ U (by omega);refine⟨by simp[b1],λy hy=>?_⟩;rcases oH.1 hy with rfl | hy
       ·exact J y hx
       ·exact b2 y hy
  cases hc:ym S l (zP k m)with
  | none=>exact I
  | some p=>obtain⟨l',r⟩:=p;rw[hc]at hs;simp only[Tm.sz]at hs;obtain⟨b1,b2⟩:=key l (λx hx=>hx) l' r hc (by omega);exact Tm.ok_mk.2 ⟨b2,U,by rw[b1];exact h3⟩
theorem O6:∀(f:Nat) (e:Tm),e.dp<=f->e.ok=true->(e.stp f).1.sz<=400->(e.stp f).1.ok=true
 | 0,e,h,_,_=>absurd (Tm.dp_pos e) (by omega)
 | f + 1,.mk k nm ot n ty re l,hd,I,hs=>by
   have ih:=O6 f;obtain⟨h1,h2,h3⟩:=Tm.ok_mk.1 I;simp only[Tm.stp]at hs ⊢;split
   ·exact I
   ·rename_i hr;rw[if_neg hr]at hs;split
    ·rename_i hk;rw[if_pos hk]at hs;have hk:k=10:=hk;have hl:=(rA I).1 (by omega);have J:=zk (l:=l) (i:=0) (by omega);have Y:=Tm.dp_mem (k:=k) (nm:=nm) (ot:=ot) (n:=n) (ty:=ty) (re:=re) J
     have:=UP (k:=k) (nm:=nm) (ot:=ot) (n:=n) (ty:=ty) (re:=re) (l:=l) (i:=0) (x:=(Tm.cod (Tm.stp f) ((Tm.mk k nm ot n ty re l).pt 0) 1).1) (by omega)
     exact UO I (Yx ih _ 1 (by simp only[Tm.pt];omega) (h1 _ J) (by simp only at hs;omega))
    ·rename_i hk;rw[if_neg hk]at hs;cases hg:goS (Tm.stp f) (Tm.mk k nm ot n ty re l) (l.take (AP k l.length)) 0 with
     | none=>rw[hg]at hs;exact Ym I hs
     | some r=>
       rw[hg]at hs;obtain⟨j,x,U,g2,rfl⟩:=Ah hg;have O:l[j]?=some x:=by
        rw[od]at U;split at U
        ·exact U
        ·cases U
       have J:=oA O;have Y:=Tm.dp_mem (k:=k) (nm:=nm) (ot:=ot) (n:=n) (ty:=ty) (re:=re) J;simp only[nT]at hs ⊢
       have:=UP (k:=k) (nm:=nm) (ot:=ot) (n:=n) (ty:=ty) (re:=re) (l:=l) (i:=j) (x:=(Tm.stp f x).1) (oC.1 O).1
       exact UO I (ih x (by omega) (h1 x J) (by omega))
theorem HR {g:Tm->Tm}{m:Nat}:∀ {l:List Tm},(∀ t∈l,(g t).sz<=t.sz*m)->yI (l.map g)<=yI l*m
 | [],_=>by simp[yI]
 | t::l,h=>by have I:=HR (l:=l) λx hx=>h x (by simp[hx]);have J:=h t (by simp);simp only[oZ,yI,nG];omega
theorem EK {g:Tm->Tm}{m:Nat}{v:Tm}:∀ {l:List Tm}{j:Nat},(∀ t∈l,(g t).sz<=t.sz*m)->(∀ t,l[j]?=some t->v.sz<=t.sz*m)->yI ((l.map g).set j v)<=yI l*m
 | [],_,_,_=>by simp[yI]
 | t::l,0,h,hv=>by have I:=HR (l:=l) λx hx=>h x (by simp[hx]);have J:=hv t rfl;simp only[oZ,mY,yI,nG];omega
 | t::l,j+1,h,hv=>by have I:=EK (l:=l) (j:=j) (v:=v) (λx hx=>h x (by simp[hx])) λx hx=>hv x (by simpa using hx);have J:=h t (by simp);simp only[oZ,mm,yI,nG];omega
theorem T9:∀(f:Nat)(t:Tm)(x:ByteArray)(b:Tm),(t.sub f x b).sz<=t.sz*(b.sz+1)
 | 0,t,x,b=>by simp only[Tm.sub];exact lR _ (by omega)
 | f + 1,.mk k nm ot n ty re l,x,b=>by
   have J:=T9 f;have one:∀ m:Nat,m<=yI l*(b.sz+1)->1+m<=(1+yI l)*(b.sz+1):=λm h=>by rw[nG];omega
   simp only[Tm.sub];split
   ·split
    ·simp only[Tm.sz];rw[nG];omega
    ·exact lR _ (by omega)
   ·split
    ·simp only[Tm.sz];exact one _ (HR λt _=>J t x b)
    ·rename_i O;obtain⟨U,Y⟩:=w7 O;split
     ·simp only[Tm.sz];refine one _ (EK (λt _=>J t x b) λt I=>?_);rw[yC U]at I;rw[<-oU I];exact lR _ (by omega)
     ·simp only[Tm.sz];refine one _ (EK (λt _=>J t x b) λt I=>?_);rw[yC U]at I;rw[<-oU I];exact oP (J _ x b) (oc _ (AO (uA f) _ _ _ _ _ _).s)
theorem DF {x:Tm}:∀ {l:List Tm}{i:Nat},i<l.length->yI (l.set i x)+(l.getD i tm0).sz=yI l+x.sz
 | t::l,0,_=>by simp only[mY,yI,nk];omega
 | t::l,i+1,h=>by
   have:=DF (x:=x) (l:=l) (i:=i) (by simpa using h)
   simp only[mm,yI,mV];omega
theorem RO:(e.pt i).sz<=e.sz:=by
 cases e with
 | mk k nm ot n ty re l=>
 simp only[Tm.pt];by_cases h:i<l.length
 ·have:=Tm.sz_mem (k:=k) (nm:=nm) (ot:=ot) (n:=n) (ty:=ty) (re:=re) (zk h);omega
 ·rw[oB,oY (by omega)];simp only[Option.getD_none,tm0,Tm.sz,yI];omega
theorem Yn (e:Tm)(h:e.sz<=400):e.apl.1.sz<=e.sz+64481600:=by
 have I:∀(t b:Tm) (x:ByteArray) (m:Nat),t.sz<=m->b.sz<=400->(t.sb x b).sz<=m*401:=λt b x m Y h2=>oP (T9 _ t x b) (Nat.mul_le_mul Y (by omega));cases e with
 | mk k nm ot n ty re l=>
 have g:∀ i,(l.getD i tm0).sz<=400:=λi=>oP (RO (e:=.mk k nm ot n ty re l)) h;have gp:∀ i j,((l.getD i tm0).pt j).sz<=400:=λi j=>oP RO (g i);have U:=g 0;have O:=g 1;have J:=gp 0 0;simp only[Tm.apl,Tm.opr];have k1:=I ((l.getD 0 tm0).pt 0) (l.getD 1 tm0) (l.getD 0 tm0).nm 400 J O;have k2:=I ((l.getD 0 tm0).pt 0) (l.getD 0 tm0) (l.getD 0 tm0).nm 400 J U;have k3:=I _ (l.getD 1 tm0) (l.getD 0 tm0).ot _ k2 O;have k4:=I (l.getD 1 tm0) (l.getD 0 tm0) nm 400 O U;have k5:=g (2 - (l.getD 0 tm0).no).toNat
 (repeat' split)<;>first | (simp only;omega) | (simp only[RF,Tm.nod,Tm.sz,yI];omega)
theorem Yy {S:Tm->Tm × Int}(U:∀ x:Tm,x.sz<=400->(S x).1.sz<=x.sz+64481600):∀(t:Tm)(m:Int),t.sz<=400->(t.cod S m).1.sz<=t.sz+64481600:=by
 refine Tm.ind λk nm ot n ty re l Y m hs=>?_;simp only[Tm.cod];split
 ·unfold YT;split
  ·split
   ·have h1:=RO (e:=(Tm.mk k nm ot n ty re l).pt 0) (i:=0);have I:=RO (e:=Tm.mk k nm ot n ty re l) (i:=0);simp only;omega
   ·simp only;omega
  ·have I:=RO (e:=Tm.mk k nm ot n ty re l) (i:=0);have h3:=U _ (oP I hs);simp only[Tm.wth,Tm.pt]at h3 ⊢;by_cases h:0<l.length
   ·have:=DF (x:=(S (l.getD 0 tm0)).1) h
    simp only[Tm.sz]at hs ⊢;omega
   ·rw[lN (by omega)];omega
 ·have key:∀(xs:List Tm),(∀ x∈xs,x∈l)->∀ l' r,ym S xs (zP k m)=some (l',r)->yI l'<=yI xs+64481600:=by
   intro xs
   induction xs with
   | nil=>intro _ l' r h;simp[ym]at h
   | cons x xs J=>
     intro O l' r h;have hx:=O x (by simp);simp only[ym]at h;split at h
     ·cases h
      have:=Y x hx (zP k m) (by have:=Tm.sz_mem (k:=k) (nm:=nm) (ot:=ot) (n:=n) (ty:=ty) (re:=re) hx;omega)
      simp only[yI];omega
     ·split at h
      ·cases h
      ·rename_i l2 r2 I;cases h
       have:=J (λy hy=>O y (by simp[hy])) _ _ I
       simp only[yI];omega
  cases hc:ym S l (zP k m)with
  | none=>simp only;omega
  | some p=>
    obtain⟨l',r⟩:=p
    have:=key l (λx hx=>hx) l' r hc
    simp only[Tm.sz];omega
theorem Wo:∀(f:Nat) (e:Tm),e.sz<=400->(e.stp f).1.sz<=e.sz+64481600
 | 0,e,_=>by simp only[Tm.stp];omega
 | f + 1,.mk k nm ot n ty re l,hs=>by
   have O:=Wo f;simp only[Tm.stp];split
   ·simp only;omega
   ·by_cases hk:(Tm.mk k nm ot n ty re l).kd=10
    ·rw[if_pos hk];have Y:=RO (e:=Tm.mk k nm ot n ty re l) (i:=0);have U:=Yy O ((Tm.mk k nm ot n ty re l).pt 0) 1 (oP Y hs);simp only[Tm.wth,Tm.pt]at U ⊢;by_cases h:0<l.length
     ·have:=DF (x:=((l.getD 0 tm0).cod (Tm.stp f) 1).1) h
      simp only[Tm.sz]at hs ⊢;omega
     ·rw[lN (by omega)];omega
    ·rw [if_neg hk];cases hg:goS (Tm.stp f) (Tm.mk k nm ot n ty re l) (l.take (AP k l.length)) 0 with
     | none=>exact Yn _ hs
     | some r=>
       obtain⟨j,x,J,g2,rfl⟩:=Ah hg;have I:l[j]?=some x:=by
        rw[od]at J;split at J
        ·exact J
        ·cases J
       have hj:=(oC.1 I).1;have U:=O x (by have:=Tm.sz_mem (k:=k) (nm:=nm) (ot:=ot) (n:=n) (ty:=ty) (re:=re) (oA I);omega);have h4:=DF (x:=(Tm.stp f x).1) hj;have h5:l.getD j tm0=x:=by rw[oB,I];rfl
       rw[h5]at h4;simp only[nT,Tm.wth,Tm.sz]at hs ⊢;omega
def Ox:Nat->Nat->Tm->(Int × Tm × Nat) × List Int
 | 0,n,x=>if x.sz>400 then((3,tm0,n),[])else if x.res then((1,x,n),[])else((2,x,n),[])
 | m+1,n,x=>if x.sz>400 then((3,tm0,n),[])else if x.res then((1,x,n),[])else if(x.stp x.dp).2=0 then((4,x,n),[])
   else((Ox m (n+1) (x.stp x.dp).1).1,(x.stp x.dp).2::(Ox m (n+1) (x.stp x.dp).1).2)
def wa (e:Tm)(I:Int):Int × Tm × Nat:=if(s9 e 0&&inB I 0 200)=true then(Ox I.toNat 0 e).1 else(0,tm0,0)
theorem zBL {x:ByteArray}{g:Nat}(I:e.F f)(J:b.F g):(e.sb x b).Z:=by have O:=Wr e.dp e x b (oD _) (zAk _ I.ok);have U:=I.w;have Y:=J.w;have h4:=b.fv_wd;exact⟨X6 _ _ _ _ I.g J.g,by unfold Tm.sb;omega,X7 _ _ _ _ I.z.v J.z.v⟩
theorem Fs {I:D}(J:e.Is d)(O:b.Is I)(x:ByteArray)(U:e.Z)(Y:b.Z):Yi 180 [.dg 9 d,.str x,.dg 9 I] (e.sb x b):=I1 e.dp e d x b I J O (oD _) U Y
def Wm (f:Nat):Tm->Nat->Tm × Int
 | .mk k nm ot n ty re l,m=>match goS (Tm.stp f) (.mk k nm ot n ty re l) (l.take m) 0 with
   | some r=>r
   | none=>(Tm.mk k nm ot n ty re l).apl
theorem Un (hS:YI 78 f)(hd:(Tm.mk 7 nm ot n0 ty re l).Is d)(hF:(Tm.mk 7 nm ot n0 ty re l).F (f+1)):
  Rl 126 [.dg 9 d] (Wm f (Tm.mk 7 nm ot n0 ty re l) l.length):=λN Q hQ=>by
 have ah:=hd;obtain⟨t0,t1,r0,r1,a,es,c,rfl,hh,ai,U⟩:=Tm.is_mk.1 hd;have hl:=U.len;have a3:=(rA hF.ok).2.1 (.inl rfl);simp only[Wm,lA]at hQ;have e2:(es.length:Int)=2:=by omega
 refine LW N _ Q λ_=>⟨_,_,_,rfl,⟨by omega,by omega⟩,?_⟩
 refine up U ai (λi xs=>∀ N',N<=N'->(∀ r:Tm × Int,(match goS (Tm.stp f) (Tm.mk 7 nm ot n0 ty re l) xs i with | some r=>r | none=>(Tm.mk 7 nm ot n0 ty re l).apl)=r->∀ d N'',N<=N''->r.1.Is d->Q d r.2 N'') ->
  vW Q N i (.ag [.j 7,.t nm,.t ot,.j n0,t0,t1,r0,r1,.sl a 9 es c]) 0 (bytes []) (bytes []) 0 0 none [] 0 0 none [] 0 none [] 0 (List.getD es 0 default) N') ?_ ?_ N (oD _) (λr hr d N'' h1 h2=>by rw[<-hr];rw[<-hr]at h2;exact hQ d N'' h1 h2)
 ·intro i Y hi N' al hr;have hr:=hr _ rfl;simp only[goS,Tm.apl]at hr;rw[if_neg (by decide),if_neg (by decide),if_pos trivial]at hr;refine pq ?_;rw[<-e2,Y];have aa:=u9 U (j:=0) (by omega);have ab:=u9 U (j:=1) (by omega);have J:=hF.mem _ (zk (l:=l) (i:=0) (by omega));have ac:=hF.mem _ (zk (l:=l) (i:=1) (by omega));generalize l.getD 0 tm0=p at aa J hr;generalize l.getD 1 tm0=q at ab ac hr;have aj:=aa;cases p with
  | mk pk pn po pm pt pr pl=>
  obtain⟨u0,u1,v0,v1,a2,a4,c2,heq,a5,am,O⟩:=Tm.is_mk.1 aa;have a6:=O.len;rw[heq]at aj ⊢;have one:(pk=6\/pk=9)->pl.length=1:=λh=>(rA J.ok).1 (by omega);have ae:pl.length=1->(pl.getD 0 tm0).F f:=λh=>((J.up (g:=f+1) (by omega)).mem _ (zk (l:=pl) (i:=0) (by omega)))
  refine⟨_,rfl,Br.beq (λh6=>?_) λh6=>Br.beq (λh9=>?_) λh9 a7 aw=>?_⟩
  ·have h1:=one (.inl h6);rw[if_pos (show(Tm.mk pk pn po pm pt pr pl).kd=6 from h6)]at hr;refine⟨_,_,_,rfl,⟨by omega,by omega⟩,_,rfl,_,_,_,rfl,⟨by omega,by omega⟩,λN6 a8=>?_⟩;exact Fs (u9 O (j:=0) (by omega)) ab pn (ae h1).z ac.z N6 _ λdx N7 a9 hx _ _ _ N8 ba=>hr _ _ (by omega) hx
  ·have h1:=one (.inr h9);rw[if_neg (show ¬(Tm.mk pk pn po pm pt pr pl).kd=6 from h6),if_pos (show(Tm.mk pk pn po pm pt pr pl).kd=9 from h9)]at hr;refine⟨_,_,_,rfl,⟨by omega,by omega⟩,_,rfl,_,rfl,_,_,_,rfl,⟨by omega,by omega⟩,λN9 bb=>?_⟩;refine Fs (u9 O (j:=0) (by omega)) aj pn (ae h1).z J.z N9 _ λdx bc ax hx _ _ _ ao ay=>?_;exact Fs hx ab po (zBL (ae h1) J) ac.z ao _ λdy bg az hy _ _ _ bh a0=>hr _ _ (by omega) hy
  ·rw[if_neg (show ¬(Tm.mk pk pn po pm pt pr pl).kd=6 from h6),if_neg (show ¬(Tm.mk pk pn po pm pt pr pl).kd=9 from h9)]at hr;exact hr _ _ (by omega) ah
 ·intro i x xs I bi aq N' al hr;have hb:=I.b;have au:i<l.length:=(oC.1 I.g).1;obtain rfl:l.getD i tm0=x:=by rw[oB,I.g];rfl
  have ak:=hF.mem _ I.m;have Y:=I.lt;rw[e2]at Y;refine pq ?_;rw[Y,oI,I.w];refine⟨_,_,_,rfl,⟨by omega,by omega⟩,λN1 bj=>zi I.r ak.ok ak.dp N1 _ λN2 bm _=>Br.not (λhv N3 bp=>?_) λhv=>?_⟩
  ·have hr:=hr _ rfl;simp only[goS]at hr;rw[if_neg (by rw[hv];decide)]at hr;exact KF hS ah hF au N3 _ λdx N4 bq hx _ _ N5 bt=>hr _ _ (by omega) hx
  ·rw[Kc hv]at hr;exact aq _ (by omega) hr
theorem V4 (h:0<l.length):l.take 1=[l.getD 0 tm0]:=by
 cases l with
 | nil=>simp at h
 | cons x xs=>rfl
theorem TB (h:(Tm.mk k nm ot n ty re l).ok=true)(hk:k=2\/k=3):(Tm.mk k nm ot n ty re l).cnt<=1073741824:=by
 have nd:=zT h;have U:=(rA h).2.2.2.1 (.inr hk);have:l=[]:=oL U;subst this;have O:∀ t:Ty,t.zero=true->t.cnt<=30:=λt J=>by
  cases t with
  | mk k l=>
  simp only[Ty.zero,Ty.k,Ty.as,oE,nF]at J;have:l=[]:=oL (by omega);subst this;simp[Ty.cnt,zN]
 have v1:∀ t:Ty,t.valid=true->t.cnt<=30:=λt J=>Ty.valid_cnt J;have I:=nd.f;simp only[zK,oE,nF,nB]at I;have Y:ty.cnt<=30:=by
  rcases I.2.1 with h | h
  ·exact v1 _ (by rw[<-I.1,h])
  ·exact O _ h
 have aa:re.cnt<=30:=by
  rcases I.2.2.2.1 with h | h
  ·exact v1 _ (by rw[<-I.2.2.1];simpa using h)
  ·exact O _ h
 simp only[Tm.cnt,zG];omega
theorem SF (k:Int){p:Tm}(h:p.Is d)(hc:p.cnt<=1073741824)(a:Option Addr)(N:Nat)(Q:QT [.ag 9])(I:∀ d' N',N<=N'->(Tm.nod k [p]).Is d'->Own N N' d'->Q d' N'):
 ACalls prog 28 [.ag 9] [.j k,.sv a 9 [d] 1] N Q:=uW k (l:=[p]) (es:=[d]) ⟨d,[],rfl,h,rfl⟩ (by simp) (by simpa using hc) a 1 N Q I
theorem Fq (hS:YI 78 f)(hk:k=5\/k=8\/k=12\/k=13)(hd:(Tm.mk k nm ot n0 ty re l).Is d)(hF:(Tm.mk k nm ot n0 ty re l).F (f+1)):
  Rl 129 [.dg 9 d] (Wm f (Tm.mk k nm ot n0 ty re l) 1):=λN Q I=>by
 have aa:=hd;obtain⟨t0,t1,r0,r1,a,es,c,rfl,hh,a7,ab⟩:=Tm.is_mk.1 hd;have hl:=ab.len;have ac:0<l.length:=by
  obtain⟨a1,a2,a3,_⟩:=rA hF.ok;rcases hk with h | h | h | h
  ·have:=a3 h;omega
  ·have:=a2 (.inr h);omega
  ·have:=a1 (by omega);omega
  ·have:=a1 (by omega);omega
 have ae:=u9 ab ac;have J:=hF.mem _ (zk ac);simp only[Wm]at I;rw[V4 ac]at I;simp only[goS]at I;refine LX N _ Q λ_=>⟨_,_,_,rfl,⟨by omega,by omega⟩,λN1 a9=>zi ae J.ok J.dp N1 _ λN2 ba _=>Br.not (λhv N3 bb=>?_) λhv=>?_⟩
 ·rw[if_neg (by rw[hv];decide)]at I;exact KF hS aa hF ac N3 _ λdx N4 aw hx _ _ N5 ax=>I _ _ (by omega) hx
 rw[if_pos hv]at I;simp only[Tm.apl]at I;generalize bc:l.getD 0 tm0=p at ae J hv I;have ai:=ae;have am:=λh=>TH J.ok h;cases p with
 | mk pk O U pm pt pr Y=>
 obtain⟨u0,u1,v0,v1,a2,ay,c2,heq,bg,az,ah⟩:=Tm.is_mk.1 ae;have bh:=ah.len;simp only[Tm.kd,Tm.no]at am;rw[heq]at ai ⊢;have lift:∀(N:Nat) (a:Option Addr) (N':Nat) (hN:N2<=N) (_:wm N [a]) (_:(Tm.mk pk O U pm pt pr Y).cnt<=1073741824),(∀ d N',N2<=N'->(Tm.nod 10 [Tm.mk pk O U pm pt pr Y]).Is d->Q d 8 N') ->
   ACalls prog 28 [.ag 9] [.j 10,.sv a 9 [.ag [.j pk,.t O,.t U,.j pm,u0,u1,v0,v1,.sl a2 9 ay c2]] 1] N (λx N7=>N<=N7->Off [a] x/\(Bel N7 x->∀ N8,N7<=N8->Q x 8 N8)):=λN3 a N' hN hb a0 hq=>
  SF 10 ai a0 a N3 _ λdx N4 aw hx ho _=>⟨xI hb ho,λ_ N5 ax=>hq _ _ (by omega) hx⟩
 rcases hk with rfl | rfl | rfl | rfl
 ·have bi:=(rA hF.ok).2.2.1 rfl;rw[if_neg (by decide),if_pos rfl]at I;refine⟨_,rfl,Br.beq (λ_=>⟨_,rfl,Br.beq (λh3=>?_) λh3=>?_⟩) (λh=>absurd rfl h)⟩
  ·have hn:=am h3;rw[if_pos (show(Tm.mk pk O U pm pt pr Y).kd=3 from h3)]at I;have hw:IntKind.i64.wrap (2 - pm)=2 - pm:=i64_in _ (by omega);refine⟨_,_,_,rfl,_,rfl,?_⟩;rw[hw];refine⟨⟨by omega,by omega⟩,λN6 ao=>?_⟩;refine PX r8 (u9 ab (j:=(2 - pm).toNat) (by omega)) (yb hF.z.g.2.2.2 (zk (by omega))) (N0:=N) (by omega) (λd N=>Q d 2 N) λd' N7 aq aj _=>I _ _ (by omega) aj
  ·rw[if_neg (show ¬(Tm.mk pk O U pm pt pr Y).kd=3 from h3)]at I
   repeat' first | refine⟨_,rfl,?_⟩ | refine Br.beq (λh=>absurd h (by decide)) λ_=>?_
   all_goals exact λN hN=>I _ _ (by omega) aa
 ·have bj:=(rA hF.ok).2.1 (.inr rfl);rw[if_neg (by decide),if_neg (by decide),if_neg (by decide),if_pos rfl]at I;have a4:=hF.mem _ (zk (l:=l) (i:=1) (by omega));have a5:=u9 ab (j:=1) (by omega)
  repeat' first | refine⟨_,rfl,?_⟩ | refine Br.beq (λh=>absurd h (by decide)) λ_=>?_ | refine Br.beq (λ_=>?_) (λh=>absurd rfl h)
  all_goals
   refine⟨_,_,_,rfl,⟨by omega,by omega⟩,_,rfl,λN6 ao=>?_⟩;exact Fs a5 ai nm a4.z J.z N6 _ λdx N7 aq hx _ _ _ N8 bm=>I _ _ (by omega) hx
 ·rw[if_neg (by decide),if_neg (by decide),if_neg (by decide),if_neg (by decide),if_pos rfl]at I
  repeat' first | refine⟨_,rfl,?_⟩ | refine Br.beq (λh=>absurd h (by decide)) λ_=>?_ | refine Br.beq (λ_=>?_) (λh=>absurd rfl h)
  all_goals
   refine Br.beq (λak=>?_) λak=>?_
   ·rw[if_pos (show(Tm.mk pk O U pm pt pr Y).kd=10 from ak)]at I;have h1:=(rA J.ok).1 (by omega);refine⟨_,_,_,rfl,⟨by omega,by omega⟩,λN6 ao=>?_⟩;refine PX r8 (u9 ah (j:=0) (by omega)) (yb J.z.g.2.2.2 (zk (by omega))) (N0:=N) (by omega) (λd N=>Q d 7 N) λd' N7 aq aj _=>I _ _ (by omega) aj
   ·rw[if_neg (show ¬(Tm.mk pk O U pm pt pr Y).kd=10 from ak)]at I
    repeat' first | refine⟨_,rfl,?_⟩ | refine Br.beq (λh=>absurd h (by decide)) λ_=>?_
    all_goals exact λN hN=>I _ _ (by omega) aa
 ·rw[if_neg (by decide),if_neg (by decide),if_neg (by decide),if_neg (by decide),if_neg (by decide),if_pos rfl]at I
  repeat' first | refine⟨_,rfl,?_⟩ | refine Br.beq (λh=>absurd h (by decide)) λ_=>?_ | refine Br.beq (λ_=>?_) (λh=>absurd rfl h)
  all_goals
   refine Br.beq (λh2=>⟨⟨rfl,rfl⟩,λa6 _ al au hb=>?_⟩) λh2=>⟨_,rfl,Br.beq (λh3=>⟨⟨rfl,rfl⟩,λa6 _ al au hb=>?_⟩) λh3 bp a8=>?_⟩
   ·rw[if_pos (show(Tm.mk pk O U pm pt pr Y).kd=2\/(Tm.mk pk O U pm pt pr Y).kd=3 from .inl h2)]at I;exact lift al a6 0 (by omega) hb (TB J.ok (.inl h2)) λd N' h1 h2=>I _ _ (by omega) h2
   ·rw[if_pos (show(Tm.mk pk O U pm pt pr Y).kd=2\/(Tm.mk pk O U pm pt pr Y).kd=3 from .inr h3)]at I;exact lift al a6 0 (by omega) hb (TB J.ok (.inr h3)) λd N' h1 h2=>I _ _ (by omega) h2
   ·rw[if_neg (show ¬((Tm.mk pk O U pm pt pr Y).kd=2\/(Tm.mk pk O U pm pt pr Y).kd=3)from λh=>h.elim h2 h3)]at I;exact I _ _ (by omega) aa
theorem GN:∀ f,YI 78 f
 | 0=>λe d _ U=>absurd (Tm.dp_pos e) (by have:=U.d;omega)
 | f+1=>λe d hd U N Q hQ=>by
   have ih:=GN f;cases e with
   | mk k nm ot n0 ty re l=>
   have I:=hd;obtain⟨t0,t1,r0,r1,a,es,c,rfl,hh,am,ah⟩:=Tm.is_mk.1 hd;have hl:=ah.len;simp only[Tm.stp]at hQ;refine Ie N _ Q λ_ N1 ay=>zi I U.ok U.dp N1 _ λN2 az _=>Br.of (λhv N3 a0=>?_) λhv=>⟨_,rfl,?_⟩
   ·rw[if_pos hv]at hQ;exact hQ _ _ (by omega) I
   rw[if_neg (by rw[hv];decide)]at hQ;have other:k≠10->∀ m,AP k l.length=m->∀ d N',N<=N'->(Wm f (Tm.mk k nm ot n0 ty re l) m).1.Is d->Q d (Wm f (Tm.mk k nm ot n0 ty re l) m).2 N':=λhk m hm=>by rw[if_neg (show ¬(Tm.mk k nm ot n0 ty re l).kd=10 from hk),hm]at hQ;exact hQ
   refine Br.beq (λh4 N4 Y=>?_) λh4=>Br.beq (λh7 N4 Y=>?_) λh7=>Br.beq (λO=>?_) λO=>Br.beq (λh5 N4 Y=>?_) λh5=>Br.beq (λh8 N4 Y=>?_) λh8=>Br.beq (λaa N4 Y=>?_) λaa=>Br.beq (λab N4 Y=>?_) λab N4 Y=>?_
   ·subst h4;have J:=other (by decide) l.length (by simp[AP]);simp only[Wm,lA,Tm.apl,nj]at J;exact XB ih I U rfl N4 _ λx N5 ac hx _ _ N6 ae=>J _ _ (by omega) hx
   ·subst h7;have J:=other (by decide) l.length (by simp[AP]);exact Un ih I U N4 _ λx N5 ac hx _ _ N6 ae=>J _ _ (by omega) hx
   ·rw[if_pos (by exact O)]at hQ;have a2:=(rA U.ok).1 (by omega);have ai:=zk (l:=l) (i:=0) (by omega);refine⟨_,_,_,rfl,⟨by omega,by omega⟩,λaj ao=>?_⟩;have a3:=dp_mem (k:=k) (nm:=nm) (ot:=ot) (n:=n0) (ty:=ty) (re:=re) ai;have a4:=U.dp;refine SA ih _ _ (u9 ah (j:=0) (by omega)) ((U.mem _ ai).up (by omega)) 1 (by unfold LvIn;omega) aj _ λdx a5 aq hx _ _ ak au=>?_;exact GO I U.z.g hx (i:=0) (by simp only[Tm.as];omega) ak _ λd' a6 aw al _ _ a7 ax=>hQ _ _ (by omega) al
   ·have J:=other O 1 (by simp[AP,h4,h7,h5]);exact Fq ih (.inl h5) I U N4 _ λx N5 ac hx _ _ N6 ae=>J _ _ (by omega) hx
   ·have J:=other O 1 (by simp[AP,h4,h7,h8]);exact Fq ih (.inr (.inl h8)) I U N4 _ λx N5 ac hx _ _ N6 ae=>J _ _ (by omega) hx
   ·have J:=other O 1 (by simp[AP,h4,h7,aa]);exact Fq ih (.inr (.inr (.inl aa))) I U N4 _ λx N5 ac hx _ _ N6 ae=>J _ _ (by omega) hx
   ·have J:=other O 1 (by simp[AP,h4,h7,ab]);exact Fq ih (.inr (.inr (.inr ab))) I U N4 _ λx N5 ac hx _ _ N6 ae=>J _ _ (by omega) hx
   ·have J:=other O 0 (by simp[AP,h4,h7,h5,h8,aa,ab]);simp only[Wm,my,goS,Tm.apl]at J;rw[if_neg h4,if_neg h5,if_neg h7,if_neg h8,if_neg aa,if_neg ab]at J;exact J _ _ (by omega) I
theorem UB:tm0.Is (.ag [.j 0,.t (bytes []),.t (bytes []),.j 0,.j 0,.sl none 2 [] 0,.j 0,.sl none 2 [] 0,.sl none 9 [] 0]):=
 Tm.is_mk.2 ⟨_,_,_,_,_,_,_,rfl,⟨by decide,by decide,xm _,xm _⟩,by simp,rfl⟩
def Z6 (f:FuncId)(args:List PV)(r:Tm × Bool):Prop:=∀(N:Nat) (Q:QT [.ag 9,.bool]),(∀ d N',N<=N'->r.1.Is d->Q d r.2 N')->ACalls prog f [.ag 9,.bool] args N Q
theorem Dp:∀(t:Tm)(d:D),t.Is d->t.sz<=9223372036854775807->pI 76 [.dg 9 d] t.sz:=by
 refine Tm.ind λk nm ot n0 ty re l ih d hd hc N Q hQ=>?_;obtain⟨t0,t1,r0,r1,a,es,c,rfl,hh,J,O⟩:=Tm.is_mk.1 hd;simp only[Tm.sz]at hc;refine LV N _ Q λ_=>?_;refine up O J (λi xs=>∀(m:Nat) (N':Nat),N<=N'->m+yI xs=1+yI l->vV Q N m i (.ag [.j k,.t nm,.t ot,.j n0,t0,t1,r0,r1,.sl a 9 es c]) N') ?_ ?_ 1 N (oD _) rfl
 ·intro i U _ m N' Y hm;refine pp ⟨_,_,_,rfl,?_⟩;simp only[yI]at hm;rw[U];exact λN2 aa=>Qi (hQ _ (by omega)) (by simp only[Tm.sz];omega)
 ·intro i x xs I _ ab m N' Y hm;have hb:=I.b;have ac:=uQ I.m;simp only[yI]at hm;refine pp ⟨_,_,_,rfl,?_⟩;rw[I.lt,I.w,oI];refine⟨_,_,_,rfl,⟨by omega,by omega⟩,λN1 ae=>ih x I.m _ I.r (by omega) N1 _ λN2 aa _=>?_⟩;rw[i64_in _ (by omega)]
  have:=ab (m+x.sz) N2 (by omega) (by omega)
  simpa using this
theorem TK:∀ t:Tm,t.ok=true->t.cnt<=61*t.sz:=by
 refine Tm.ind λk nm ot n ty re l ih h=>?_;obtain⟨h1,I,h3⟩:=Tm.ok_mk.1 h;have Y:∀ t:Ty,t.zero=true->t.cnt<=30:=λt J=>by
  cases t with
  | mk k l=>
  simp only[Ty.zero,Ty.k,Ty.as,oE,nF]at J;have:l=[]:=oL (by omega);subst this;simp[Ty.cnt,zN]
 have v1:∀ t:Ty,t.valid=true->t.cnt<=30:=λt J=>by simp only[Ty.valid,oE,oq]at J;exact J.1.1
 simp only[zK,oE,nF,nB]at I;have aa:ty.cnt<=30:=by
  rcases I.2.1 with h | h
  ·exact v1 _ (by rw[<-I.1,h])
  ·exact Y _ h
 have ab:re.cnt<=30:=by
  rcases I.2.2.2.1 with h | h
  ·exact v1 _ (by rw[<-I.2.2.1];simpa using h)
  ·exact Y _ h
 have key:∀ xs:List Tm,(∀ x∈xs,x∈l)->zG xs<=61*yI xs:=by
  intro xs
  induction xs with
  | nil=>intro _;exact oD _
  | cons x xs O=>intro U;have a1:=ih x (U x (by simp)) (h1 x (U x (by simp)));have a2:=O λy hy=>U y (by simp[hy]);simp only[zG,yI];omega
 have:=key l λx hx=>hx
 simp only[Tm.cnt,Tm.sz];omega
structure Rch (x:Tm):Prop where
 g:x.G
 s:x.sz<=64482000
 o:x.sz<=400->x.ok=true
theorem Rch.F (h:Rch x)(hs:x.sz<=400):x.F x.dp:=Tm.F.of (h.o hs) (oD _) (by have:=TK x (h.o hs);omega)
theorem Rch.step (h:Rch x)(hs:x.sz<=400):Rch (x.stp x.dp).1:=⟨Zh _ _ h.g,by have:=Wo x.dp x hs;omega,λI=>O6 _ x (oD _) (h.o hs) I⟩
theorem Rch.of (I:e.ok=true)(J:e.cnt<=4000000):Rch e:=⟨Tm.G_cnt e (by omega),by have:=Tm.sz_cnt e;omega,λ_=>I⟩
def YH (r:Int × Tm × Nat)(d:D):Prop:=∃ cs,d=.ag (.j r.1::(cs++[.j (r.2.2:Nat)]))/\r.2.1.Is (.ag cs)
theorem rC (m n:Nat)(x:Tm):Ox m n x=if x.sz>400 then((3,tm0,n),[])else if x.res then((1,x,n),[])else match m with
  | 0=>((2,x,n),[])
  | m+1=>if(x.stp x.dp).2=0 then((4,x,n),[])else((Ox m (n+1) (x.stp x.dp).1).1,(x.stp x.dp).2::(Ox m (n+1) (x.stp x.dp).1).2):=by
 cases m<;>rfl
theorem Ow {s:Int}{n:Nat}{I J O U Y y5 y6 y7 y8:D}(h:(Tm.mk k nm ot n0 ty re l).Is (.ag [I,J,O,U,Y,y5,y6,y7,y8])):
 YH (s,Tm.mk k nm ot n0 ty re l,n) (.ag [.j s,I,J,O,U,Y,y5,y6,y7,y8,.j (n:Nat)]):=⟨_,rfl,h⟩
theorem YS {s:Int}{n:Nat}:YH (s,tm0,n) (.ag [.j s,.j 0,.t (bytes []),.t (bytes []),.j 0,.j 0,.sl none 2 [] 0,.j 0,.sl none 2 [] 0,.sl none 9 [] 0,.j (n:Nat)]):=⟨_,rfl,UB⟩
theorem Rs.cells {r:Int × Tm × Nat}(h:YH r d):∃ J O U Y y4 y5 y6 y7 y8,d=.ag [.j r.1,J,O,U,Y,y4,y5,y6,y7,y8,.j (r.2.2:Nat)]/\r.2.1.Is (.ag [J,O,U,Y,y4,y5,y6,y7,y8]):=by
 obtain⟨cs,rfl,h⟩:=h;obtain⟨s,t,n⟩:=r;cases t with
 | mk k nm ot n0 ty re l=>
 obtain⟨t0,t1,r0,r1,a,es,c,I,hh,aa,ab⟩:=Tm.is_mk.1 h;injection I with I
 subst I;exact⟨_,_,_,_,_,_,_,_,_,rfl,h⟩
theorem IE (he:e.Is d)(hc:e.cnt<=4000000)(fu:Int)(N:Nat)(Q:QT [.ag 11])(O:∀ d N',N<=N'->YH (wa e fu) d->Q d N'):ACalls prog 30 [.ag 11] [.dg 9 d,.j fu] N Q:=by
 have hG:=Tm.G_cnt e (by omega);unfold wa at O;refine Ib N _ fu Q λ_ N1 ai=>GU e d he (by omega) 0 N1 _ λN2 aj _=>Br.not (λhv N3 ac=>?_) λhv N4 ak=>xH _ _ _ N4 _ λN5 al _=>Br.not (λhb N6 ae=>?_) λhb N7 am=>?_
 ·rw[if_neg (by rw[hv];simp)]at O;exact O _ _ (by omega) YS
 ·rw[if_neg (by rw[hv,hb];decide)]at O;exact O _ _ (by omega) YS
 rw[if_pos (by rw[hv,hb];rfl)]at O;have bb:=za.1 hb;have aw:e.ok=true:=by unfold s9 at hv;simp at hv;exact hv.1
 have hR:=Rch.of aw hc;refine r8 e d he hG N7 _ ?_;obtain⟨F,rfl⟩:∃ F:Nat,fu=(F:Int):=⟨fu.toNat,by omega⟩
 rw[oI]at O
 have rest:∀(m n:Nat) (x:Tm) (dx:D) (N':Nat),N<=N'->n+m=F->Rch x->x.Is dx->(∀ d N',N<=N'->YH (Ox m n x).1 d->Q d N')->xb Q N (F:Nat) n 0 0 (bytes []) (bytes []) 0 0 none [] 0 0 none [] 0 none [] 0 0 dx N':=by
  intro m
  induction m with
  | zero=>
    intro n x dx N' ax hn hx I J;rw[rC]at J;have ao:=hx.s;refine tk λN1 ai=>Dp x dx I (by omega) N1 _ λN2 aj _=>Br.dec (λh4 N3 ac=>?_) λh4 N4 ak=>?_
    ·rw[if_pos (by omega)]at J;exact J _ _ (by omega) YS
    ·rw[if_neg (by omega)]at J;have Y:=hx.F (by omega);refine zi I Y.ok Y.dp N4 _ λN5 al _=>Br.of (λhr N6 ae=>?_) λhr=>Br.beq (λ_ N7 am=>?_) λaa=>absurd (by omega) aa
     ·rw[if_pos hr]at J;cases x with
      | mk k nm ot n0 ty re l=>
      obtain⟨t0,t1,r0,r1,a,es,c,rfl,hh,U,ah⟩:=Tm.is_mk.1 I;exact J _ _ (by omega) (Ow I)
     ·rw[if_neg (by rw[hr];decide)]at J;cases x with
      | mk k nm ot n0 ty re l=>
      obtain⟨t0,t1,r0,r1,a,es,c,rfl,hh,U,ah⟩:=Tm.is_mk.1 I;exact J _ _ (by omega) (Ow I)
  | succ m ih=>
    intro n x dx N' ax hn hx I J;rw[rC]at J;have ao:=hx.s;refine tk λN1 ai=>Dp x dx I (by omega) N1 _ λN2 aj _=>Br.dec (λh4 N3 ac=>?_) λh4 N4 ak=>?_
    ·rw[if_pos (by omega)]at J;exact J _ _ (by omega) YS
    ·rw[if_neg (by omega)]at J;have Y:=hx.F (by omega);refine zi I Y.ok Y.dp N4 _ λN5 al _=>Br.of (λhr N6 ae=>?_) λhr=>Br.beq (λaa=>absurd aa (by omega)) λ_ N8 ay=>?_
     ·rw[if_pos hr]at J;cases x with
      | mk k nm ot n0 ty re l=>
      obtain⟨t0,t1,r0,r1,a,es,c,rfl,hh,U,ah⟩:=Tm.is_mk.1 I;exact J _ _ (by omega) (Ow I)
     ·rw[if_neg (by rw[hr];decide)]at J;refine GN _ _ _ I Y N8 _ λdy N9 az hy _ _=>Br.beq (λh0 aq au=>?_) λh0=>?_
      ·simp only at J;rw[if_pos h0]at J;cases x with
       | mk k nm ot n0 ty re l=>
       obtain⟨t0,t1,r0,r1,a,es,c,rfl,hh,U,ah⟩:=Tm.is_mk.1 I;exact J _ _ (by omega) (Ow I)
      ·simp only at J;rw[if_neg h0]at J;rw[i64_in _ (by omega)]
       have:=ih (n+1) _ dy N9 (by omega) (by omega) (hx.step (by omega)) hy J
       simpa using this
 cases e with
 | mk k nm ot n0 ty re l=>
 intro x4 x5 x6 x7 es' c' N8 ay a0 ab bc _ _;have bg:=ab.len;have bh:=hG.2.2.1;have ao:=hR.s;refine FJ ⟨⟨rfl,rfl⟩,⟨rfl,rfl⟩,λa1 N9 az _ aq au=>?_⟩;have I:(Tm.mk k nm ot n0 ty re l).Is (.ag [.j k,.t nm,.t ot,.j n0,x4,x5,x6,x7,.sl a1 9 es' c']):=Tm.is_mk.2 ⟨_,_,_,_,_,_,_,rfl,a0,by omega,ab⟩;rw[rC]at O;refine Dp _ _ I (by omega) aq _ λbi a5 _=>Br.dec (λh4 N3 ac=>?_) λh4 a2 a6=>?_
 ·rw[if_pos (by omega)]at O;exact O _ _ (by omega) YS
 rw[if_neg (by omega)]at O;have Y:=hR.F (by omega);refine zi I Y.ok Y.dp a2 _ λbj a7 _=>Br.of (λhr N6 ae=>?_) λhr=>Br.beq (λh0 N7 am=>?_) λaa a3 a8=>?_
 ·rw[if_pos hr]at O;exact O _ _ (by omega) (Ow I)
 ·rw[if_neg (by rw[hr];decide)]at O;have:F=0:=by omega
  subst this;exact O _ _ (by omega) (Ow I)
 ·rw[if_neg (by rw[hr];decide)]at O;obtain⟨m,rfl⟩:∃ m,F=m+1:=⟨F - 1,by omega⟩
  simp only at O;refine GN _ _ _ I Y a3 _ λdy a4 a9 hy _ _=>Br.beq (λh0 bm ba=>?_) λh0=>?_
  ·rw[if_pos h0]at O;exact O _ _ (by omega) (Ow I)
  ·rw[if_neg h0]at O;rw[i64_in _ (by omega)];exact rest m 1 _ dy a4 (by omega) (by omega) (hR.step (by omega)) hy O
def Lv (r:Rho):Prop:=∀ s m t,r s m=some t->1<=m
theorem Lv.set (h:Lv r){x:ByteArray}(hn:1<=n):Lv (r.set x n t):=by
 intro s m u I;by_cases e:s=x
 ·subst e;rw[zM]at I;split at I
  ·omega
  ·cases I
 ·rw[zB _ e]at I;exact h _ _ _ I
theorem Lv.safe (h:Lv r)(n:Int):Lv (r.safe n):=λs m t I=>h _ _ _ (rk.1 I).1
theorem zBG {r nm ot m ty re l n u}(h:HT r (.mk 6 nm ot m ty re l) n u):∃ b v,l=[b]/\u=wD ty v/\HT (r.set nm n ty) b n v:=by cases h;exact⟨_,_,rfl,rfl,‹_›⟩
theorem zA3 {r nm ot m ty re l n u}(h:HT r (.mk 9 nm ot m ty re l) n u):∃ b,l=[b]/\u=wD ty re/\nm≠ot/\HT ((r.set nm n (wD ty re)).set ot n ty) b n re:=by cases h;exact⟨_,rfl,rfl,‹_›,‹_›⟩
theorem Xd {r nm ot m ty re l n u}(h:HT r (.mk 10 nm ot m ty re l) n u):∃ b t,l=[b]/\u=wM t/\HT r b (n+1) t/\(wM t).valid=true:=by cases h;exact⟨_,_,rfl,rfl,‹_›,‹_›⟩
theorem zAc {r nm ot m ty re l n u}(h:HT r (.mk 11 nm ot m ty re l) n u):∃ b,l=[b]/\HT r b (n - 1) (wM u):=by cases h;exact⟨_,rfl,‹_›⟩
theorem Sr {a b c d:Ty}(h:wD a b=wD c d):a=c/\b=d:=by have h:Ty.mk 3 [a,b]=Ty.mk 3 [c,d]:=h;simpa using h
theorem PW {a b:Ty}(h:wM a=wM b):a=b:=by have h:Ty.mk 4 [a]=Ty.mk 4 [b]:=h;simpa using h
theorem D9 (h:[a][j]?=some x):j=0/\x=a:=by
 match j,h with
 | 0,h=>exact⟨rfl,by simpa using h.symm⟩
theorem K6 (h:[a,b][j]?=some x):(j=0/\x=a)\/(j=1/\x=b):=by
 match j,h with
 | 0,h=>exact .inl ⟨rfl,by simpa using h.symm⟩
 | 1,h=>exact .inr ⟨rfl,by simpa using h.symm⟩
theorem UA {c:Tm}(h:[a,b,c][j]?=some x):(j=0/\x=a)\/(j=1/\x=b)\/(j=2/\x=c):=by
 match j,h with
 | 0,h=>exact .inl ⟨rfl,by simpa using h.symm⟩
 | 1,h=>exact .inr (.inl ⟨rfl,by simpa using h.symm⟩)
 | 2,h=>exact .inr (.inr ⟨rfl,by simpa using h.symm⟩)
theorem Sv (h:HT r (.mk k nm ot m ty re l) n u)(O:l[j]?=some x)(J:∀ r1 u1,Lv r1->HT r1 x (zP k n) u1->HT r1 y (zP k n) u1)(hr:Lv r)(hn:1<=n\/(k≠6/\k≠9/\(k=8->j=0))):HT r (.mk k nm ot m ty re (l.set j y)) n u:=by
 cases h with
 | var h hv=>exact .var h hv
 | int=>exact .int
 | bool=>exact .bool
 | op h=>
   refine .op λz Y=>?_;rcases nA Y with Y | rfl
   ·exact h z Y
   ·exact J r _ hr (h x (oA O))
 | ite U I hc=>
   rcases UA O with⟨rfl,rfl⟩ | ⟨rfl,rfl⟩ | ⟨rfl,rfl⟩
   ·exact .ite (J r _ hr U) I hc
   ·exact .ite U (J r _ hr I) hc
   ·exact .ite U I (J r _ hr hc)
 | lam I hv=>
   obtain⟨rfl,rfl⟩:=D9 O;rcases hn with hn | hn
   ·exact .lam (J _ _ (hr.set hn) I) hv
   ·exact absurd rfl hn.1
 | app hf hx=>
   rcases K6 O with⟨rfl,rfl⟩ | ⟨rfl,rfl⟩
   ·exact .app (J r _ hr hf) hx
   ·exact .app hf (J r _ hr hx)
 | lt U I=>
   rcases K6 O with⟨rfl,rfl⟩ | ⟨rfl,rfl⟩
   ·exact .lt (J r _ hr U) I
   ·rcases hn with hn | hn
    ·exact .lt U (J _ _ (hr.set hn) I)
    ·exact absurd (hn.2.2 rfl) (by decide)
 | fix aa I hv=>
   obtain⟨rfl,rfl⟩:=D9 O;rcases hn with hn | hn
   ·exact .fix aa (J _ _ ((hr.set hn).set hn) I) hv
   ·exact absurd rfl hn.2.1
 | quote I hv=>obtain⟨rfl,rfl⟩:=D9 O;exact .quote (J r _ hr I) hv
 | splice I=>obtain⟨rfl,rfl⟩:=D9 O;exact .splice (J r _ hr I)
 | run I=>obtain⟨rfl,rfl⟩:=D9 O;exact .run (J _ _ (hr.safe _) I)
 | lift I ht hv=>obtain⟨rfl,rfl⟩:=D9 O;exact .lift (J r _ hr I) ht hv
theorem OZ (h:HT r v n t)(hv:v.res=true)(I:t.base=true):∀ r' m,LvB m->HT r' v m t:=by
 intro r' m J;cases h with
 | int=>exact .int
 | bool=>exact .bool
 | lam _ _=>cases I
 | fix _ _ _=>cases I
 | quote _ _=>cases I
 | var _ _=>cases hv
 | op _=>cases hv
 | ite _ _ _=>cases hv
 | app _ _=>cases hv
 | lt _ _=>cases hv
 | splice _=>cases hv
 | run _=>cases hv
 | lift _ _ _=>cases hv
theorem Kv (h:HT r v 0 t)(hv:v.res=true):PutOk v r 0 t:=.inl ⟨h,λI r'=>OZ h hv I r' 0 inferInstance⟩
theorem zAG {x:ByteArray}(I:HT (r.set x 0 t) b 0 u)(hv:PutOk v r 0 t):HT r (b.sb x v) 0 u:=by
 refine ZI I (λs hs m=>zB _ hs _ _ _) λk t' h=>?_;rw[zM]at h;split at h
 ·rename_i e;cases h;subst e;exact hv
 ·cases h
theorem ZA:ot∉(Tm.mk 9 nm ot m ty re [b]).fv:=by
 intro h;rcases Tm.fv_mem.1 h with⟨h,_⟩ | ⟨_,j,x,I,hx⟩
 ·cases h
 ·obtain⟨rfl,rfl⟩:=D9 I;have hx:ot∈Ch [nm,ot] x.fv:=hx;exact(xc.1 hx).2 (by simp)
theorem Uj (h:HT r (.mk 9 nm ot m ty re [b]) 0 (wD ty re))(hv:PutOk v r 0 ty):HT r ((b.sb nm (.mk 9 nm ot m ty re [b])).sb ot v) 0 re:=by
 obtain⟨U,e,_,J,O⟩:=zA3 h;cases e;refine zAG (ZI O (r':=r.set ot 0 ty) (λs hs k=>?_) λk t I=>?_) hv
 ·by_cases e:s=ot
  ·subst e;rw[zM,zM]
  ·rw[zB _ e,zB _ e,zB _ hs]
 ·rw[zB _ J,zM]at I;split at I
  ·rename_i e;cases I;subst e;refine(Kv h rfl).cong λs hs k=>?_;have e:s≠ot:=λe=>ZA (e ▸ hs);rw[zB _ e]
  ·cases I
theorem ZF (he:e.ok=true)(h:HT r e 0 u)(hr:Lv r)(J:∀ x∈e.as.take (AP e.kd e.as.length),x.res=true):HT r e.apl.1 0 u:=by
 cases h with
 | var h hv=>exact .var h hv
 | int=>exact .int
 | bool=>exact .bool
 | @op _ nm ot m ty re l _ _ h1=>
   show HT r ((Tm.mk 4 nm ot m ty re l).opr l).1 0 _;unfold Tm.opr;split
   ·show HT r (RF (Az nm) _) 0 (rh nm);have key:(Az nm=2/\rh nm=tInt)\/(Az nm=3/\rh nm=tBool):=by
     unfold Az Km rh;by_cases e1:nm=bytes [43]
     ·simp[e1]
     ·by_cases U:nm=bytes [45]
      ·simp[e1,U]
      ·by_cases e3:nm=bytes [42]
       ·simp[e1,U,e3]
       ·simp[e1,U,e3]
    rcases key with⟨e1,U⟩ | ⟨e1,U⟩
    ·rw[e1,U];exact .int
    ·rw[e1,U];exact .bool
   ·exact .op h1
 | @ite _ nm ot m ty re a b c _ _ _ ha I hc=>
   show HT r (if a.kd=3 then(([a,b,c].getD (2 - a.no).toNat tm0,2):Tm × Int)else(.mk 5 nm ot m ty re [a,b,c],0)).1 0 u;split
   ·rename_i hk;have ah:=(Tm.ok_mk.1 he).1 a (by simp);cases a with
    | mk k Y aa m2 ab ac l2=>
    have hk:k=3:=hk;subst hk;have O:=(Tm.ok_mk.1 ah).2.1;unfold zK at O;simp only[oE]at O;have hn:=za.1 O.2.2.2.2.1;have al:m2<=1:=hn.2;have ai:(Tm.mk 3 Y aa m2 ab ac l2).no=m2:=rfl;rw[ai];rcases(by omega:m2=0\/m2=1)with rfl | rfl
    ·exact hc
    ·exact I
   ·exact .ite ha I hc
 | lam I hv=>exact .lam I hv
 | @app _ nm ot m ty re f x _ ta _ _ O hx=>
   have rf:=J f (by simp[Tm.as,Tm.kd,AP]);have rx:=J x (by simp[Tm.as,Tm.kd,AP]);show HT r (if f.kd=6 then(((f.pt 0).sb f.nm x,3):Tm × Int)else if f.kd=9 then((((f.pt 0).sb f.nm f).sb f.ot x),4)else(.mk 7 nm ot m ty re [f,x],0)).1 0 u;cases f with
   | mk k Y aa m2 ab ac l2=>
   split
   ·rename_i hk;have hk:k=6:=hk;subst hk;obtain⟨b,v,rfl,e,I⟩:=zBG O;obtain⟨rfl,rfl⟩:=Sr e;exact zAG I (Kv hx rx)
   ·split
    ·rename_i hk;have hk:k=9:=hk;subst hk;obtain⟨b,rfl,e,ae,I⟩:=zA3 O;obtain⟨rfl,rfl⟩:=Sr e;exact Uj O (Kv hx rx)
    ·exact .app O hx
 | @lt _ nm ot m ty re a b _ t _ _ ha I=>have ra:=J a (by simp[Tm.as,Tm.kd,AP]);exact zAG I (Kv ha ra)
 | fix ae I hv=>exact .fix ae I hv
 | quote I hv=>exact .quote I hv
 | splice I=>exact .splice I
 | @run _ nm ot m ty re b _ t _ I=>
   show HT r (if b.kd=10 then((b.pt 0,7):Tm × Int)else(.mk 12 nm ot m ty re [b],0)).1 0 u;split
   ·rename_i hk;cases b with
    | mk k Y aa m2 ab ac l2=>
    have hk:k=10:=hk;subst hk;obtain⟨c,t,rfl,e,hc,_⟩:=Xd I;cases PW e;have rb:=J _ (oA (i:=0) rfl);have aj:c.made 1=true:=(lF.1 (show(_&&_)=true from rb)).2;refine ZH (Xc hc aj (by omega)) r λs m t ht=>?_;obtain⟨h1,h2,_⟩:=rk.1 ht
    have:=hr _ _ _ h1
    omega
   ·exact .run I
 | @lift _ nm ot m ty re b _ t _ I ht hv=>
   show HT r (if b.kd=2\/b.kd=3 then((Tm.nod 10 [b],8):Tm × Int)else(.mk 13 nm ot m ty re [b],0)).1 0 _;split
   ·rename_i hk;have ak:b.res=true:=by unfold Tm.res US;rcases hk with hk | hk<;>rw[hk]<;>rfl
    exact .quote (OZ I ak ht _ _ ⟨by omega⟩) hv
   ·exact .lift I ht hv
theorem EI {S:Tm->Tm × Int}:∀ {xs l':List Tm}{r:Int},ym S xs m=some (l',r)->∃ j x,xs[j]?=some x/\l'=xs.set j (x.cod S m).1
 | [],_,_,h=>by simp[ym]at h
 | x :: xs,l',r,h=>by
   simp only[ym]at h;split at h
   ·cases h;exact⟨0,x,rfl,rfl⟩
   ·split at h
    ·cases h
    ·rename_i l2 O I;cases h;obtain⟨j,y,J,rfl⟩:=EI I;exact⟨j+1,y,by simpa using J,rfl⟩
def Ya (S:Tm->Tm × Int)(f:Nat):Prop:=∀ e r u,e.dp<=f->e.ok=true->HT r e 0 u->Lv r->HT r (S e).1 0 u
theorem ZG {S:Tm->Tm × Int}(hS:Ya S f):∀(t:Tm)(m:Int)(r:Rho)(u:Ty),t.dp<=f->t.ok=true->1<=m->HT r t m u->Lv r->HT r (t.cod S m).1 m u:=by
 refine Tm.ind λk nm ot n ty re l ih m r u hd he Y h hr=>?_;have I:=(Tm.ok_mk.1 he).1;have J:∀ x∈l,x.dp<=f:=λx hx=>by
  have:=Tm.dp_mem (k:=k) (nm:=nm) (ot:=ot) (n:=n) (ty:=ty) (re:=re) hx
  omega
 simp only[Tm.cod];split
 ·rename_i hk;obtain⟨rfl,rfl⟩:=hk;obtain⟨b,rfl,hb⟩:=zAc h;show HT r (if b.res then(if b.kd=10 then((b.pt 0,6,true):Tm × Int × Bool)else(.mk 11 nm ot n ty re [b],0,true))else(.mk 11 nm ot n ty re [(S b).1],(S b).2,true)).1 1 u;split
  ·split
   ·rename_i hk;cases b with
    | mk k aa ab m2 ac ae l2=>
    have hk:k=10:=hk;subst hk;obtain⟨c,t,rfl,e,hc,_⟩:=Xd hb;cases PW e;exact hc
   ·exact h
  ·exact .splice (hS b r _ (J b (by simp)) (I b (by simp)) hb hr)
 ·rename_i hk;cases hc:ym S l (zP k m)with
  | none=>exact h
  | some p=>
    obtain⟨l',r2⟩:=p;obtain⟨j,x,hj,rfl⟩:=EI hc;have hx:=oA hj;have O:1<=zP k m:=by
     unfold zP;split
     ·omega
     ·split
      ·rename_i U;have:¬m=1:=λe=>hk ⟨U,e⟩;omega
      ·exact Y
    exact Sv h hj (λr1 u1 h1 h2=>ih x hx _ r1 u1 (J x hx) (I x hx) O h2 h1) hr (.inl Y)
theorem WX:∀ f,Ya (Tm.stp f) f
 | 0,e,r,u,hd,_,_,_=>absurd (Tm.dp_pos e) (by omega)
 | f + 1,.mk k nm ot n ty re l,r,u,hd,he,h,hr=>by
   have ih:=WX f;have J:=(Tm.ok_mk.1 he).1;have O:∀ x∈l,x.dp<=f:=λx hx=>by
    have:=Tm.dp_mem (k:=k) (nm:=nm) (ot:=ot) (n:=n) (ty:=ty) (re:=re) hx
    omega
   simp only[Tm.stp];split
   ·exact h
   ·split
    ·rename_i hk;have hk:k=10:=hk;subst hk;obtain⟨b,t,rfl,rfl,hb,hv⟩:=Xd h;exact .quote (ZG ih b 1 r t (O b (by simp)) (J b (by simp)) (by decide) hb hr) hv
    ·rename_i hk;have hk:¬k=10:=hk;cases hg:goS (Tm.stp f) (Tm.mk k nm ot n ty re l) (l.take (AP k l.length)) 0 with
     | none=>exact ZF he h hr (Kb.1 hg)
     | some p=>
       obtain⟨j,x,Y,g2,rfl⟩:=Ah hg;obtain⟨I,U⟩:j<AP k l.length/\l[j]?=some x:=by
        rw[od]at Y;split at Y
        ·exact⟨‹_›,Y⟩
        ·cases Y
       have hm:=oA U;simp only[nT];have hn0:k=11\/zP k 0=0:=by
        unfold zP;rw[if_neg hk];by_cases e:k=11
        ·exact .inl e
        ·rw[if_neg e];exact .inr rfl
       rcases hn0 with rfl | hn0
       ·exact absurd I (by simp[AP])
       ·refine Sv h U (λr1 u1 h1 h2=>?_) hr (.inr ⟨λe=>?_,λe=>?_,λe=>?_⟩)
        ·rw[hn0]at h2 ⊢;exact ih x r1 u1 (O x hm) (J x hm) h2 h1
        ·subst e;exact absurd I (by simp[AP])
        ·subst e;exact absurd I (by simp[AP])
        ·subst e;have:AP 8 l.length=1:=by simp[AP]
         omega
theorem Gg:∀ {l:List Tm}{j:Nat}{x:Tm}(v:List Nb),l[j]?=some x->sD l j v=x.ev v
 | x::_,0,y,v,h=>by simp at h;subst h;simp only[sD]
 | _::l,j+1,y,v,h=>by simp only[sD];exact Gg v (by simpa using h)
theorem Gf:∀ {l:List Tm}{j:Nat}(v:List Nb),l[j]?=none->sD l j v=0
 | [],_,v,h=>by simp only[sD]
 | _::_,0,v,h=>by simp at h
 | _::l,j+1,v,h=>by simp only[sD];exact Gf v (by simpa using h)
theorem Ge {l':List Tm}{v v':List Nb}(J:l'.length=l.length)(h:∀ x x',l[j]?=some x->l'[j]?=some x'->x'.ev v'=x.ev v):sD l' j v'=sD l j v:=by
 cases hx:l[j]? with
 | none=>
   have:l'[j]?=none:=by rw[nX]at hx ⊢;omega
   rw[Gf v hx,Gf v' this]
 | some x=>have O:=(oC.1 hx).1;have I:l'[j]?=some (l'[j]'(by omega)):=oF (by omega);rw[Gg v hx,Gg v' I];exact h x _ hx I
theorem Gh:∀(t:Tm),t.ok=true->∀(v v':List Nb),(∀ s∈t.fv,wT s v=wT s v')->t.ev v=t.ev v':=by
 refine Tm.ind λk nm ot n ty re l ih J v v' h=>?_;have hk:=(Tm.ok_mk.1 J).1;have O:=(Tm.ok_mk.1 J).2.2;simp only[Tm.ev];split
 ·rename_i U;rw[h nm (Tm.fv_mem.2 (.inl ⟨U,rfl⟩))]
 ·rename_i U;have off:∀(j:Nat),(j:Int)≠yB k l.length->sD l j v=sD l j v':=λj hj=>Ge rfl λx x' hx I=>by rw[hx]at I;cases I;refine ih x (oA hx) (hk x (oA hx)) v v' λs hs=>h s (Tm.fv_mem.2 (.inr ⟨U,j,x,hx,?_⟩));unfold fvI;rw[if_neg hj];exact hs
  split
  ·rename_i h4;subst h4;rw[off 0 (by simp[yB]),off 1 (by simp[yB])]
  ·split
   ·rename_i h5;subst h5;rw[off 0 (by simp[yB]),off _ (by simp[yB];omega)]
   ·split
    ·rename_i h8;subst h8;have hl:l.length=2:=by have:(l.length:Int)=2:=O;omega
     have e0:=off 0 (by rw[hl];simp[yB]);rw[e0];refine Ge rfl λx x' hx I=>?_;rw[hx]at I;cases I;refine ih x (oA hx) (hk x (oA hx)) _ _ λs hs=>?_;rw[zR,zR];split
     ·rfl
     ·rename_i Y;refine h s (Tm.fv_mem.2 (.inr ⟨by decide,1,x,hx,?_⟩));unfold fvI;rw[hl,if_pos (by simp[yB])];exact xc.2 ⟨hs,by simp[bdN];exact λe=>Y e.symm⟩
    ·rfl
theorem Ci:∀(l:List Tm)(i:Nat)(v:List Nb),sD l i v=(l.getD i tm0).ev v
 | [],i,v=>by simp[sD,tm0,Tm.ev]
 | x::l,0,v=>by simp[sD]
 | x::l,i+1,v=>by simp only[sD];rw[Ci l i v];simp
def LitT (b:Tm)(m:Int):Prop:=(b.kd=2\/b.kd=3)/\b.no=m/\b.fv=[]/\b.isB=true
theorem LitT.ev (h:LitT b m)(v:List Nb):b.ev v=m:=by
 cases b with
 | mk k nm ot n ty re l=>
 obtain⟨J,I,_⟩:=h;have J:k=2\/k=3:=J;have I:n=m:=I;simp only[Tm.ev];rw[if_neg (by omega),if_neg (by omega),if_neg (by omega),if_neg (by omega)];exact I
theorem QN:∀ {l:List Tm},PB l=true↔∀ x∈l,x.isB=true
 | []=>by simp[PB]
 | x::l=>by simp[PB,QN (l:=l)]
theorem pZ:(Tm.mk k nm ot n ty re l).isB=true↔s5 k=true/\∀ x∈l,x.isB=true:=by
 simp only[Tm.isB,oE,QN]
 first | exact lO | exact and_comm
theorem Pr (I:b.ok=true)(J:b.isB=true)(hr:b.res=true):LitT b b.no:=by
 cases b with
 | mk k nm ot n ty re l=>
 obtain⟨O,h2⟩:=pZ.1 J;have hk:k=2\/k=3:=by unfold Tm.res US at hr;have e:(Tm.mk k nm ot n ty re l).kd=k:=rfl;rw[e]at hr;simp only[nB,oE,nF]at hr;simp only[s5,nB,nF,za]at O;omega
 have U:=(Tm.ok_mk.1 I).2.2;have Y:l=[]:=oL (by
  have:sA k nm=0:=by rcases hk with rfl | rfl<;>rfl
  omega)
 subst Y;refine⟨hk,rfl,?_,J⟩;rcases hk with rfl | rfl<;>rfl
theorem OV : ∀(f:Nat) (t:Tm) (x:ByteArray) (b:Tm),t.isB=true->b.isB=true->(t.sub f x b).isB=true
 | 0,t,x,b,h,_=>h
 | f + 1, .mk k nm ot n ty re l,x,b,h,O=>by
   have J:=OV f;obtain⟨U,h2⟩:=pZ.1 h;have Y:∀ y∈l.map λt=>Tm.sub f t x b,y.isB=true:=λy I=>by obtain⟨z,hz,rfl⟩:=oT.1 I;exact J z x b (h2 z hz) O
   simp only[Tm.sub];split
   ·split
    ·exact O
    ·exact h
   ·split
    ·exact pZ.2 ⟨U,Y⟩
    ·rename_i aa;obtain⟨g1,g2⟩:=w7 aa;have hp:=h2 _ (zk g1);split
     ·refine pZ.2 ⟨U,λy I=>?_⟩;rcases nA I with I | rfl
      ·exact Y y I
      ·exact hp
     ·refine pZ.2 ⟨U,λy I=>?_⟩;rcases nA I with I | rfl
      ·exact Y y I
      ·refine J _ x b ?_ O;have key:∀(os:List ByteArray) (st:ByteArray × ByteArray × Tm),st.2.2.isB=true->(rns (Tm.sub f) k l.length b.fv x os st).2.2.isB=true:=by
        intro os
        induction os with
        | nil=>intro st h;exact h
        | cons o os ab=>
          intro st h;simp only[rns];refine ab _ ?_;unfold rn1;split
          ·split
           ·exact J _ _ _ h (by rfl)
           ·exact J _ _ _ h (by rfl)
          ·exact h
       exact key _ _ hp
theorem ZP (h:l.length=2):∃ a b,l=[a,b]:=by
 match l,h with
 | [a,b],_=>exact⟨a,b,rfl⟩
theorem O9 (f:Nat)(nm ot:ByteArray)(m:Int)(ty re:Ty)(a p:Tm)(x:ByteArray)(b:Tm):(Tm.mk 8 nm ot m ty re [a,p]).sub (f+1) x b =
  if x∈[nm]\/x∉p.fv then .mk 8 nm ot m ty re [a.sub f x b,p]else .mk 8 (rn1 (Tm.sub f) 8 2 b.fv x nm (nm,ot,p)).1 (rn1 (Tm.sub f) 8 2 b.fv x nm (nm,ot,p)).2.1 m ty re [a.sub f x b,Tm.sub f (rn1 (Tm.sub f) 8 2 b.fv x nm (nm,ot,p)).2.2 x b]:=by
 simp only[Tm.sub];rfl
theorem Si (hb:LitT b m){x:ByteArray}:∀(f:Nat)(t:Tm),t.dp<=f->t.ok=true->t.isB=true->∀(v v':List Nb),(∀ s,s≠x->wT s v'=wT s v)->wT x v'=some m->(t.sub f x b).ev v=t.ev v'
 | 0,t,h,_,_,_,_,_,_=>absurd (Tm.dp_pos t) (by omega)
 | f + 1,.mk k nm ot n ty re l,hd,O,hB,v,v',U,h2=>by
   have ih:=Si hb (x:=x) f;obtain⟨q1,q2⟩:=pZ.1 hB;have hk:=(Tm.ok_mk.1 O).1;have aa:=(Tm.ok_mk.1 O).2.2;simp only[Tm.dp]at hd;have I:=λy hy=>uZ.1 (mN hd) y hy;by_cases k1:k=1
   ·subst k1;simp only[Tm.sub,nj];split
    ·rename_i e;rw[hb.ev];simp only[Tm.ev,nj];rw[e,h2];rfl
    ·rename_i e;simp only[Tm.ev,nj];rw[U nm e]
   have mp:∀(j:Nat),sD (l.map λt=>Tm.sub f t x b) j v=sD l j v':=λj=>Ge (by simp) λy y' hy Y=>by rw[oG,hy]at Y;cases Y;have hm:=oA hy;exact ih y (I y hm) (hk y hm) (q2 y hm) v v' U h2
   by_cases k8:k=8
   ·subst k8;obtain⟨a,p,rfl⟩:=ZP (l:=l) (by have:(l.length:Int)=2:=aa;omega);have ea:=ih a (I a (by simp)) (hk a (by simp)) (q2 a (by simp)) v v' U h2;rw[O9,hb.2.2.1];split
    ·rename_i hc;simp only[Tm.ev,sD,if_neg (show ¬(8:Int)=1 by decide),if_neg (show ¬(8:Int)=4 by decide),if_neg (show ¬(8:Int)=5 by decide),nj];rw[ea];refine Gh p (hk p (by simp)) _ _ λs hs=>?_;rw[zR,zR];split
     ·rfl
     ·rename_i J;refine(U s λe=>?_).symm;subst e;rcases hc with hc | hc
      ·exact J (oW.1 hc).symm
      ·exact hc hs
    ·rename_i hc;have e0:rn1 (Tm.sub f) 8 2 [] x nm (nm,ot,p)=(nm,ot,p):=by unfold rn1;rw[if_neg (by simp)]
     rw[e0];simp only[Tm.ev,sD,if_neg (show ¬(8:Int)=1 by decide),if_neg (show ¬(8:Int)=4 by decide),if_neg (show ¬(8:Int)=5 by decide),nj];rw[ea];have J:nm≠x:=λe=>hc (.inl (by simp[e]));refine ih p (I p (by simp)) (hk p (by simp)) (q2 p (by simp)) _ _ (λs hs=>?_) ?_
     ·rw[zR,zR,U s hs]
     ·rw[zR,if_neg J,h2]
   ·have ab:yB k l.length<0:=by simp only[s5,nB,nF,za]at q1;unfold yB;rw[if_neg (by omega),if_neg (by omega),if_neg (by omega)];decide
    have e:(Tm.mk k nm ot n ty re l).sub (f+1) x b=.mk k nm ot n ty re (l.map λt=>t.sub f x b):=by simp only[Tm.sub];rw[if_neg k1,if_pos ab]
    rw[e];simp only[Tm.ev];rw[if_neg k1,if_neg k1];split
    ·rw[mp 0,mp 1]
    ·split
     ·rw[mp 0,mp]
     ·rfl
theorem U8 {v:List Nb}(hx:l[j]?=some x)(h:y.ev v=x.ev v)(i:Nat):sD (l.set j y) i v=sD l i v:=by
 refine Ge (by simp) λz z' J I=>?_;rw[nR]at I;split at I
 ·rename_i e;subst e;rw[hx]at J;cases J;split at I
  ·cases I;exact h
  ·cases I
 ·rw[J]at I;cases I;rfl
theorem XT {v:List Nb}(h:i≠j):sD (l.set j y) i v=sD l i v:=by refine Ge (by simp) λz z' J I=>?_;rw[nR,if_neg (λe=>h e.symm),J]at I;cases I;rfl
theorem Zk (v:List Nb):tm0.ev v=0:=by simp[tm0,Tm.ev]
theorem Y7 (aa:e.ok=true)(hB:e.isB=true)(I:∀ x∈e.as.take (AP e.kd e.as.length),x.res=true):e.apl.1.isB=true/\e.apl.1.ev []=e.ev []:=by
 cases e with
 | mk k nm ot n ty re l=>
 obtain⟨q1,U⟩:=pZ.1 hB;have hk:=(Tm.ok_mk.1 aa).1;have ab:=(Tm.ok_mk.1 aa).2.2;have I:∀ x∈l.take (AP k l.length),x.res=true:=I;simp only[s5,nB,nF,za]at q1;simp only[Tm.apl];split
 ·rename_i h4;subst h4;have I:∀ x∈l,x.res=true:=λx hx=>I x (by simpa [AP]using hx);have num:∀ i,sD l i []=(l.getD i tm0).no:=λi=>by
   rw[Ci];by_cases hi:i<l.length
   ·have hm:=zk hi;exact(Pr (hk _ hm) (U _ hm) (I _ hm)).ev []
   ·have:l.getD i tm0=tm0:=by rw[oB,oY (by omega)];rfl
    rw[this];exact Zk []
  unfold Tm.opr;split
  ·show(RF (Az nm) (yQ nm (l.getD 0 tm0).no (l.getD 1 tm0).no).1).isB=true/\(RF (Az nm) (yQ nm (l.getD 0 tm0).no (l.getD 1 tm0).no).1).ev []=_;have hr:Az nm=2\/Az nm=3:=by unfold Az;split<;>simp
   constructor
   ·exact pZ.2 ⟨by rcases hr with h | h<;>rw[h]<;>decide,by simp⟩
   ·simp only[RF,Tm.ev];rw[if_neg (by omega),if_neg (by omega),if_neg (by omega),if_neg (by omega),num 0,num 1];rfl
  ·exact⟨hB,rfl⟩
 ·rename_i h4;split
  ·rename_i h5;subst h5;split
   ·rename_i h3;have hl:l.length=3:=by have:(l.length:Int)=3:=ab;omega
    have Y:=zk (l:=l) (i:=0) (by omega);have J:=Pr (hk _ Y) (U _ Y) (I _ (by
     rw[show AP 5 l.length=1 by simp[AP]]
     match l,hl with
     | a::l',_=>simp))
    have ac:(2 - (l.getD 0 tm0).no).toNat<l.length:=by
     have O:=hk _ Y;generalize l.getD 0 tm0=a at h3 O ⊢;cases a with
     | mk k ae ah m2 ai aj l2=>
     have h3:k=3:=h3;subst h3;have hf:=(Tm.ok_mk.1 O).2.1;unfold zK at hf;simp only[oE]at hf;have hn:=za.1 hf.2.2.2.2.1;have e:(Tm.mk 3 ae ah m2 ai aj l2).no=m2:=rfl;rw[e,hl];omega
    refine⟨U _ (zk ac),?_⟩;simp only[Tm.ev,if_neg (show ¬(5:Int)=1 by decide),if_neg (show ¬(5:Int)=4 by decide),nj];rw[Ci l 0,J.ev,Ci]
   ·exact⟨hB,rfl⟩
  ·rename_i h5;rw[if_neg (by omega)];split
   ·rename_i h8;subst h8;obtain⟨a,p,rfl⟩:=ZP (l:=l) (by have:(l.length:Int)=2:=ab;omega);have J:=Pr (hk a (by simp)) (U a (by simp)) (I a (by simp[AP]));show(p.sb nm a).isB=true/\(p.sb nm a).ev []=_;refine⟨OV _ _ _ _ (U p (by simp)) (U a (by simp)),?_⟩;simp only[Tm.ev,sD,if_neg (show ¬(8:Int)=1 by decide),if_neg (show ¬(8:Int)=4 by decide),if_neg (show ¬(8:Int)=5 by decide),nj];rw[J.ev];refine Si J _ p (oD _) (hk p (by simp)) (U p (by simp)) _ _ (λs hs=>?_) ?_
    ·rw[zR (v:=[]),if_neg (λe=>hs e.symm)]
    ·rw[zR (v:=[]),if_pos rfl]
   ·rw[if_neg (by omega),if_neg (by omega)];exact⟨hB,rfl⟩
theorem WU:∀(f:Nat) (e:Tm),e.dp<=f->e.ok=true->e.isB=true->(e.stp f).1.isB=true/\(e.stp f).1.ev []=e.ev []
 | 0,e,hd,_,_=>absurd (Tm.dp_pos e) (by omega)
 | f + 1,.mk k nm ot n ty re l,hd,J,hB=>by
   obtain⟨q1,q2⟩:=pZ.1 hB;have hk:=(Tm.ok_mk.1 J).1;have aa:=(Tm.ok_mk.1 J).2.2;have q3:=q1;simp only[s5,nB,nF,za]at q3;simp only[Tm.stp];split
   ·exact⟨hB,rfl⟩
   ·split
    ·rename_i O;have O:k=10:=O;omega
    ·cases hg:goS (Tm.stp f) (Tm.mk k nm ot n ty re l) (l.take (AP k l.length)) 0 with
     | none=>exact Y7 J hB (Kb.1 hg)
     | some p=>
       obtain⟨j,x,g1,g2,rfl⟩:=Ah hg;obtain⟨U,Y⟩:j<AP k l.length/\l[j]?=some x:=by
        rw[od]at g1;split at g1
        ·exact⟨‹_›,g1⟩
        ·cases g1
       have hm:=oA Y;have ab:=Tm.dp_mem (k:=k) (nm:=nm) (ot:=ot) (n:=n) (ty:=ty) (re:=re) hm;obtain⟨b1,b2⟩:=WU f x (by omega) (hk x hm) (q2 x hm);simp only[nT,Tm.wth];refine⟨pZ.2 ⟨q1,λy hy=>?_⟩,?_⟩
       ·rcases nA hy with hy | rfl
        ·exact q2 y hy
        ·exact b1
       ·have I:∀ i,sD (l.set j (Tm.stp f x).1) i []=sD l i []:=U8 Y b2;simp only[Tm.ev];by_cases k1:k=1
        ·rw[if_pos k1,if_pos k1]
        rw[if_neg k1,if_neg k1];by_cases k4:k=4
        ·rw[if_pos k4,if_pos k4,I 0,I 1]
        rw[if_neg k4,if_neg k4];by_cases k5:k=5
        ·rw[if_pos k5,if_pos k5,I 0,I]
        rw[if_neg k5,if_neg k5];by_cases k8:k=8
        ·rw[if_pos k8,if_pos k8,I 0];have ac:j=0:=by subst k8;simp[AP]at U;exact U
         exact XT (by omega)
        rw[if_neg k8,if_neg k8]
def spn:Tm->List Tm->Tm
 | t,[]=>t
 | t,a::ys=>spn (Tm.nod 7 [t,a]) ys
def Px:List Pm->List Tm->List Nb
 | p::g,a::ys=>(p.nm,a.no)::Px g ys
 | _,_=>[]
theorem rg (b:Nb)(v:List Nb)(s:ByteArray):wT s (b::v)=match wT s v with | some m=>some m | none=>if b.1=s then some b.2 else none:=by
 unfold wT;rw[List.reverse_cons,List.find?_append];cases h:v.reverse.find? λp=>decide (p.1=s)with
 | some y=>simp
 | none=>by_cases I:b.1=s<;>simp[I]
theorem S2 {v:List Nb}{s:ByteArray}(h:∀ b∈v,b.1≠s):wT s v=none:=by unfold wT;rw[List.find?_eq_none.2 λb I=>by simpa using h b (by simpa using I)];rfl
theorem Py:∀ {g:List Pm}{ys:List Tm}{b:Nb},b∈Px g ys->∃ p∈g,b.1=p.nm
 | [],_,b,h=>by simp[Px]at h
 | _::_,[],b,h=>by simp[Px]at h
 | p::g,a::ys,b,h=>by
   simp only[Px,oH]at h;rcases h with rfl | h
   ·exact⟨p,by simp,rfl⟩
   ·obtain⟨q,I,e⟩:=Py h;exact⟨q,by simp[I],e⟩
theorem T2:∀(ys:List Tm)(t u:Tm),(∀ f,t.dp<=f->(t.stp f).1=u)->t.res=false->∀ f,(spn t ys).dp<=f->((spn t ys).stp f).1=spn u ys
 | [],t,u,h,_,f,I=>h f I
 | a :: ys,t,u,h,hr,f,I=>by
   refine T2 ys (Tm.nod 7 [t,a]) (Tm.nod 7 [u,a]) (λf I=>?_) rfl f I
   match f with
   | 0=>exact absurd (Tm.dp_pos (Tm.nod 7 [t,a])) (by omega)
   | f+1=>
     have J:t.dp<(Tm.nod 7 [t,a]).dp:=Tm.dp_mem (l:=[t,a]) (by simp);have e:=h f (by omega);show(if(Tm.nod 7 [t,a]).res then _ else if(Tm.nod 7 [t,a]).kd=10 then _ else match goS (Tm.stp f) (Tm.nod 7 [t,a]) [t,a] 0 with
      | some r=>r
      | none=>(Tm.nod 7 [t,a]).apl).1=_
     rw[if_neg (show ¬(Tm.nod 7 [t,a]).res=true from λh=>by cases h),if_neg (show ¬(Tm.nod 7 [t,a]).kd=10 by show ¬(7:Int)=10;decide)];simp only[goS,hr];show Tm.nod 7 [(Tm.stp f t).1,a]=_;rw[e]
theorem V3 {p:Pm}{B:Tm}(I:a.res=true)(f:Nat)(O:(Tm.nod 7 [Kg p.nm p.ty B,a]).dp<=f):((Tm.nod 7 [Kg p.nm p.ty B,a]).stp f).1=B.sb p.nm a:=by
 match f with
 | 0=>exact absurd (Tm.dp_pos (Tm.nod 7 [Kg p.nm p.ty B,a])) (by omega)
 | f+1=>
   show(if(Tm.nod 7 [Kg p.nm p.ty B,a]).res then _ else if(Tm.nod 7 [Kg p.nm p.ty B,a]).kd=10 then _ else match goS (Tm.stp f) (Tm.nod 7 [Kg p.nm p.ty B,a]) [Kg p.nm p.ty B,a] 0 with
    | some r=>r
    | none=>(Tm.nod 7 [Kg p.nm p.ty B,a]).apl).1=_
   rw[if_neg (show ¬(Tm.nod 7 [Kg p.nm p.ty B,a]).res=true from λh=>by cases h),if_neg (show ¬(Tm.nod 7 [Kg p.nm p.ty B,a]).kd=10 by show ¬(7:Int)=10;decide)];have J:(Kg p.nm p.ty B).res=true:=rfl;simp only[goS,J,I,nj];rfl
theorem ZO {B:Tm}{s:ByteArray}(h:s∈B.fv)(hs:s≠nm):s∈(Kg nm ty B).fv:=by refine Tm.fv_mem.2 (.inr ⟨by decide,0,B,rfl,?_⟩);show s∈Ch [nm] B.fv;exact xc.2 ⟨h,by simpa using hs⟩
theorem Pd:∀(g:List Pm)(e:Tm)(s:ByteArray),s∈e.fv->(∀ p∈g,s≠p.nm)->s∈(yV g e).fv
 | [],e,s,h,_=>h
 | p::g,e,s,h,I=>ZO (Pd g e s h λq J=>I q (by simp[J])) (I p (by simp))
theorem T4 (f:Nat)(nm ot:ByteArray)(m:Int)(ty re:Ty)(p:Tm)(x:ByteArray)(b:Tm):(Tm.mk 6 nm ot m ty re [p]).sub (f+1) x b =
  if x∈[nm]\/x∉p.fv then .mk 6 nm ot m ty re [p]else .mk 6 (rn1 (Tm.sub f) 6 1 b.fv x nm (nm,ot,p)).1 (rn1 (Tm.sub f) 6 1 b.fv x nm (nm,ot,p)).2.1 m ty re [Tm.sub f (rn1 (Tm.sub f) 6 1 b.fv x nm (nm,ot,p)).2.2 x b]:=by
 simp only[Tm.sub];rfl
theorem Mg (O:b.fv=[]){x:ByteArray}:∀(g:List Pm)(e:Tm)(f:Nat),(∀ p∈g,x≠p.nm)->(yV g e).dp<=f->∃ e',(yV g e).sub f x b=yV g e'/\((e'=e/\x∉e.fv)\/∃ U,e.dp<=U/\e'=e.sub U x b)
 | [],e,f,_,Y=>⟨_,rfl,.inr ⟨f,Y,rfl⟩⟩
 | p :: g,e,f,I,Y=>by
   match f with
   | 0=>exact absurd (Tm.dp_pos (yV (p::g) e)) (by omega)
   | f+1=>
     have hd:(yV g e).dp<(yV (p::g) e).dp:=Tm.dp_mem (l:=[yV g e]) (by simp);show ∃ e',(Tm.mk 6 p.nm (bytes []) 0 p.ty (.mk 0 []) [yV g e]).sub (f+1) x b=_/\_;rw[T4,O];split
     ·rename_i hc;refine⟨e,rfl,.inl ⟨rfl,λh=>?_⟩⟩;rcases hc with hc | hc
      ·exact I p (by simp) (oW.1 hc)
      ·exact hc (Pd g e x h λq J=>I q (by simp[J]))
     ·have e0:rn1 (Tm.sub f) 6 1 [] x p.nm (p.nm,bytes [],yV g e)=(p.nm,bytes [],yV g e):=by unfold rn1;rw[if_neg (by simp)]
      rw[e0];obtain⟨e',h1,h2⟩:=Mg O g e f (λq J=>I q (by simp[J])) (by omega);exact⟨e',by show Tm.mk 6 _ _ _ _ _ [_]=_;rw[h1];rfl,h2⟩
theorem Wl:∀(ys:List Tm)(t:Tm),(spn t ys).ok=true->t.ok=true
 | [],t,h=>h
 | a::ys,t,h=>by
   have:=Wl ys _ h
   exact(Tm.ok_mk.1 this).1 t (by simp)
theorem Pe:∀(g:List Pm)(e:Tm),(yV g e).ok=true->e.ok=true
 | [],e,h=>h
 | p::g,e,h=>Pe g e ((Tm.ok_mk.1 h).1 _ (by simp))
theorem Tx:∀(ys:List Tm)(t:Tm),t.res=false->(spn t ys).res=false
 | [],t,h=>h
 | a::ys,t,h=>Tx ys _ rfl
end Go.Proofs.YtlaniepnglheoaaGreat
