/- What terms mean, with stages left out: values of simple types, functions that start from nothing k times (no program in sight). -/
import Derived.Test.YtligajflgjpdnaaGreatDoorB6
set_option linter.unusedVariables false
set_option linter.unusedSimpArgs false
namespace Go.Proofs.YtligajflgjpdnaaGreatDoor
open Go Go.Proofs Go.Proofs.Tryz Go.IntWalk
inductive STy
 | b
 | fn (x y:STy)
def Sem:STy->Type
 | .b=>Option Int
 | .fn x y=>Sem x->Sem y
def bot:(τ:STy)->Sem τ
 | .b=>(none:Option Int)
 | .fn _ y=>λ_=>bot y
def Rl:(τ:STy)->Sem τ->Sem τ->Prop
 | .b,x,y=>x=(none:Option Int)\/x=y
 | .fn x y,f,g=>∀ v w,Rl x v w->Rl y (f v) (g w)
structure Sig where
 t:STy
 v:Sem t
open Classical in
noncomputable def Sig.at (d:Sig)(τ:STy):Sem τ:=if h:d.t=τ then h ▸ d.v else bot τ
def RS (d e:Sig):Prop:=d.t=e.t/\∀ τ,Rl τ (d.at τ) (e.at τ)
abbrev Ev:=ByteArray->Sig
def Ev.set (ρ:Ev)(x:ByteArray)(d:Sig):Ev:=λs=>if s=x then d else ρ s
def RE (ρ σ:Ev):Prop:=∀ s,RS (ρ s) (σ s)
theorem RE.set {ρ σ:Ev}(h:RE ρ σ){x:ByteArray}{d e:Sig}(hd:RS d e):RE (ρ.set x d) (σ.set x e):=λs=>by
 unfold Ev.set;split
 ·exact hd
 ·exact h s
mutual
def Ty.st:Ty->STy
 | .mk k l=>if k=3 then .fn ((TP l).getD 0 .b) ((TP l).getD 1 .b)else if k=4 then(TP l).getD 0 .b else .b
def TP:List Ty->List STy
 | []=>[]
 | t::I=>t.st::TP I
end
section
variable (K:Nat) (nm ot:ByteArray) (n:Int) (ty re:Ty) (ρ:Ev)
end
mutual
def Tm.rd:Tm->Prop
 | .mk k nm ot _ _ _ l=>(k=9->nm≠ot)/\Rh l
def Rh:List Tm->Prop
 | []=>True
 | t::I=>t.rd/\Rh I
end
theorem K4:∀ {l:List Tm},Rh l↔∀ x∈l,x.rd
 | []=>by simp[Rh]
 | t::I=>by simp only[Rh,K4 (l:=I),oF,nT]
theorem A1 {k:Int}{nm ot:ByteArray}{n:Int}{ty re:Ty}{l:List Tm}:(Tm.mk k nm ot n ty re l).rd↔(k=9->nm≠ot)/\∀ x∈l,x.rd:=by simp only[Tm.rd,K4]
theorem YE:∀ t:Tm,t.ok=true->t.rd:=by refine Tm.ind λk nm ot n ty re l J h=>?_;obtain⟨O,U,h3⟩:=Tm.ok_mk.1 h;refine A1.2 ⟨λY=>?_,λx I=>J x I (O x I)⟩;subst Y;have hl:l.length=1:=(xq h).1 (.inr (.inl rfl));exact((Ep (m:=l.length) (by rw[hl];decide) U).2 rfl).2
theorem Ck {s w:ByteArray}{l:List ByteArray}(I:s∈l)(J:w∉l):s≠w:=λe=>by subst e;exact J I
theorem Us {k:Int}{n:Nat}(J:¬zN k n<0):(k=6/\n=1\/k=8/\n=2)/\(∀ a b:ByteArray,bdN k a b n=[a])\/(k=9/\n=1)/\∀ a b:ByteArray,bdN k a b n=[a,b]:=by
 rcases xT k n with h | ⟨_,I,h | h⟩ | ⟨_,I,h⟩
 ·omega
 ·exact .inl ⟨.inl ⟨h,I⟩,λa b=>by subst h;subst I;rfl⟩
 ·exact .inr ⟨⟨h,I⟩,λa b=>by subst h;subst I;rfl⟩
 ·exact .inl ⟨.inr ⟨h,I⟩,λa b=>by subst h;subst I;rfl⟩
theorem ID:∀(f:Nat) (t:Tm) (x:ByteArray) (b:Tm),t.rd->b.rd->(t.sub f x b).rd
 | 0,t,x,b,h,_=>h
 | f + 1,.mk k nm ot n ty re l,x,b,h,hb=>by
   have ih:=ID f;obtain⟨h1,h2⟩:=A1.1 h;have mp:∀ z∈l.map (λt=>Tm.sub f t x b),z.rd:=λz J=>by obtain⟨w,hw,rfl⟩:=oP.1 J;exact ih w x b (h2 w hw) hb
   have vr:∀ s:ByteArray,(xk s).rd:=λs=>A1.2 ⟨λh=>absurd h (by decide),by simp⟩;simp only[Tm.sub];split
   ·split
    ·exact hb
    ·exact h
   ·split
    ·exact A1.2 ⟨h1,mp⟩
    ·rename_i O;obtain⟨g1,g2⟩:=yM O;have hp:=h2 _ (oB (zH g1));have key:∀ v:Tm,v.rd->∀ z∈(l.map λt=>Tm.sub f t x b).set (zN k l.length).toNat v,z.rd:=λv hv z J=>by
      rcases oe J with J | rfl
      ·exact mp z J
      ·exact hv
     split
     ·exact A1.2 ⟨h1,key _ hp⟩
     ·refine A1.2 ⟨λh9=>?_,key _ (ih _ x b (SA (P:=Tm.rd) (λt x y ht=>ih t x _ ht (vr y)) _ _ _ _ _ _ hp) hb)⟩;rcases Us O with⟨h6,_⟩ | ⟨⟨_,hl⟩,ab⟩
      ·omega
      ·have U:=h1 h9;simp only[ab,rns,rn1];have Y:∀(I:Tm) (a:ByteArray),¬fresh (b.fv++(I.fv++([x]++[a,ot])))=ot:=λI a hc=>yb (b.fv++(I.fv++([x]++[a,ot]))) (by rw[hc];simp);have aa:∀(I:Tm) (a:ByteArray),¬a=fresh (b.fv++(I.fv++([x]++[a,ot]))):=λI a hc=>yb (b.fv++(I.fv++([x]++[a,ot]))) (by rw[<-hc];simp);by_cases hf:nm∈b.fv
       ·simp only[hf,Y,↓reduceIte];split
        ·exact aa _ _
        ·exact Y _ _
       ·simp only[hf,↓reduceIte];split
        ·simp only[U,↓reduceIte];exact aa _ _
        ·exact U
def Mt (r:Rho)(ρ:Ev):Prop:=∀ s m t,r s m=some t->(ρ s).t=t.st
theorem Mt.safe {r:Rho}{ρ:Ev}(h:Mt r ρ)(n:Int):Mt (r.safe n) ρ:=λs m u I=>h s m u (ua.1 I).1
theorem Sr (s:ByteArray):(vv s).st=.b:=by unfold vv;(repeat' split)<;>rfl
theorem Ki {nm ot:ByteArray}{n:Int}{ty re:Ty}{l:List Tm}(h:(Tm.mk 4 nm ot n ty re l).ok=true):l.length=1\/l.length=2:=by
 obtain⟨_,I,J⟩:=Tm.ok_mk.1 h;have O:(l.length:Int)=rU nm:=J;simp only[zK,oG]at I;have h:=I.2.2.2.2.2;simp only[xY]at h;rw[if_pos trivial]at h;simp only[oG,o9]at h
 have:=h.1
 have U:rU nm=1\/rU nm=2:=by
  revert this;unfold rU
  (repeat' split)<;>simp
 omega
mutual
def Ty.er:Ty->Ty
 | .mk k l=>if k=4/\l.length=1 then(SJ l).getD 0 (.mk 0 [])else .mk k (SJ l)
def SJ:List Ty->List Ty
 | []=>[]
 | t::I=>t.er::SJ I
end
mutual
def Tm.er:Tm->Tm
 | .mk k nm ot n ty re l=>if(10<=k/\k<=13)/\l.length=1 then(Ri l).getD 0 tm0 else .mk k nm ot n ty.er re.er (Ri l)
def Ri:List Tm->List Tm
 | []=>[]
 | t::I=>t.er::Ri I
end
theorem CD:∀ l:List Tm,Ri l=l.map Tm.er
 | []=>rfl
 | t::I=>by simp only[Ri,oh,CD I]
theorem Fe:∀ l:List Ty,SJ l=l.map Ty.er
 | []=>rfl
 | t::I=>by simp only[SJ,oh,Fe I]
theorem IJ {f:Ty->Ty}:∀ {l:List Ty},(∀ t∈l,(f t).cnt<=t.cnt)->zL (l.map f)<=zL l
 | [],_=>by simp[zL]
 | t::I,h=>by have O:=h t (by simp);have U:=IJ (f:=f) (l:=I) λx J=>h x (by simp[J]);simp only[oh,zL];omega
theorem IS {f:Ty->Ty}:∀ {l:List Ty},(∀ t∈l,(f t).dep<=t.dep)->uv (l.map f)<=uv l
 | [],_=>by simp[uv]
 | t::I,h=>by have O:=h t (by simp);have U:=IS (f:=f) (l:=I) λx J=>h x (by simp[J]);simp only[oh,uv];omega
theorem Az:∀ {l:List Ty},wL l=true↔∀ t∈l,t.form=true
 | []=>by simp[wL]
 | t::I=>by simp only[wL,oG,Az (l:=I),oF,nT]
theorem YG:∀ t:Ty,t.er.cnt<=t.cnt/\t.er.dep<=t.dep/\(t.form=true->t.er.form=true):=by
 refine Ty.ind λk l O=>?_;simp only[Ty.er,Fe];split
 ·rename_i h
  match l,h.2 with
  | [t],_=>
    have:=O t (by simp)
    refine⟨?_,?_,λI=>this.2.2 ?_⟩
    ·have e:(Ty.mk k [t]).cnt=1+(t.cnt+0):=rfl;show t.er.cnt<=_;omega
    ·have e:(Ty.mk k [t]).dep=max t.dep 0+1:=rfl;show t.er.dep<=_;omega
    ·simp only[Ty.form,wL,oG]at I;exact I.1.1
 ·have U:=IJ λt J=>(O t J).1;have Y:=IS λt J=>(O t J).2.1;refine⟨by simp only[Ty.cnt];omega,by simp only[Ty.dep];omega,λI=>?_⟩;simp only[Ty.form,oG,oW]at I ⊢;refine⟨Az.2 λt J=>?_,I.2⟩;obtain⟨s,hs,rfl⟩:=oP.1 J;exact(O s hs).2.2 (Az.1 I.1 s hs)
def Vc:STy->Type
 | .b=>Int
 | .fn x y=>Vc x->Option (Nat × Vc y)
abbrev Cp (τ:STy):=Option (Nat × Vc τ)
def RV:(τ:STy)->Vc τ->Vc τ->Prop
 | .b,x,y=>x=y
 | .fn x y,f,g=>∀ v w,RV x v w->∀ j u,f v=some (j,u)->∃ I u',g w=some (I,u')/\I<=j/\RV y u u'
def RC {τ:STy}(c J:Cp τ):Prop:=∀ j u,c=some (j,u)->∃ I u',J=some (I,u')/\I<=j/\RV τ u u'
theorem NM {τ:STy}{c:Cp τ}:RC none c:=λj u h=>by cases h
def tk {τ:STy}(i:Nat)(c:Cp τ):Cp τ:=match c with
 | none=>none
 | some (j,u)=>some (j+i,u)
theorem Qt {τ:STy}{c I:Cp τ}{i i':Nat}(h:RC c I)(hi:i'<=i):RC (tk i c) (tk i' I):=λj u J=>by
 cases c with
 | none=>cases J
 | some p=>obtain⟨O,Y⟩:=p;cases J;obtain⟨j',u',rfl,h2,U⟩:=h O u rfl;exact⟨_,_,rfl,by omega,U⟩
def bnd {σ τ:STy}(c:Cp σ)(f:Vc σ->Cp τ):Cp τ:=match c with
 | none=>none
 | some (j,u)=>tk j (f u)
theorem F1 {σ τ:STy}{c I:Cp σ}{f f':Vc σ->Cp τ}(h:RC c I)(U:∀ u u',RV σ u u'->RC (f u) (f' u')):RC (bnd c f) (bnd I f'):=λj u J=>by
 cases c with
 | none=>cases J
 | some p=>obtain⟨Y,O⟩:=p;obtain⟨j',u',rfl,h2,h3⟩:=h Y O rfl;exact Qt (U O u' h3) h2 j u J
theorem ZO {τ:STy}(i k:Nat)(c:Cp τ):tk i (tk k c)=tk k (tk i c):=by
 cases c with
 | none=>rfl
 | some p=>obtain⟨j,u⟩:=p;show some (j+k+i,u)=some (j+i+k,u);rw[Nat.add_right_comm]
theorem II {σ τ:STy}(i:Nat)(c:Cp σ)(f:Vc σ->Cp τ):bnd (tk i c) f=tk i (bnd c f):=by
 cases c with
 | none=>rfl
 | some p=>
   obtain⟨j,u⟩:=p;show tk (j+i) (f u)=tk i (tk j (f u));cases f u with
   | none=>rfl
   | some q=>obtain⟨k,v⟩:=q;show some (k+(j+i),v)=some (k+j+i,v);rw[ml]
theorem Un {σ τ:STy}(i:Nat)(c:Cp σ)(f:Vc σ->Cp τ):bnd c (λu=>tk i (f u))=tk i (bnd c f):=by
 cases c with
 | none=>rfl
 | some p=>obtain⟨j,u⟩:=p;exact ZO _ _ _
theorem tk0 {τ:STy}(c:Cp τ):tk 0 c=c:=by
 cases c with
 | none=>rfl
 | some p=>rfl
structure Cg where
 t:STy
 v:Cp t
open Classical in
noncomputable def Cg.at (d:Cg)(τ:STy):Cp τ:=if h:d.t=τ then h ▸ d.v else none
theorem yj (τ:STy)(v:Cp τ):(⟨τ,v⟩:Cg).at τ=v:=dif_pos rfl
theorem FT {d:Cg}{τ:STy}(h:d.t≠τ):d.at τ=none:=dif_neg h
def RQ (d e:Cg):Prop:=d.t=e.t/\∀ τ,RC (d.at τ) (e.at τ)
theorem KB {τ:STy}{v w:Cp τ}(h:RC v w):RQ ⟨τ,v⟩ ⟨τ,w⟩:=⟨rfl,fun σ=>by
 by_cases e:τ=σ
 ·subst e;rw[yj,yj];exact h
 ·rw[FT (d:=⟨τ,v⟩) e];exact NM⟩
theorem YR {τ:STy}{v w:Cp τ}(h:RQ ⟨τ,v⟩ ⟨τ,w⟩):RC v w:=by
 have:=h.2 τ
 rwa[yj,yj]at this
def jq:Cg:=⟨.b,none⟩
theorem PK:RQ jq jq:=KB NM
def tkQ (d:Cg):Cg:=⟨d.t,tk 1 d.v⟩
theorem BV (d:Cg)(τ:STy):(tkQ d).at τ=tk 1 (d.at τ):=by
 by_cases h:d.t=τ
 ·subst h;obtain⟨t,v⟩:=d;show Cg.at ⟨t,tk 1 v⟩ t=tk 1 (Cg.at ⟨t,v⟩ t);rw[yj,yj]
 ·rw[FT (d:=tkQ d) h,FT h];rfl
theorem OM {d e:Cg}(h:RQ d e):RQ (tkQ d) (tkQ e):=⟨h.1,fun τ=>by rw[BV,BV];exact Qt (h.2 τ) (oC _)⟩
abbrev Evq:=ByteArray->Cg
def Evq.set (ρ:Evq)(x:ByteArray)(d:Cg):Evq:=λs=>if s=x then d else ρ s
theorem xO (ρ:Evq)(x:ByteArray)(d:Cg):ρ.set x d x=d:=if_pos rfl
theorem zS (ρ:Evq){x s:ByteArray}(h:s≠x)(d:Cg):ρ.set x d s=ρ s:=if_neg h
def RE2 (ρ σ:Evq):Prop:=∀ s,RQ (ρ s) (σ s)
theorem RE2.set {ρ σ:Evq}(h:RE2 ρ σ){x:ByteArray}{d e:Cg}(hd:RQ d e):RE2 (ρ.set x d) (σ.set x e):=λs=>by
 unfold Evq.set;split
 ·exact hd
 ·exact h s
noncomputable def L2:Cg->Cg->Cg
 | ⟨.fn a c,g⟩,x=>⟨c,bnd g λf=>bnd (x.at a) λw=>tk 1 (f w)⟩
 | ⟨.b,_⟩,_=>jq
noncomputable def ifQ (c t e:Cg):Cg:=⟨t.t,bnd (c.at .b) λ(n:Int)=>tk 1 (if n=0 then e.at t.t else t.at t.t)⟩
noncomputable def UZ (a:STy)(F:Cg->Cg):Cg:=⟨.fn a (F ⟨a,none⟩).t,some (0,λv=>(F ⟨a,some (0,v)⟩).at (F ⟨a,none⟩).t)⟩
noncomputable def MT (a:Cg)(F:Cg->Cg):Cg:=⟨(F ⟨a.t,none⟩).t,bnd a.v λw=>tk 1 ((F ⟨a.t,some (0,w)⟩).at (F ⟨a.t,none⟩).t)⟩
noncomputable def itq (a c:STy)(F:Cg->Cg->Cg):Nat->Vc (.fn a c)
 | 0=>λ_=>none
 | k+1=>λv=>(F ⟨.fn a c,some (0,itq a c F k)⟩ ⟨a,some (0,v)⟩).at c
noncomputable def T8 (K:Nat)(a c:STy)(F:Cg->Cg->Cg):Cg:=⟨.fn a c,some (0,itq a c F K)⟩
def opQ (s:ByteArray)(n:Nat)(x y:Cp .b):Cp .b:=if n=2 then bnd x λ(a:Int)=>bnd y λ(b:Int)=>if(zE s a b).2=true then some (1,(zE s a b).1)else none
 else bnd x λ(a:Int)=>if(zE s a 0).2=true then some (1,(zE s a 0).1)else none
noncomputable def AG (K:Nat)(k:Int)(nm ot:ByteArray)(n:Int)(ty re:Ty)(c:Nat)(g:Nat->Evq->Cg)(ρ:Evq):Cg:=
 if k=1 then ρ nm else if k=2\/k=3 then⟨.b,some (0,(n:Int))⟩
 else if k=4 then⟨.b,opQ nm c ((g 0 ρ).at .b) ((g 1 ρ).at .b)⟩
 else if k=5 then ifQ (g 0 ρ) (g 1 ρ) (g 2 ρ)
 else if k=6 then(if c=1 then UZ ty.st (λd=>g 0 (ρ.set nm d))else jq)
 else if k=7 then L2 (g 0 ρ) (g 1 ρ)
 else if k=8 then(if c=2 then MT (g 0 ρ) (λd=>g 1 (ρ.set nm d))else jq)
 else if k=9 then(if c=1 then T8 K ty.st re.st (λd e=>g 0 ((ρ.set nm d).set ot e))else jq)
 else g 0 ρ
mutual
noncomputable def Tm.dq (K:Nat):Tm->Evq->Cg
 | .mk k nm ot n ty re l=>AG K k nm ot n ty re l.length (λi=>(dqs K l).getD i (λ_=>jq))
noncomputable def dqs (K:Nat):List Tm->List (Evq->Cg)
 | []=>[]
 | t::I=>t.dq K::dqs K I
end
theorem VI (K:Nat):∀(l:List Tm)(i:Nat),(dqs K l).getD i (λ_=>jq)=(l.getD i tm0).dq K
 | [],i=>by funext ρ;simp[dqs,tm0,Tm.dq,AG]
 | t::I,0=>by simp only[dqs,lB]
 | t::I,i+1=>by simp only[dqs,lC];exact VI K I i
theorem rQ (K:Nat)(k:Int)(nm ot:ByteArray)(n:Int)(ty re:Ty)(l:List Tm)(ρ:Evq):(Tm.mk k nm ot n ty re l).dq K ρ=AG K k nm ot n ty re l.length (λi=>(l.getD i tm0).dq K) ρ:=by simp only[Tm.dq];congr 1;funext i;exact VI K l i
section
variable (K:Nat) (nm ot:ByteArray) (n:Int) (ty re:Ty) (ρ:Evq)
theorem dq1 (l:List Tm):(Tm.mk 1 nm ot n ty re l).dq K ρ=ρ nm:=by rw[rQ];rfl
theorem TS {k:Int}(I:k=2\/k=3)(l:List Tm):(Tm.mk k nm ot n ty re l).dq K ρ=⟨.b,some (0,(n:Int))⟩:=by rw[rQ];unfold AG;rw[if_neg (by omega),if_pos I]
theorem dq4 (l:List Tm):(Tm.mk 4 nm ot n ty re l).dq K ρ=⟨.b,opQ nm l.length (((l.getD 0 tm0).dq K ρ).at .b) (((l.getD 1 tm0).dq K ρ).at .b)⟩:=by rw[rQ];rfl
theorem dq5 (a b c:Tm):(Tm.mk 5 nm ot n ty re [a,b,c]).dq K ρ=ifQ (a.dq K ρ) (b.dq K ρ) (c.dq K ρ):=by rw[rQ];rfl
theorem dq6 (b:Tm):(Tm.mk 6 nm ot n ty re [b]).dq K ρ=UZ ty.st (λd=>b.dq K (ρ.set nm d)):=by rw[rQ];rfl
theorem dq7 (a b:Tm):(Tm.mk 7 nm ot n ty re [a,b]).dq K ρ=L2 (a.dq K ρ) (b.dq K ρ):=by rw[rQ];rfl
theorem dq8 (a b:Tm):(Tm.mk 8 nm ot n ty re [a,b]).dq K ρ=MT (a.dq K ρ) (λd=>b.dq K (ρ.set nm d)):=by rw[rQ];rfl
theorem dq9 (b:Tm):(Tm.mk 9 nm ot n ty re [b]).dq K ρ=T8 K ty.st re.st (λd e=>b.dq K ((ρ.set nm d).set ot e)):=by rw[rQ];rfl
theorem dqS {k:Int}(I:k=10\/k=11\/k=12\/k=13)(l:List Tm):(Tm.mk k nm ot n ty re l).dq K ρ=(l.getD 0 tm0).dq K ρ:=by rw[rQ];unfold AG;rw[if_neg (by omega),if_neg (by omega),if_neg (by omega),if_neg (by omega),if_neg (by omega),if_neg (by omega),if_neg (by omega),if_neg (by omega)]
end
theorem X2 {f f' x J:Cg}(h:f.t=f'.t):(L2 f x).t=(L2 f' J).t:=by obtain⟨I,g⟩:=f;obtain⟨tf',g'⟩:=f';have h:I=tf':=h;subst h;cases I<;>rfl
theorem XV {K K':Nat}:∀(e:Tm)(ρ σ:Evq),(∀ s,(ρ s).t=(σ s).t)->(e.dq K ρ).t=(e.dq K' σ).t:=by
 refine Tm.ind λk nm ot n ty re l J ρ σ h=>?_;have I:∀ i ρ σ,(∀ s,(ρ s).t=(σ s).t)->((l.getD i tm0).dq K ρ).t=((l.getD i tm0).dq K' σ).t:=λi ρ σ h=>by
  by_cases hi:i<l.length
  ·exact J _ (zB hi) ρ σ h
  ·rw[oA,oS (by omega)];rfl
 have hs:∀ {ρ σ:Evq} (x:ByteArray) {d e:Cg},(∀ s,(ρ s).t=(σ s).t)->d.t=e.t->∀ s,(ρ.set x d s).t=(σ.set x e s).t:=λ{ρ σ} x {d e} h hd s=>by
  unfold Evq.set;split
  ·exact hd
  ·exact h s
 rw[rQ,rQ];unfold AG
 repeat' split
 ·exact h nm
 ·rfl
 ·rfl
 ·exact I 1 _ _ h
 ·show STy.fn _ _=STy.fn _ _;rw[I 0 _ _ (hs nm h rfl)]
 ·rfl
 ·exact X2 (I 0 _ _ h)
 ·exact I 1 _ _ (hs nm h (I 0 _ _ h))
 ·rfl
 ·rfl
 ·rfl
 ·exact I 0 _ _ h
theorem RA {f f' x I:Cg}(J:RQ f f')(U:RQ x I):RQ (L2 f x) (L2 f' I):=by
 obtain⟨O,g⟩:=f;obtain⟨tf',g'⟩:=f';have h:O=tf':=J.1;subst h;cases O with
 | b=>exact PK
 | fn a c=>exact KB (F1 (YR J) λu u' Y=>F1 (U.2 a) λw w' hw=>Qt (Y w w' hw) (oC _))
theorem UX {c U t t' e e':Cg}(hc:RQ c U)(Y:RQ t t')(he:RQ e e'):RQ (ifQ c t e) (ifQ U t' e'):=by
 obtain⟨J,tv⟩:=t;obtain⟨tt',aa⟩:=t';have h:J=tt':=Y.1;subst h;refine KB (F1 (hc.2 .b) λu u' O=>Qt ?_ (oC _));have O:u=u':=O;subst O;by_cases I:@Eq Int u 0
 ·rw[if_pos I,if_pos I];exact he.2 J
 ·rw[if_neg I,if_neg I];exact Y.2 J
theorem YO {a c I:STy}{f:Vc a->Cg}{f':Vc a->Cg}(hc:c=I)(h:∀ v w,RV a v w->RQ (f v) (f' w)):RQ ⟨.fn a c,some (0,λv=>(f v).at c)⟩ ⟨.fn a I,some (0,λv=>(f' v).at I)⟩:=by subst hc;refine KB λj u J=>?_;cases J;exact⟨0,_,rfl,oC _,λv w O=>(h v w O).2 c⟩
theorem uf {a:STy}{v w:Vc a}(h:RV a v w):RQ ⟨a,some (0,v)⟩ ⟨a,some (0,w)⟩:=KB λj u I=>by cases I;exact⟨0,w,rfl,oC _,h⟩
theorem M4 (a:STy):RQ ⟨a,none⟩ ⟨a,none⟩:=KB NM
theorem SR {a:STy}{F I:Cg->Cg}(J:(F ⟨a,none⟩).t=(I ⟨a,none⟩).t)(h:∀ v w,RV a v w->RQ (F ⟨a,some (0,v)⟩) (I ⟨a,some (0,w)⟩)):RQ (UZ a F) (UZ a I):=
 YO (f:=λv=>F ⟨a,some (0,v)⟩) (f':=λv=>I ⟨a,some (0,v)⟩) J h
theorem QG {a J:Cg}{F I:Cg->Cg}(U:RQ a J)(O:(F ⟨a.t,none⟩).t=(I ⟨a.t,none⟩).t)(h:∀ v w,RV a.t v w->RQ (F ⟨a.t,some (0,v)⟩) (I ⟨a.t,some (0,w)⟩)):RQ (MT a F) (MT J I):=by obtain⟨t,v⟩:=a;obtain⟨t',v'⟩:=J;have e:t=t':=U.1;subst e;have O:(F ⟨t,none⟩).t=(I ⟨t,none⟩).t:=O;unfold MT;show RQ ⟨(F ⟨t,none⟩).t,bnd v λw=>tk 1 ((F ⟨t,some (0,w)⟩).at (F ⟨t,none⟩).t)⟩ ⟨(I ⟨t,none⟩).t,bnd v' λw=>tk 1 ((I ⟨t,some (0,w)⟩).at (I ⟨t,none⟩).t)⟩;rw[<-O];exact KB (F1 (YR U) λu u' Y=>Qt ((h u u' Y).2 _) (oC _))
theorem QJ {a c:STy}{F I:Cg->Cg->Cg}(h:∀ f g v w,RV (.fn a c) f g->RV a v w->RQ (F ⟨.fn a c,some (0,f)⟩ ⟨a,some (0,v)⟩) (I ⟨.fn a c,some (0,g)⟩ ⟨a,some (0,w)⟩)):∀ {K K':Nat},K<=K'->RV (.fn a c) (itq a c F K) (itq a c I K')
 | 0,_,_=>λv w J j u U=>by cases U
 | K+1,0,O=>absurd O (by omega)
 | K+1,K'+1,O=>λv w J=>(h _ _ v w (QJ h (by omega:K<=K')) J).2 c
theorem Q1 {K K':Nat}(J:K<=K'){a c:STy}{F I:Cg->Cg->Cg}(h:∀ f g v w,RV (.fn a c) f g->RV a v w->RQ (F ⟨.fn a c,some (0,f)⟩ ⟨a,some (0,v)⟩) (I ⟨.fn a c,some (0,g)⟩ ⟨a,some (0,w)⟩)):RQ (T8 K a c F) (T8 K' a c I):=uf (QJ h J)
theorem VC (s:ByteArray)(n:Nat){x O y U:Cp .b}(Y:RC x O)(hy:RC y U):RC (opQ s n x y) (opQ s n O U):=by
 have re:∀ c:Cp .b,RC c c:=λc j u h=>⟨j,u,h,oC _,rfl⟩
 unfold opQ;split
 ·refine F1 Y λu u' I=>F1 hy λv v' J=>?_;have I:u=u':=I;have J:v=v':=J;subst I;subst J;exact re _
 ·refine F1 Y λu u' I=>?_;have I:u=u':=I;subst I;exact re _
theorem Nv {K K':Nat} (hK:K<=K') {k:Int} {nm ot:ByteArray} {n:Int} {ty re:Ty} {c:Nat} {g g':Nat->Evq->Cg} {ρ σ:Evq} (hv:k=1->RQ (ρ nm) (σ nm))
  (h:∀(i:Nat),(i:Int)≠zN k c->RQ (g i ρ) (g' i σ))
  (h6:k=6->c=1->(g 0 (ρ.set nm ⟨ty.st,none⟩)).t=(g' 0 (σ.set nm ⟨ty.st,none⟩)).t/\∀ v w,RV ty.st v w->RQ (g 0 (ρ.set nm ⟨ty.st,some (0,v)⟩)) (g' 0 (σ.set nm ⟨ty.st,some (0,w)⟩)))
  (h8:k=8->c=2->(g 1 (ρ.set nm ⟨(g 0 ρ).t,none⟩)).t=(g' 1 (σ.set nm ⟨(g 0 ρ).t,none⟩)).t/\∀ v w,RV (g 0 ρ).t v w->RQ (g 1 (ρ.set nm ⟨(g 0 ρ).t,some (0,v)⟩)) (g' 1 (σ.set nm ⟨(g 0 ρ).t,some (0,w)⟩)))
  (h9:k=9->c=1->∀ f f' v w,RV (.fn ty.st re.st) f f'->RV ty.st v w->RQ (g 0 ((ρ.set nm ⟨.fn ty.st re.st,some (0,f)⟩).set ot ⟨ty.st,some (0,v)⟩)) (g' 0 ((σ.set nm ⟨.fn ty.st re.st,some (0,f')⟩).set ot ⟨ty.st,some (0,w)⟩))) :
  RQ (AG K k nm ot n ty re c g ρ) (AG K' k nm ot n ty re c g' σ):=by
 have nb:¬(k=6\/k=8\/k=9)->zN k c = -1:=λhk=>by unfold zN;rw[if_neg (by omega),if_neg (by omega),if_neg (by omega)]
 unfold AG;by_cases e1:k=1
 ·rw[if_pos e1,if_pos e1];exact hv e1
 rw[if_neg e1,if_neg e1];by_cases U:k=2\/k=3
 ·rw[if_pos U,if_pos U];exact uf (a:=.b) rfl
 rw[if_neg U,if_neg U];by_cases Y:k=4
 ·rw[if_pos Y,if_pos Y];have hb:=nb (by omega);exact KB (VC nm c ((h 0 (by omega)).2 .b) ((h 1 (by omega)).2 .b))
 rw[if_neg Y,if_neg Y];by_cases e5:k=5
 ·rw[if_pos e5,if_pos e5];have hb:=nb (by omega);exact UX (h 0 (by omega)) (h 1 (by omega)) (h 2 (by omega))
 rw[if_neg e5,if_neg e5];by_cases J:k=6
 ·rw[if_pos J,if_pos J];split
  ·rename_i hc;exact SR (h6 J hc).1 (h6 J hc).2
  ·exact PK
 rw[if_neg J,if_neg J];by_cases e7:k=7
 ·rw[if_pos e7,if_pos e7];have hb:=nb (by omega);exact RA (h 0 (by omega)) (h 1 (by omega))
 rw[if_neg e7,if_neg e7];by_cases I:k=8
 ·rw[if_pos I,if_pos I];split
  ·rename_i hc;have hb:zN k c=1:=by unfold zN;rw[if_neg (by omega),if_pos ⟨I,hc⟩]
   exact QG (h 0 (by omega)) (h8 I hc).1 (h8 I hc).2
  ·exact PK
 rw[if_neg I,if_neg I];by_cases O:k=9
 ·rw[if_pos O,if_pos O];split
  ·rename_i hc;exact Q1 hK (h9 O hc)
  ·exact PK
 rw[if_neg O,if_neg O];have hb:=nb (by omega);exact h 0 (by omega)
theorem FJ {K K':Nat}(O:K<=K'):∀(e:Tm)(ρ σ:Evq),RE2 ρ σ->RQ (e.dq K ρ) (e.dq K' σ):=by
 refine Tm.ind λk nm ot n ty re l U ρ σ h=>?_;have I:∀ i ρ σ,RE2 ρ σ->RQ ((l.getD i tm0).dq K ρ) ((l.getD i tm0).dq K' σ):=λi ρ σ h=>by
  by_cases hi:i<l.length
  ·exact U _ (zB hi) ρ σ h
  ·rw[oA,oS (by omega)];exact PK
 rw[rQ,rQ];exact Nv O (λ_=>h nm) (λi _=>I i _ _ h) (λ_ _=>⟨(I 0 _ _ (h.set (M4 _))).1,λv w J=>I 0 _ _ (h.set (uf J))⟩) (λ_ _=>⟨(I 1 _ _ (h.set (M4 _))).1,λv w J=>I 1 _ _ (h.set (uf J))⟩) λ_ _ f f' v w Y J=>I 0 _ _ ((h.set (uf Y)).set (uf J))
theorem su {K:Nat}:∀(e:Tm)(ρ σ:Evq),(∀ s∈e.fv,ρ s=σ s)->e.dq K ρ=e.dq K σ:=by
 refine Tm.ind λk nm ot n ty re l ih ρ σ h=>?_;have hg:∀ i (ρ' σ':Evq),i<l.length->(∀ s,s∈(l.getD i tm0).fv->ρ' s=σ' s)->(l.getD i tm0).dq K ρ'=(l.getD i tm0).dq K σ':=λi ρ' σ' hi h=>ih _ (zB hi) ρ' σ' h;have O:k≠1->∀(i:Nat),(i:Int)≠zN k l.length->(l.getD i tm0).dq K ρ=(l.getD i tm0).dq K σ:=λhk i J=>by
  by_cases hi:i<l.length
  ·exact hg i _ _ hi λs hs=>h s (HA hk (zH hi) (by rw[vz J];exact hs))
  ·rw[oA,oS (by omega)];rfl
 have U:k≠1->∀(i:Nat) (s:ByteArray),i<l.length->(i:Int)=zN k l.length->s∈(l.getD i tm0).fv->s∉bdN k nm ot l.length->ρ s=σ s:=λhk i s hi J hs hn=>h s (HA hk (zH hi) (by rw[Bv J];exact yD.2 ⟨hs,hn⟩));rw[rQ,rQ];unfold AG;by_cases e1:k=1
 ·rw[if_pos e1,if_pos e1];refine h nm ?_;simp only[Tm.fv,if_pos e1,oV]
 rw[if_neg e1,if_neg e1];have nb:¬(k=6\/k=8\/k=9)->zN k l.length = -1:=λhk=>by unfold zN;rw[if_neg (by omega),if_neg (by omega),if_neg (by omega)]
 by_cases eb:k=6\/k=8\/k=9
 ·have e2:¬(k=2\/k=3):=by omega
  have e4:¬k=4:=by omega
  have e5:¬k=5:=by omega
  have e7:¬k=7:=by omega
  simp only[if_neg e2,if_neg e4,if_neg e5,if_neg e7];by_cases e6:k=6
  ·simp only[if_pos e6];split
   ·rename_i hc;have J:zN k l.length=0:=by unfold zN;rw[if_pos ⟨e6,hc⟩]
    congr 1;funext d;refine hg 0 _ _ (by omega) λs hs=>?_;unfold Evq.set;split
    ·rfl
    ·rename_i I;exact U e1 0 s (by omega) (by rw[J];rfl) hs (by unfold bdN;rw[if_pos ⟨e6,hc⟩];simpa using I)
   ·rfl
  ·simp only[if_neg e6];by_cases e8:k=8
   ·simp only[if_pos e8];split
    ·rename_i hc;have J:zN k l.length=1:=by unfold zN;rw[if_neg (by omega),if_pos ⟨e8,hc⟩]
     rw[O e1 0 (by omega)];congr 1;funext d;refine hg 1 _ _ (by omega) λs hs=>?_;unfold Evq.set;split
     ·rfl
     ·rename_i I;exact U e1 1 s (by omega) (by rw[J];rfl) hs (by unfold bdN;rw[if_neg (by omega),if_pos ⟨e8,hc⟩];simpa using I)
    ·rfl
   ·have e9:k=9:=by omega
    simp only[if_neg e8,if_pos e9];split
    ·rename_i hc;have J:zN k l.length=0:=by unfold zN;rw[if_neg (by omega),if_neg (by omega),if_pos ⟨e9,hc⟩]
     congr 1;funext d e;refine hg 0 _ _ (by omega) λs hs=>?_;unfold Evq.set;split
     ·rfl
     ·rename_i I;split
      ·rfl
      ·rename_i Y;exact U e1 0 s (by omega) (by rw[J];rfl) hs (by unfold bdN;rw[if_neg (by omega),if_neg (by omega),if_pos ⟨e9,hc⟩];simp[I,Y])
    ·rfl
 ·have J:=nb eb;have hx:∀ i,(l.getD i tm0).dq K ρ=(l.getD i tm0).dq K σ:=λi=>O e1 i (by omega);simp only[hx,if_neg (show ¬k=6 by omega),if_neg (show ¬k=8 by omega),if_neg (show ¬k=9 by omega)]
theorem Um {K f:Nat}(J:∀(t:Tm)(x:ByteArray)(b:Tm)(ρ:Evq),t.dp<=f->t.rd->(t.sub f x b).dq K ρ=t.dq K (ρ.set x (b.dq K ρ))){u:Tm}{o w:ByteArray}(hd:u.dp<=f)(O:u.rd)(Y:w∉u.fv)(σ τ:Evq)(h:∀ s∈u.fv,s≠o->σ s=τ s)(U:σ w=τ o):(u.sub f o (xk w)).dq K σ=u.dq K τ:=by
 rw[J u o (xk w) σ hd O];refine su u _ _ λs hs=>?_;unfold Evq.set;split
 ·rename_i e;subst e;show(xk w).dq K σ=_;rw[show(xk w).dq K σ=σ w from dq1 K _ _ _ _ _ σ []];exact U
 ·rename_i I;exact h s hs I
theorem LU (K:Nat):∀(f:Nat) (e:Tm) (x:ByteArray) (b:Tm) (ρ:Evq),e.dp<=f->e.rd->(e.sub f x b).dq K ρ=e.dq K (ρ.set x (b.dq K ρ))
 | 0,e,x,b,ρ,h,_=>absurd (Tm.dp_pos e) (by omega)
 | f + 1, .mk k nm ot n ty re l,x,b,ρ,hd,U=>by
   have ih:=LU K f;obtain⟨h1,h2⟩:=A1.1 U;have al:=hd;simp only[Tm.dp]at al;have ai:∀ z∈l,z.dp<=f:=λz hz=>oL (wC.1 (oC _) z hz) (by omega);have vr:∀ s:ByteArray,(xk s).rd:=λs=>A1.2 ⟨λh=>absurd h (by decide),by simp⟩;have mp:∀ i,((l.map λt=>Tm.sub f t x b).getD i tm0).dq K ρ=(l.getD i tm0).dq K (ρ.set x (b.dq K ρ)):=λi=>by
    by_cases hi:i<l.length
    ·have hm:=zB (l:=l) hi;rw[oA,oE,zH hi];exact ih _ x b ρ (ai _ hm) (h2 _ hm)
    ·rw[oA,oA,oS (by simpa using hi),oS (by omega)];rfl
   by_cases hk:k=1
   ·subst hk;simp only[Tm.sub,if_pos];rw[dq1];unfold Evq.set;split
    ·rfl
    ·rw[dq1]
   by_cases J:zN k l.length<0
   ·simp only[Tm.sub,if_neg hk,if_pos J];rw[rQ,rQ,oW];have n6:¬(k=6/\l.length=1):=λh=>by unfold zN at J;rw[if_pos h]at J;omega
    have n8:¬(k=8/\l.length=2):=λh=>by unfold zN at J;rw[if_neg (by omega),if_pos h]at J;omega
    have n9:¬(k=9/\l.length=1):=λh=>by unfold zN at J;rw[if_neg (by omega),if_neg (by omega),if_pos h]at J;omega
    unfold AG;simp only[mp,if_neg hk];split
    ·rfl
    ·split
     ·rfl
     ·split
      ·rfl
      ·by_cases e6:k=6
       ·simp only[if_pos e6,if_neg (show ¬l.length=1 from λh=>n6 ⟨e6,h⟩)]
       ·simp only[if_neg e6];split
        ·rfl
        ·by_cases e8:k=8
         ·simp only[if_pos e8,if_neg (show ¬l.length=2 from λh=>n8 ⟨e8,h⟩)]
         ·simp only[if_neg e8];by_cases e9:k=9
          ·simp only[if_pos e9,if_neg (show ¬l.length=1 from λh=>n9 ⟨e9,h⟩)]
          ·simp only[if_neg e9]
   ·obtain⟨g1,g2⟩:=yM J;have aj:=oB (zH g1);have ab:=ai _ aj;have ac:=h2 _ aj;have one:∀(p:Tm),p.dp<=f->p.rd->(∀ a b:ByteArray,bdN k a b l.length=[a])->∀ d,
      (if x∈bdN k nm ot l.length\/x∉p.fv then p.dq K (ρ.set nm d)else(Tm.sub f (rns (Tm.sub f) k l.length b.fv x (bdN k nm ot l.length) (nm,ot,p)).2.2 x b).dq K (ρ.set (rns (Tm.sub f) k l.length b.fv x (bdN k nm ot l.length) (nm,ot,p)).1 d))=p.dq K ((ρ.set x (b.dq K ρ)).set nm d):=λp Y U ho d=>by
     simp only[ho,rns,rn1,↓reduceIte,oV];split
     ·rename_i hc;refine su p _ _ λs hs=>?_;unfold Evq.set;split
      ·rfl
      ·rename_i O;rw[if_neg]
       rintro rfl
       rcases hc with hc | hc
       ·exact O hc
       ·exact hc hs
     ·rename_i hc;simp only[not_or,Classical.not_not]at hc;by_cases hf:nm∈b.fv
      ·simp only[hf,↓reduceIte];have I:=yb (b.fv++(p.fv++([x]++[nm])));generalize fresh (b.fv++(p.fv++([x]++[nm])))=w at I ⊢;simp only[oK,oF,oZ,nh,not_or]at I;obtain⟨w1,w2,w3,w4⟩:=I;rw[ih _ x b _ (oL (yJ f p nm w).d Y) (ID f p nm _ U (vr w))];have hB:b.dq K (ρ.set w d)=b.dq K ρ:=su b _ _ λs hs=>zS _ (Ck hs w1) _;rw[hB];refine Um ih Y U w2 _ _ (λs hs O=>?_) ?_
       ·rw[zS _ O];unfold Evq.set;split
        ·rfl
        ·rw[if_neg (Ck hs w2)]
       ·rw[xO,zS _ w3,xO]
      ·simp only[hf,↓reduceIte];rw[ih _ x b _ Y U];have hB:b.dq K (ρ.set nm d)=b.dq K ρ:=su b _ _ λs hs=>zS _ (Ck hs hf) _;rw[hB];refine su p _ _ λs hs=>?_;unfold Evq.set;by_cases e1:s=x
       ·subst e1;rw[if_pos rfl,if_neg hc.1,if_pos rfl]
       ·rw[if_neg e1,if_neg e1]
    have am:∀(p:Tm),p.dp<=f->p.rd->nm≠ot->(∀ a b:ByteArray,bdN k a b l.length=[a,b])->∀ d d',
      (if x∈bdN k nm ot l.length\/x∉p.fv then p.dq K ((ρ.set nm d).set ot d')else(Tm.sub f (rns (Tm.sub f) k l.length b.fv x (bdN k nm ot l.length) (nm,ot,p)).2.2 x b).dq K ((ρ.set (rns (Tm.sub f) k l.length b.fv x (bdN k nm ot l.length) (nm,ot,p)).1 d).set (rns (Tm.sub f) k l.length b.fv x (bdN k nm ot l.length) (nm,ot,p)).2.1 d'))=p.dq K (((ρ.set x (b.dq K ρ)).set nm d).set ot d'):=λp Y U O ho d d'=>by
     simp only[ho,rns,rn1,↓reduceIte,oF,oZ,nh];split
     ·rename_i hc;refine su p _ _ λs hs=>?_;unfold Evq.set;split
      ·rfl
      ·rename_i h1;split
       ·rfl
       ·rename_i h2;rw[if_neg]
        rintro rfl
        rcases hc with(hc | hc) | hc
        ·exact h2 hc
        ·exact h1 hc
        ·exact hc hs
     ·rename_i hc;simp only[not_or,Classical.not_not]at hc;obtain⟨⟨x1,x2⟩,x3⟩:=hc;have fin:∀(q:Tm) (a c:ByteArray),q.dp<=f->q.rd->a≠x->c≠x->a∉b.fv->c∉b.fv->(Tm.sub f q x b).dq K ((ρ.set a d).set c d')=q.dq K (((ρ.set x (b.dq K ρ)).set a d).set c d'):=λq a c hq ao ha hc aq au=>by
       rw[ih q x b _ hq ao];have hB:b.dq K ((ρ.set a d).set c d')=b.dq K ρ:=su b _ _ λs hs=>by rw[zS _ (Ck hs au),zS _ (Ck hs aq)]
       rw[hB];refine su q _ _ λs hs=>?_;unfold Evq.set;by_cases e1:s=x
       ·subst e1;rw[if_pos rfl,if_neg (λe=>hc e.symm),if_neg (λe=>ha e.symm),if_pos rfl]
       ·rw[if_neg e1,if_neg e1]
      have ren:∀(q:Tm) (o w:ByteArray) (σ τ:Evq),q.dp<=f->q.rd->w∉q.fv->(∀ s∈q.fv,s≠o->σ s=τ s)->σ w=τ o->(q.sub f o (xk w)).dq K σ=q.dq K τ:=λq o w σ τ h1 h2 h3 h4 h5=>Um ih h1 h2 h3 σ τ h4 h5;by_cases hf:nm∈b.fv
      ·have I:=yb (b.fv++(p.fv++([x]++[nm,ot])));simp only[hf,↓reduceIte];generalize fresh (b.fv++(p.fv++([x]++[nm,ot])))=w at I ⊢;simp only[oK,oF,oZ,nh,not_or]at I;obtain⟨w1,w2,w3,w4,w5⟩:=I;simp only[w5,↓reduceIte];have ae:=oL (yJ f p nm w).d Y;have ah:=ID f p nm _ U (vr w);have ay:∀ s∈(p.sub f nm (xk w)).fv,s≠nm:=λs hs=>by
        rcases Hr f p nm (xk w) Y s hs with h | ⟨h,_⟩
        ·exact h.2
        ·rw[A9,oV]at h;rw[h];exact w4
       by_cases hg:ot∈b.fv
       ·have aa:=yb (b.fv++((p.sub f nm (xk w)).fv++([x]++[w,ot])));simp only[hg,↓reduceIte];generalize fresh (b.fv++((p.sub f nm (xk w)).fv++([x]++[w,ot])))=z at aa ⊢;simp only[oK,oF,oZ,nh,not_or]at aa;obtain⟨z1,z2,z3,z4,z5⟩:=aa;rw[fin _ w z (oL (yJ f _ ot z).d ae) (ID f _ ot _ ah (vr z)) w3 z3 w1 z1];rw[ren _ ot z _ (((ρ.set x (b.dq K ρ)).set w d).set ot d') ae ah z2 (λs hs hn=>by rw[zS _ (Ck hs z2),zS _ hn]) (by rw[xO,xO])];refine ren p nm w _ _ Y U w2 (λs hs hn=>?_) ?_
        ·by_cases e:s=ot
         ·subst e;rw[xO,xO]
         ·rw[zS _ e,zS _ e,zS _ hn,zS _ (Ck hs w2)]
        ·rw[zS _ w5,xO,zS _ O,xO]
       ·simp only[hg,↓reduceIte];rw[fin _ w ot ae ah w3 (λe=>x2 e.symm) w1 hg];refine ren p nm w _ _ Y U w2 (λs hs hn=>?_) ?_
        ·by_cases e:s=ot
         ·subst e;rw[xO,xO]
         ·rw[zS _ e,zS _ e,zS _ hn,zS _ (Ck hs w2)]
        ·rw[zS _ w5,xO,zS _ O,xO]
      ·simp only[hf,↓reduceIte];by_cases hg:ot∈b.fv
       ·have aw:¬nm=ot:=O;have I:=yb (b.fv++(p.fv++([x]++[nm,ot])));simp only[hg,aw,↓reduceIte];generalize fresh (b.fv++(p.fv++([x]++[nm,ot])))=z at I ⊢;simp only[oK,oF,oZ,nh,not_or]at I;obtain⟨z1,z2,z3,z4,z5⟩:=I;rw[fin _ nm z (oL (yJ f p ot z).d Y) (ID f p ot _ U (vr z)) (λe=>x1 e.symm) z3 hf z1];exact ren p ot z _ _ Y U z2 (λs hs hn=>by rw[zS _ (Ck hs z2),zS _ hn]) (by rw[xO,xO])
       ·simp only[hg,↓reduceIte];exact fin p nm ot Y U (λe=>x1 e.symm) (λe=>x2 e.symm) hf hg
    have ak:(Tm.mk k nm ot n ty re l).sub (f+1) x b=if x∈bdN k nm ot l.length\/x∉(l.getD (zN k l.length).toNat tm0).fv then
      .mk k nm ot n ty re ((l.map λt=>Tm.sub f t x b).set (zN k l.length).toNat (l.getD (zN k l.length).toNat tm0))
     else .mk k (rns (Tm.sub f) k l.length b.fv x (bdN k nm ot l.length) (nm,ot,l.getD (zN k l.length).toNat tm0)).1
      (rns (Tm.sub f) k l.length b.fv x (bdN k nm ot l.length) (nm,ot,l.getD (zN k l.length).toNat tm0)).2.1 n ty re
      ((l.map λt=>Tm.sub f t x b).set (zN k l.length).toNat (Tm.sub f (rns (Tm.sub f) k l.length b.fv x (bdN k nm ot l.length) (nm,ot,l.getD (zN k l.length).toNat tm0)).2.2 x b)):=by
     simp only[Tm.sub,if_neg hk,if_neg J]
    rw[ak];rcases Us J with⟨ax,o1⟩ | ⟨⟨h9,hl⟩,o2⟩
    ·rcases ax with⟨h6,hl⟩ | ⟨h8,hl⟩
     ·obtain⟨p,rfl⟩:=len1 hl;subst h6
      have:=one p ab ac o1
      rw[dq6];split
      ·rename_i hc;simp only[if_pos (show x∈bdN 6 nm ot [p].length\/x∉p.fv from hc)]at this;exact(dq6 K nm ot n ty re ρ p).trans (nV (UZ ty.st) (funext this))
      ·rename_i hc;simp only[if_neg (show ¬(x∈bdN 6 nm ot [p].length\/x∉p.fv)from hc)]at this;exact(dq6 K _ _ n ty re ρ _).trans (nV (UZ ty.st) (funext this))
     ·obtain⟨a,p,rfl⟩:=Wq hl;subst h8
      have:=one p ab ac o1
      have ha:(a.sub f x b).dq K ρ=a.dq K (ρ.set x (b.dq K ρ)):=mp 0;rw[dq8];split
      ·rename_i hc;simp only[if_pos (show x∈bdN 8 nm ot [a,p].length\/x∉p.fv from hc)]at this;refine(dq8 K nm ot n ty re ρ (a.sub f x b) p).trans ?_;rw[ha];exact nV (MT _) (funext this)
      ·rename_i hc;simp only[if_neg (show ¬(x∈bdN 8 nm ot [a,p].length\/x∉p.fv)from hc)]at this;refine(dq8 K _ _ n ty re ρ (a.sub f x b) _).trans ?_;rw[ha];exact nV (MT _) (funext this)
    ·obtain⟨p,rfl⟩:=len1 hl;subst h9
     have:=am p ab ac (h1 rfl) o2
     rw[dq9];split
     ·rename_i hc;simp only[if_pos (show x∈bdN 9 nm ot [p].length\/x∉p.fv from hc)]at this;exact(dq9 K nm ot n ty re ρ p).trans (nV (T8 K ty.st re.st) (funext λd=>funext λe=>this d e))
     ·rename_i hc;simp only[if_neg (show ¬(x∈bdN 9 nm ot [p].length\/x∉p.fv)from hc)]at this;exact(dq9 K _ _ n ty re ρ _).trans (nV (T8 K ty.st re.st) (funext λd=>funext λe=>this d e))
def Mq (r:Rho)(ρ:Evq):Prop:=∀ s m t,r s m=some t->(ρ s).t=t.st
theorem Mq.set {r:Rho}{ρ:Evq}(h:Mq r ρ){x:ByteArray}{n:Int}{t:Ty}{d:Cg}(hd:d.t=t.st):Mq (r.set x n t) (ρ.set x d):=λs m u I=>by
 by_cases e:s=x
 ·subst e;rw[zT]at I;split at I
  ·cases I;rw[xO];exact hd
  ·cases I
 ·rw[zD _ e]at I;rw[zS _ e];exact h s m u I
theorem BG {K:Nat}{r:Rho}{e:Tm}{n:Int}{u:Ty}(h:HT r e n u):∀ ρ:Evq,Mq r ρ->(e.dq K ρ).t=u.st:=by
 induction h with
 | @var r nm ot m ty re l n u _ h hv=>intro ρ hρ;rw[dq1];exact hρ _ _ _ h
 | int=>intro ρ hρ;rw[TS _ _ _ _ _ _ _ (.inl rfl)];rfl
 | bool=>intro ρ hρ;rw[TS _ _ _ _ _ _ _ (.inr rfl)];rfl
 | op h I=>intro ρ hρ;rw[dq4,Sr]
 | ite _ _ _ _ I _=>intro ρ hρ;rw[dq5];exact I ρ hρ
 | @lam r nm ot m ty re b n v _ hb hv I=>intro ρ hρ;rw[dq6];show STy.fn ty.st _=STy.fn ty.st v.st;rw[I _ (hρ.set (d:=⟨ty.st,none⟩) rfl)]
 | @app r nm ot m ty re f x n a b _ hf hx O aa=>intro ρ hρ;rw[dq7];have J:=O ρ hρ;generalize f.dq K ρ=d at J ⊢;obtain⟨t,v⟩:=d;have J:t=.fn a.st b.st:=J;subst J;rfl
 | @lt r nm ot m ty re a b n t u _ ha hb U Y=>intro ρ hρ;rw[dq8];exact Y _ (hρ.set (d:=⟨(a.dq K ρ).t,none⟩) (U ρ hρ))
 | fix _ _ _ _=>intro ρ hρ;rw[dq9];rfl
 | quote _ _ I=>intro ρ hρ;rw[dqS _ _ _ _ _ _ _ (.inl rfl)];exact I ρ hρ
 | splice _ I=>intro ρ hρ;rw[dqS _ _ _ _ _ _ _ (.inr (.inl rfl))];exact I ρ hρ
 | run _ I=>intro ρ hρ;rw[dqS _ _ _ _ _ _ _ (.inr (.inr (.inl rfl)))];exact I ρ λs m t h=>hρ s m t (ua.1 h).1
 | lift _ _ _ I=>intro ρ hρ;rw[dqS _ _ _ _ _ _ _ (.inr (.inr (.inr rfl)))];exact I ρ hρ
mutual
def Tm.np:Tm->Prop
 | .mk k _ _ _ _ _ l=>k<10/\QA l
def QA:List Tm->Prop
 | []=>True
 | t::I=>t.np/\QA I
end
theorem LD:∀ {l:List Tm},QA l↔∀ x∈l,x.np
 | []=>by simp[QA]
 | t::I=>by simp only[QA,LD (l:=I),oF,nT]
theorem sq {k:Int}{nm ot:ByteArray}{n:Int}{ty re:Ty}{l:List Tm}:(Tm.mk k nm ot n ty re l).np↔k<10/\∀ x∈l,x.np:=by simp only[Tm.np,LD]
theorem Ul:∀(f:Nat)(t:Tm)(x:ByteArray)(b:Tm),t.np->b.np->(t.sub f x b).np
 | 0,t,x,b,h,_=>h
 | f + 1,.mk k nm ot n ty re l,x,b,h,J=>by
   have O:=Ul f;obtain⟨U,h2⟩:=sq.1 h;have mp:∀ z∈l.map (λt=>Tm.sub f t x b),z.np:=λz I=>by obtain⟨w,hw,rfl⟩:=oP.1 I;exact O w x b (h2 w hw) J
   have vr:∀ s:ByteArray,(xk s).np:=λs=>sq.2 ⟨by decide,by simp⟩;simp only[Tm.sub];split
   ·split
    ·exact J
    ·exact h
   ·split
    ·exact sq.2 ⟨U,mp⟩
    ·rename_i Y;obtain⟨g1,g2⟩:=yM Y;have hp:=h2 _ (oB (zH g1));have key:∀ v:Tm,v.np->∀ z∈(l.map λt=>Tm.sub f t x b).set (zN k l.length).toNat v,z.np:=λv hv z I=>by
      rcases oe I with I | rfl
      ·exact mp z I
      ·exact hv
     split
     ·exact sq.2 ⟨U,key _ hp⟩
     ·exact sq.2 ⟨U,key _ (O _ x b (SA (P:=Tm.np) (λt x y ht=>O t x _ ht (vr y)) _ _ _ _ _ _ hp) J)⟩
theorem W3 {e:Tm}(h:e.np)(I:e.res=true):e.kd=2\/e.kd=3\/e.kd=6\/e.kd=9:=by
 cases e with
 | mk k nm ot n ty re l=>
 have J:=(sq.1 h).1;unfold Tm.res HX at I;simp only[Tm.kd,nI,oG,nM]at I ⊢;omega
theorem Pu {K:Nat}{e:Tm}(J:e.np)(O:e.ok=true)(U:e.res=true)(ρ:Evq):∃ τ w,e.dq K ρ=⟨τ,some (0,w)⟩:=by
 have Y:=W3 J U;cases e with
 | mk k nm ot n ty re l=>
 have I:=(xq O).1;rcases Y with rfl | rfl | rfl | rfl
 ·rw[TS _ _ _ _ _ _ _ (.inl rfl)];exact⟨_,_,rfl⟩
 ·rw[TS _ _ _ _ _ _ _ (.inr rfl)];exact⟨_,_,rfl⟩
 ·obtain⟨b,rfl⟩:=len1 (I (.inl rfl));rw[dq6];exact⟨_,_,rfl⟩
 ·obtain⟨b,rfl⟩:=len1 (I (.inr (.inl rfl)));rw[dq9];exact⟨_,_,rfl⟩
theorem QW {s:ByteArray}(h:rU s=1\/rU s=2){a b:Int}(ha:0<=a/\a<=10006)(hb:0<=b/\b<=10006):(zE s a b).2=true:=by
 unfold zE;rw[if_pos (zw.2 ha),if_pos (zw.2 hb)];unfold rU at h;by_cases e1:s=bytes [43]
 ·rw[if_pos e1]
 rw[if_neg e1]at h ⊢;by_cases I:s=bytes [45]
 ·rw[if_pos I]
 rw[if_neg I]at h ⊢;by_cases J:s=bytes [42]
 ·rw[if_pos J]
 rw[if_neg J]at h ⊢;by_cases O:s=bytes [61]
 ·rw[if_pos O]
 rw[if_neg O]at h ⊢;by_cases U:s=bytes [60]
 ·rw[if_pos U]
 rw[if_neg U]at h ⊢;by_cases Y:s=bytes [38]
 ·rw[if_pos Y]
 rw[if_neg Y]at h ⊢;by_cases e7:s=bytes [124]
 ·rw[if_pos e7]
 rw[if_neg e7]at h ⊢;by_cases e8:s=bytes [33]
 ·rw[if_pos e8]
 rw[if_neg e8]at h;omega
theorem Nc {K:Nat}{e:Tm}(h:e.kd=2\/e.kd=3)(ρ:Evq):e.dq K ρ=⟨.b,some (0,(e.no:Int))⟩:=by
 cases e with
 | mk k nm ot n ty re l=>exact TS K nm ot n ty re ρ h l
theorem tX {K:Nat}{e:Tm}(h:e.kd=2\/e.kd=3)(ρ:Evq):(e.dq K ρ).at .b=some (0,(e.no:Int)):=by rw[Nc h];exact yj .b _
theorem M7 {e:Tm}(h:e.kd=2\/e.kd=3)(O:e.ok=true):0<=e.no/\e.no<=10006:=by
 cases e with
 | mk k nm ot n ty re l=>
 have J:=(Tm.ok_mk.1 O).2.1;simp only[zK,oG]at J;have I:=zw.1 J.2.2.2.2.1;have h:k=2\/k=3:=h;show 0<=n/\n<=10006;rcases h with rfl | rfl
 ·exact I
 ·have I:0<=n/\n<=1:=I;omega
theorem Xc {nm ot:ByteArray}{n:Int}{ty re:Ty}{l:List Tm}(h:(Tm.mk 4 nm ot n ty re l).ok=true):rU nm=1\/rU nm=2:=by have I:=Ki h;have J:(l.length:Int)=rU nm:=(Tm.ok_mk.1 h).2.2;omega
theorem YZ {σ τ:STy}(u:Vc σ)(f:Vc σ->Cp τ):bnd (some (0,u)) f=f u:=tk0 _
theorem KT {d:Cg}{τ:STy}(h:d.t=τ):(⟨τ,tk 1 (d.at τ)⟩:Cg)=tkQ d:=by subst h;obtain⟨t,c⟩:=d;show(⟨t,tk 1 (Cg.at ⟨t,c⟩ t)⟩:Cg)=⟨t,tk 1 c⟩;rw[yj]
theorem XS {K:Nat}{nm ot:ByteArray}{n:Int}{ty re:Ty}{l:List Tm}(J:(Tm.mk 4 nm ot n ty re l).ok=true)(I:∀ x∈l,x.kd=2\/x.kd=3)(ρ:Evq):(Tm.mk 4 nm ot n ty re l).dq K ρ=⟨.b,some (1,((zE nm (l.getD 0 tm0).no (l.getD 1 tm0).no).1:Int))⟩:=by
 have hl:=Ki J;have ha:=Xc J;have O:=(Tm.ok_mk.1 J).1;rw[dq4];rcases hl with hl | hl
 ·obtain⟨a,rfl⟩:=len1 hl;have U:=M7 (I a (by simp)) (O a (by simp));show(⟨.b,opQ nm 1 ((a.dq K ρ).at .b) _⟩:Cg)=⟨.b,some (1,((zE nm a.no 0).1:Int))⟩;rw[tX (I a (by simp))];unfold opQ;rw[if_neg (by decide)];show(⟨.b,tk 0 (if(zE nm a.no 0).2=true then some (1,(zE nm a.no 0).1)else none)⟩:Cg)=_;rw[if_pos (QW ha U ⟨by omega,by omega⟩)];rfl
 ·obtain⟨a,b,rfl⟩:=Wq hl;have U:=M7 (I a (by simp)) (O a (by simp));have Y:=M7 (I b (by simp)) (O b (by simp));show(⟨.b,opQ nm 2 ((a.dq K ρ).at .b) ((b.dq K ρ).at .b)⟩:Cg)=⟨.b,some (1,((zE nm a.no b.no).1:Int))⟩;rw[tX (I a (by simp)),tX (I b (by simp))];unfold opQ;rw[if_pos rfl];show(⟨.b,tk 0 (tk 0 (if(zE nm a.no b.no).2=true then some (1,(zE nm a.no b.no).1)else none))⟩:Cg)=_;rw[if_pos (QW ha U Y)];rfl
theorem U2 {K:Nat}{b v:Tm}{x:ByteArray}{ρ:Evq}{τ:STy}{w:Vc τ}(I:v.dq K ρ=⟨τ,some (0,w)⟩)(J:b.rd):MT (v.dq K ρ) (λd=>b.dq K (ρ.set x d))=tkQ ((b.sb x v).dq K ρ):=by
 unfold Tm.sb;rw[LU K _ b x v ρ (oC _) J,I];unfold MT;show(⟨(b.dq K (ρ.set x ⟨τ,none⟩)).t,bnd (some (0,w)) λw=>tk 1 ((b.dq K (ρ.set x ⟨τ,some (0,w)⟩)).at (b.dq K (ρ.set x ⟨τ,none⟩)).t)⟩:Cg)=_;have O:(b.dq K (ρ.set x ⟨τ,none⟩)).t=(b.dq K (ρ.set x ⟨τ,some (0,w)⟩)).t:=XV b _ _ λs=>by unfold Evq.set;split<;>rfl
 rw[YZ,O];generalize b.dq K (ρ.set x ⟨τ,some (0,w)⟩)=d;obtain⟨t,c⟩:=d;show(⟨t,tk 1 (Cg.at ⟨t,c⟩ t)⟩:Cg)=⟨t,tk 1 c⟩;rw[yj]
theorem VH {K:Nat}{b v:Tm}{x ot:ByteArray}{m:Int}{ty re:Ty}{ρ:Evq}{w:Vc ty.st}(I:v.dq K ρ=⟨ty.st,some (0,w)⟩)(J:b.rd):L2 ((Tm.mk 6 x ot m ty re [b]).dq K ρ) (v.dq K ρ)=tkQ ((b.sb x v).dq K ρ):=by
 unfold Tm.sb;rw[LU K _ b x v ρ (oC _) J,I,dq6];have O:(b.dq K (ρ.set x ⟨ty.st,none⟩)).t=(b.dq K (ρ.set x ⟨ty.st,some (0,w)⟩)).t:=XV b _ _ λs=>by unfold Evq.set;split<;>rfl
 unfold UZ;show(⟨(b.dq K (ρ.set x ⟨ty.st,none⟩)).t,tk 0 (bnd (Cg.at ⟨ty.st,some (0,w)⟩ ty.st) λw=>tk 1 ((b.dq K (ρ.set x ⟨ty.st,some (0,w)⟩)).at (b.dq K (ρ.set x ⟨ty.st,none⟩)).t))⟩:Cg)=_;rw[tk0,yj,YZ];show(⟨(b.dq K (ρ.set x ⟨ty.st,none⟩)).t,tk 1 ((b.dq K (ρ.set x ⟨ty.st,some (0,w)⟩)).at (b.dq K (ρ.set x ⟨ty.st,none⟩)).t)⟩:Cg)=_;rw[O];generalize b.dq K (ρ.set x ⟨ty.st,some (0,w)⟩)=d;obtain⟨t,c⟩:=d;show(⟨t,tk 1 (Cg.at ⟨t,c⟩ t)⟩:Cg)=⟨t,tk 1 c⟩;rw[yj]
theorem XE {e:Tm} {r:Rho} {u:Ty} (ho:e.ok=true) (hn:e.np) (h:HT r e 0 u) {ρ:Evq} (hρ:Mq r ρ) (hE:RE2 ρ ρ) (ab:∀ x∈e.as.take (vn e.kd e.as.length),x.res=true) (hz:e.apl.2≠0) (K:Nat) :
  RQ (tkQ (e.apl.1.dq K ρ)) (e.dq (K+1) ρ)/\RQ (e.dq K ρ) (tkQ (e.apl.1.dq K ρ)):=by
 have ah:=λ(z:Tm)=>FJ (mt K) z ρ ρ hE;have ai:=λ(K:Nat) (z:Tm)=>FJ (oC K) z ρ ρ hE;have aj:=YE e ho;have eq:(∀ K,e.dq K ρ=tkQ (e.apl.1.dq K ρ))->RQ (tkQ (e.apl.1.dq K ρ)) (e.dq (K+1) ρ)/\RQ (e.dq K ρ) (tkQ (e.apl.1.dq K ρ)):=λh=>⟨by rw[h (K+1)];exact OM (ah _),by rw[h K];exact OM (ai K _)⟩
 cases h with
 | var h hv=>exact absurd rfl hz
 | int=>exact absurd rfl hz
 | bool=>exact absurd rfl hz
 | @op _ nm ot m ty re l _ _ U=>
   by_cases aa:(l.all λx=>x.kd==zR nm)=true
   ·have e1:(Tm.mk 4 nm ot m ty re l).apl=(Co (w7 nm) (zE nm (l.getD 0 tm0).no (l.getD 1 tm0).no).1,1):=by show(Tm.mk 4 nm ot m ty re l).opr l=_;unfold Tm.opr;exact if_pos aa
    refine eq λK=>?_;rw[e1,XS ho λx hx=>?_]
    ·show _=tkQ ((Co (w7 nm) (zE nm (l.getD 0 tm0).no (l.getD 1 tm0).no).1).dq K ρ);rw[Nc (by unfold w7;split<;>simp[Co,Tm.kd])];rfl
    ·have:=nM.1 (oY.1 aa x hx)
     rw[this];unfold zR;split
     ·exact .inr rfl
     ·exact .inl rfl
   ·refine absurd ?_ hz;show((Tm.mk 4 nm ot m ty re l).opr l).2=0;unfold Tm.opr;rw[if_neg (show ¬(l.all λx=>x.kd==zR (Tm.mk 4 nm ot m ty re l).nm)=true from aa)]
 | @ite _ nm ot m ty re a b c _ _ _ ha hb hc=>
   by_cases hk:a.kd=3
   ·have e1:(Tm.mk 5 nm ot m ty re [a,b,c]).apl=([a,b,c].getD (2 - a.no).toNat tm0,2):=by show(if a.kd=3 then(([a,b,c].getD (2 - a.no).toNat tm0,2):Tm × Int)else(.mk 5 nm ot m ty re [a,b,c],0))=_;rw[if_pos hk]
    have aq:=BA ((Tm.ok_mk.1 ho).1 a (by simp)) hk;refine eq λK=>?_;have ec:(c.dq K ρ).t=(b.dq K ρ).t:=(BG hc ρ hρ).trans (BG hb ρ hρ).symm;rw[e1,dq5];unfold ifQ;rw[tX (.inr hk)];show(⟨(b.dq K ρ).t,tk 0 (tk 1 (if a.no=0 then(c.dq K ρ).at (b.dq K ρ).t else(b.dq K ρ).at (b.dq K ρ).t))⟩:Cg)=_;rw[tk0];rcases aq with h0 | h0
    ·rw[h0,if_pos rfl];exact KT ec
    ·rw[h0,if_neg (by decide)];exact KT rfl
   ·refine absurd ?_ hz;show(if a.kd=3 then(([a,b,c].getD (2 - a.no).toNat tm0,2):Tm × Int)else(.mk 5 nm ot m ty re [a,b,c],0)).2=0;rw[if_neg hk]
 | @lam _ nm ot m ty re b _ v _ hb hv=>exact absurd rfl hz
 | @app _ nm ot m ty re f x _ a c _ hf hx=>
   have au:∀ K,(x.dq K ρ).t=a.st:=λK=>BG hx ρ hρ;have ak:=(A1.1 aj).2;have ac:=ak f (by simp);have a7:=ak x (by simp);have aw:=(Tm.ok_mk.1 ho).1;have ax:=(sq.1 hn).2;have ay:x.res=true:=ab x (by simp[Tm.as,Tm.kd,vn]);have val:∀ K,∃ w,x.dq K ρ=⟨a.st,some (0,w)⟩:=λK=>by obtain⟨t,w,Y⟩:=Pu (K:=K) (ax x (by simp)) (aw x (by simp)) ay ρ;have h2:=au K;rw[Y]at h2;have h2:t=a.st:=h2;subst h2;exact⟨w,Y⟩
   by_cases h6:f.kd=6
   ·have e1:(Tm.mk 7 nm ot m ty re [f,x]).apl=((f.pt 0).sb f.nm x,3):=by show(if f.kd=6 then(((f.pt 0).sb f.nm x,3):Tm × Int)else if f.kd=9 then(((f.pt 0).sb f.nm f).sb f.ot x,4)else(.mk 7 nm ot m ty re [f,x],0))=_;rw[if_pos h6]
    refine eq λK=>?_;rw[e1];cases f with
    | mk k I J m2 az a6 l2=>
    have hk:k=6:=h6;subst hk;obtain⟨b,v,rfl,e,hb⟩:=Ya hf;obtain⟨rfl,rfl⟩:=De e;obtain⟨w,Y⟩:=val K;rw[dq7];exact VH Y ((A1.1 ac).2 b (by simp))
   ·by_cases h9:f.kd=9
    ·have e1:(Tm.mk 7 nm ot m ty re [f,x]).apl=(((f.pt 0).sb f.nm f).sb f.ot x,4):=by show(if f.kd=6 then(((f.pt 0).sb f.nm x,3):Tm × Int)else if f.kd=9 then(((f.pt 0).sb f.nm f).sb f.ot x,4)else(.mk 7 nm ot m ty re [f,x],0))=_;rw[if_neg h6,if_pos h9]
     rw[e1];cases f with
     | mk k I J m2 az a6 l2=>
     have hk:k=9:=h9;subst hk;obtain⟨b,rfl,e,ae,hb⟩:=ZZ hf;obtain⟨rfl,rfl⟩:=De e;have al:=(A1.1 ac).2 b (by simp);have rhs:∀ K w,x.dq K ρ=⟨a.st,some (0,w)⟩->(((b.sb I (.mk 9 I J m2 a u [b])).sb J x).dq K ρ)=b.dq K ((ρ.set J ⟨a.st,some (0,w)⟩).set I ((Tm.mk 9 I J m2 a u [b]).dq K ρ)):=λK w Y=>by unfold Tm.sb;rw[LU K _ _ J x ρ (oC _) (ID _ _ _ _ al ac),LU K _ b I _ _ (oC _) al,Y];rw[su (Tm.mk 9 I J m2 a u [b]) _ ρ λs hs=>zS _ (λe=>VJ (e ▸ hs)) _]
     have lhs:∀ K w,x.dq (K+1) ρ=⟨a.st,some (0,w)⟩->(Tm.mk 7 nm ot m ty re [Tm.mk 9 I J m2 a u [b],x]).dq (K+1) ρ=tkQ (b.dq (K+1) ((ρ.set I ⟨.fn a.st u.st,some (0,itq a.st u.st (λd e=>b.dq (K+1) ((ρ.set I d).set J e)) K)⟩).set J ⟨a.st,some (0,w)⟩)):=λK w Y=>by rw[dq7,dq9,Y];have ht:(b.dq (K+1) ((ρ.set I ⟨.fn a.st u.st,some (0,itq a.st u.st (λd e=>b.dq (K+1) ((ρ.set I d).set J e)) K)⟩).set J ⟨a.st,some (0,w)⟩)).t=u.st:=BG hb _ ((hρ.set (d:=⟨.fn a.st u.st,_⟩) rfl).set (d:=⟨a.st,_⟩) rfl);unfold T8;show(⟨u.st,tk 0 (bnd (Cg.at ⟨a.st,some (0,w)⟩ a.st) λw=>tk 1 (itq a.st u.st (λd e=>b.dq (K+1) ((ρ.set I d).set J e)) (K+1) w))⟩:Cg)=_;rw[tk0,yj,YZ];show(⟨u.st,tk 1 ((b.dq (K+1) ((ρ.set I ⟨.fn a.st u.st,some (0,itq a.st u.st (λd e=>b.dq (K+1) ((ρ.set I d).set J e)) K)⟩).set J ⟨a.st,some (0,w)⟩)).at u.st)⟩:Cg)=_;exact KT ht
     have am:∀ {K K':Nat} {w w'},K<=K'->x.dq K ρ=⟨a.st,some (0,w)⟩->x.dq K' ρ=⟨a.st,some (0,w')⟩->RQ ⟨a.st,some (0,w)⟩ ⟨a.st,some (0,w')⟩:=λ{K K' w w'} hk U h2=>by rw[<-U,<-h2];exact FJ hk x ρ ρ hE
     have fx:∀ {K1 K2 J1 J2:Nat},K1<=K2->J1<=J2->RV (.fn a.st u.st) (itq a.st u.st (λd e=>b.dq K1 ((ρ.set I d).set J e)) J1) (itq a.st u.st (λd e=>b.dq K2 ((ρ.set I d).set J e)) J2):=λ{K1 K2 J1 J2} U h2=>QJ (λf g v w hf hv=>FJ U b _ _ ((hE.set (uf hf)).set (uf hv))) h2;have env:∀ {d d' e e':Cg},RQ d d'->RQ e e'->RE2 ((ρ.set J d).set I e) ((ρ.set I e').set J d')/\RE2 ((ρ.set I e).set J d) ((ρ.set J d').set I e'):=λ{d d' e e'} hd he=>by
      refine⟨λs=>?_,λs=>?_⟩
      ·by_cases U:s=I
       ·subst U;rw[xO,zS _ ae,xO];exact he
       ·rw[zS _ U];by_cases h2:s=J
        ·subst h2;rw[xO,xO];exact hd
        ·rw[zS _ h2,zS _ h2,zS _ U];exact hE s
      ·by_cases U:s=I
       ·subst U;rw[zS _ ae,xO,xO];exact he
       ·by_cases h2:s=J
        ·subst h2;rw[xO,zS _ U,xO];exact hd
        ·rw[zS _ h2,zS _ U,zS _ U,zS _ h2];exact hE s
     constructor
     ·obtain⟨w,Y⟩:=val K;obtain⟨w',ao⟩:=val (K+1);show RQ (tkQ (((b.sb I (.mk 9 I J m2 a u [b])).sb J x).dq K ρ)) _;rw[rhs K w Y,lhs K w' ao,dq9];refine OM (FJ (mt K) b _ _ (env (am (mt K) Y ao) ?_).1);exact uf (fx (mt K) (oC K))
     ·show RQ _ (tkQ (((b.sb I (.mk 9 I J m2 a u [b])).sb J x).dq K ρ));obtain⟨w,Y⟩:=val K;cases K with
      | zero=>
        rw[rhs 0 w Y,dq7,dq9,Y];refine⟨?_,fun τ j v hj=>?_⟩
        ·show u.st=(b.dq 0 _).t;exact(BG hb _ λs m t O=>by
          by_cases U:s=J
          ·subst U;rw[zT]at O;rw[zS _ (λe=>ae e.symm),xO];split at O
           ·cases O;rfl
           ·cases O
          ·rw[zD _ U]at O;by_cases h2:s=I
           ·subst h2;rw[zT]at O;rw[xO];split at O
            ·cases O;rfl
            ·cases O
           ·rw[zD _ h2]at O;rw[zS _ h2,zS _ U];exact hρ _ _ _ O).symm
        ·exfalso;have e0:L2 (T8 0 a.st u.st λd e=>b.dq 0 ((ρ.set I d).set J e)) ⟨a.st,some (0,w)⟩=⟨u.st,none⟩:=by unfold T8;show(⟨u.st,tk 0 (bnd (Cg.at ⟨a.st,some (0,w)⟩ a.st) λw=>tk 1 (itq a.st u.st (λd e=>b.dq 0 ((ρ.set I d).set J e)) 0 w))⟩:Cg)=_;rw[tk0,yj,YZ];rfl
         rw[e0]at hj;by_cases U:u.st=τ
         ·subst U;rw[yj]at hj;cases hj
         ·rw[FT (d:=⟨u.st,none⟩) U]at hj;cases hj
      | succ K=>rw[rhs (K+1) w Y,lhs K w Y,dq9];refine OM (FJ (oC _) b _ _ (env (am (oC _) Y Y) ?_).2);exact uf (fx (oC _) (mt K))
    ·refine absurd ?_ hz;show(if f.kd=6 then(((f.pt 0).sb f.nm x,3):Tm × Int)else if f.kd=9 then(((f.pt 0).sb f.nm f).sb f.ot x,4)else(.mk 7 nm ot m ty re [f,x],0)).2=0;rw[if_neg h6,if_neg h9]
 | @lt _ nm ot m ty re a b _ t _ _ ha hb=>refine eq λK=>?_;have e1:(Tm.mk 8 nm ot m ty re [a,b]).apl=(b.sb nm a,5):=rfl;obtain⟨t0,w,Y⟩:=Pu (K:=K) ((sq.1 hn).2 a (by simp)) ((Tm.ok_mk.1 ho).1 a (by simp)) (ab a (by simp[Tm.as,Tm.kd,vn])) ρ;rw[e1,dq8];exact U2 Y ((A1.1 aj).2 b (by simp))
 | fix _ _ _=>exact absurd rfl hz
 | quote _ _=>exact absurd rfl hz
 | splice _=>exact absurd rfl hz
 | run _=>exact absurd (sq.1 hn).1 (by decide)
 | lift _ _ _=>exact absurd (sq.1 hn).1 (by decide)
theorem S0 (f x:Cg):L2 (tkQ f) x=tkQ (L2 f x):=by
 obtain⟨t,g⟩:=f;cases t with
 | b=>rfl
 | fn a c=>show(⟨c,bnd (tk 1 g) _⟩:Cg)=⟨c,tk 1 (bnd g _)⟩;rw[II]
theorem TL (f x:Cg):L2 f (tkQ x)=tkQ (L2 f x):=by
 obtain⟨t,g⟩:=f;cases t with
 | b=>rfl
 | fn a c=>show(⟨c,bnd g λf=>bnd ((tkQ x).at a) λw=>tk 1 (f w)⟩:Cg)=⟨c,tk 1 (bnd g λf=>bnd (x.at a) λw=>tk 1 (f w))⟩;rw[<-Un];congr 1;congr 1;funext f;rw[BV,II]
theorem VS (s:ByteArray)(n:Nat)(x y:Cp .b):opQ s n (tk 1 x) y=tk 1 (opQ s n x y):=by unfold opQ;split<;>exact II 1 x _
theorem WP (s:ByteArray)(x y:Cp .b):opQ s 2 x (tk 1 y)=tk 1 (opQ s 2 x y):=by unfold opQ;rw[if_pos rfl,if_pos rfl];exact Eq.trans (nV (bnd (σ:=.b) (τ:=.b) x) (funext λa=>II 1 y _)) (Un 1 x _)
theorem XA (c t e:Cg):ifQ (tkQ c) t e=tkQ (ifQ c t e):=by unfold ifQ;rw[BV];exact nV (Cg.mk t.t) (II 1 _ _)
theorem Wc (a:Cg)(F:Cg->Cg):MT (tkQ a) F=tkQ (MT a F):=by obtain⟨t,v⟩:=a;unfold MT;exact nV (Cg.mk _) (II 1 v _)
theorem Xr {K:Nat} {k:Int} {nm ot:ByteArray} {n:Int} {ty re:Ty} {c j:Nat} {g g':Nat->Evq->Cg} {ρ:Evq} (J:j<vn k c) (hc:(k=4->c=1\/c=2)/\(k=7->c=2)/\(k=8->c=2)) (U:k<10)
  (h:g' j ρ=tkQ (g j ρ)) (I:∀ i,i≠j->g' i=g i):AG K k nm ot n ty re c g' ρ=tkQ (AG K k nm ot n ty re c g ρ):=by
 unfold vn at J;have cases:(k=4/\j=0)\/(k=4/\j=1/\c=2)\/(k=5/\j=0)\/(k=7/\j=0)\/(k=7/\j=1)\/(k=8/\j=0/\c=2):=by
  split at J
  ·rename_i h;rcases h with h | h
   ·have:=hc.1 h;omega
   ·have:=hc.2.1 h;omega
  ·split at J
   ·rename_i h;have O:j=0:=by omega
    rcases h with h | h | h | h
    ·exact .inr (.inr (.inl ⟨h,O⟩))
    ·exact .inr (.inr (.inr (.inr (.inr ⟨h,O,hc.2.2 h⟩))))
    ·omega
    ·omega
   ·omega
 rcases cases with⟨rfl,rfl⟩ | ⟨rfl,rfl,rfl⟩ | ⟨rfl,rfl⟩ | ⟨rfl,rfl⟩ | ⟨rfl,rfl⟩ | ⟨rfl,rfl,rfl⟩
 ·show(⟨.b,opQ nm c ((g' 0 ρ).at .b) ((g' 1 ρ).at .b)⟩:Cg)=⟨.b,tk 1 (opQ nm c ((g 0 ρ).at .b) ((g 1 ρ).at .b))⟩;rw[h,I 1 (by decide),BV,VS]
 ·show(⟨.b,opQ nm 2 ((g' 0 ρ).at .b) ((g' 1 ρ).at .b)⟩:Cg)=⟨.b,tk 1 (opQ nm 2 ((g 0 ρ).at .b) ((g 1 ρ).at .b))⟩;rw[h,I 0 (by decide),BV,WP]
 ·show ifQ (g' 0 ρ) (g' 1 ρ) (g' 2 ρ)=tkQ (ifQ (g 0 ρ) (g 1 ρ) (g 2 ρ));rw[h,I 1 (by decide),I 2 (by decide),XA]
 ·show L2 (g' 0 ρ) (g' 1 ρ)=tkQ (L2 (g 0 ρ) (g 1 ρ));rw[h,I 1 (by decide),S0]
 ·show L2 (g' 0 ρ) (g' 1 ρ)=tkQ (L2 (g 0 ρ) (g 1 ρ));rw[h,I 0 (by decide),TL]
 ·show MT (g' 0 ρ) (λd=>g' 1 (ρ.set nm d))=tkQ (MT (g 0 ρ) (λd=>g 1 (ρ.set nm d)));rw[h,I 1 (by decide),Wc]
theorem Vy {k:Int}{nm ot:ByteArray}{m:Int}{ty re:Ty}{l:List Tm}{r:Rho}{u:Ty}(h:HT r (.mk k nm ot m ty re l) 0 u)(J:k<10){j:Nat}{x:Tm}(I:j<vn k l.length)(O:l[j]?=some x):∃ v,HT r x 0 v:=by
 cases h with
 | var h hv=>exact absurd I (by simp[vn])
 | int=>exact absurd I (by simp[vn])
 | bool=>exact absurd I (by simp[vn])
 | op h=>exact⟨_,h x (oB O)⟩
 | ite U Y hc=>
   rcases SB O with⟨rfl,rfl⟩ | ⟨rfl,rfl⟩ | ⟨rfl,rfl⟩
   ·exact⟨_,U⟩
   ·exact⟨_,Y⟩
   ·exact⟨_,hc⟩
 | lam Y hv=>exact absurd I (by simp[vn])
 | app hf hx=>
   rcases TJ O with⟨rfl,rfl⟩ | ⟨rfl,rfl⟩
   ·exact⟨_,hf⟩
   ·exact⟨_,hx⟩
 | lt U Y=>
   rcases TJ O with⟨rfl,rfl⟩ | ⟨rfl,rfl⟩
   ·exact⟨_,U⟩
   ·exact absurd I (by simp[vn])
 | fix _ _ _=>exact absurd I (by simp[vn])
 | quote _ _=>exact absurd J (by decide)
 | splice _=>exact absurd J (by decide)
 | run _=>exact absurd J (by decide)
 | lift _ _ _=>exact absurd J (by decide)
theorem X9 {e:Tm}(h:e.np):e.apl.1.np:=by
 cases e with
 | mk k nm ot n ty re l=>
 obtain⟨h1,O⟩:=sq.1 h;have I:∀ i,(l.getD i tm0).np:=λi=>by
  by_cases hi:i<l.length
  ·exact O _ (zB hi)
  ·rw[oA,oS (by omega)];exact sq.2 ⟨by decide,by simp⟩
 have J:∀(t:Tm) i,t.np->(t.pt i).np:=λt i U=>by
  cases t with
  | mk k nm ot n ty re l=>
  obtain⟨_,Y⟩:=sq.1 U;show(l.getD i tm0).np;by_cases hi:i<l.length
  ·exact Y _ (zB hi)
  ·rw[oA,oS (by omega)];exact sq.2 ⟨by decide,by simp⟩
 have sb:∀(b:Tm) (x:ByteArray) (v:Tm),b.np->v.np->(b.sb x v).np:=λb x v hb hv=>Ul _ _ _ _ hb hv;simp only[Tm.apl];split
 ·simp only[Tm.opr];split
  ·refine sq.2 ⟨?_,by simp⟩;unfold w7;split<;>decide
  ·exact h
 split
 ·split
  ·exact I _
  ·exact h
 split
 ·split
  ·exact sb _ _ _ (J _ _ (I 0)) (I 1)
  ·split
   ·exact sb _ _ _ (sb _ _ _ (J _ _ (I 0)) (I 0)) (I 1)
   ·exact h
 split
 ·exact sb _ _ _ (I 1) (I 0)
 split
 ·omega
 split
 ·omega
 ·exact h
theorem Xi {e x:Tm}(h:e.np)(J:x.np)(i:Nat):(e.wth i x).np:=by
 cases e with
 | mk k nm ot n ty re l=>
 obtain⟨O,U⟩:=sq.1 h;refine sq.2 ⟨O,λz I=>?_⟩;rcases oe I with I | rfl
 ·exact U z I
 ·exact J
theorem SQ:∀(f:Nat)(e:Tm),e.np->(e.stp f).1.np
 | 0,e,h=>h
 | f + 1,.mk k nm ot n ty re l,h=>by
   obtain⟨Y,J⟩:=sq.1 h;simp only[Tm.stp];split
   ·exact h
   ·split
    ·rename_i I;have I:k=10:=I;omega
    ·split
     ·rename_i p O;obtain⟨j,x,U,g2,rfl⟩:=sJ O;exact Xi h (SQ f x (J x (List.take_subset _ _ (oB U)))) _
     ·exact X9 h
def Zu (S:Tm->Tm × Int)(f K:Nat):Prop:=∀ e r u ρ,e.dp<=f->e.ok=true->e.np->HT r e 0 u->Mq r ρ->RE2 ρ ρ->(S e).2≠0->RQ (tkQ ((S e).1.dq K ρ)) (e.dq (K+1) ρ)/\RQ (e.dq K ρ) (tkQ ((S e).1.dq K ρ))
theorem Sl (K:Nat):∀ f,Zu (Tm.stp f) f K
 | 0,e,_,_,_,hd,_,_,_,_,_,_=>absurd (Tm.dp_pos e) (by omega)
 | f + 1,.mk k nm ot n ty re l,r,u,ρ,hd,he,hn,h,hρ,hE,O=>by
   have ih:=Sl K f;have aa:=λ(z:Tm) (σ:Evq) (hσ:RE2 σ σ)=>FJ (mt K) z σ σ hσ;have U:=λ(z:Tm) (σ:Evq) (hσ:RE2 σ σ)=>FJ (oC K) z σ σ hσ;have ai:=(Tm.ok_mk.1 he).1;have ab:=xq he;have hk:=(sq.1 hn).1;have aj:k=4->l.length=1\/l.length=2:=λe=>by subst e;exact Ki he
   have ak:∀ x∈l,x.dp<=f:=λx hx=>by
    have:=Tm.dp_mem (k:=k) (nm:=nm) (ot:=ot) (n:=n) (ty:=ty) (re:=re) hx
    omega
   simp only[Tm.stp]at O ⊢;by_cases Y:(Tm.mk k nm ot n ty re l).res=true
   ·rw[if_pos Y]at O;exact absurd rfl O
   ·have ac:¬(Tm.mk k nm ot n ty re l).kd=10:=λe=>by have e:k=10:=e;omega
    rw[if_neg Y,if_neg ac]at O ⊢;cases hg:goS (Tm.stp f) (Tm.mk k nm ot n ty re l) (l.take (vn k l.length)) 0 with
    | none=>rw[hg]at O;exact XE he hn h hρ hE (Eh.1 hg) O K
    | some p=>
      rw[hg]at O;obtain⟨j,x,g1,g2,rfl⟩:=sJ hg;obtain⟨I,J⟩:j<vn k l.length/\l[j]?=some x:=by
       rw[oc]at g1;split at g1
       ·exact⟨‹_›,g1⟩
       ·cases g1
      have hm:=oB J;have ae:l.getD j tm0=x:=by rw[oA,J];rfl
      have al:j<l.length:=(oD.1 J).1;obtain⟨v,hv⟩:=Vy h hk I J;obtain⟨iA,iB⟩:=ih x r v ρ (ak x hm) (ai x hm) ((sq.1 hn).2 x hm) hv hρ hE O;simp only[ow];have off:(j:Int)≠zN k l.length:=λe=>by
       unfold zN at e;unfold vn at I;split at e
       ·rw[if_neg (by omega),if_neg (by omega)]at I;omega
       ·split at e
        ·rw[if_neg (by omega),if_pos (by omega)]at I;omega
        ·split at e
         ·rw[if_neg (by omega),if_neg (by omega)]at I;omega
         ·omega
      show RQ (tkQ ((Tm.mk k nm ot n ty re (l.set j (x.stp f).1)).dq K ρ)) _/\RQ _ (tkQ ((Tm.mk k nm ot n ty re (l.set j (x.stp f).1)).dq K ρ));have eK:tkQ ((Tm.mk k nm ot n ty re (l.set j (x.stp f).1)).dq K ρ)=AG K k nm ot n ty re l.length (λi=>if i=j then fun σ=>tkQ ((x.stp f).1.dq K σ)else(l.getD i tm0).dq K) ρ:=by
       rw[rQ,nU];refine(Xr I ⟨aj,?_,?_⟩ hk ?_ ?_).symm
       ·intro e;exact ab.2.1 (.inl e)
       ·intro e;exact ab.2.1 (.inr e)
       ·show(if j=j then _ else _:Evq->Cg) ρ=tkQ ((((l.set j (x.stp f).1)).getD j tm0).dq K ρ);rw[if_pos rfl,oA,oi al];rfl
       ·intro i hi;show(if i=j then _ else _:Evq->Cg)=(((l.set j (x.stp f).1)).getD i tm0).dq K;rw[if_neg hi,oA,oA,om (λe=>hi e.symm)]
      have gt:∀ i σ,RE2 σ σ->i≠j->RQ ((λi=>if i=j then fun σ=>tkQ ((x.stp f).1.dq K σ)else(l.getD i tm0).dq K:Nat->Evq->Cg) i σ) ((l.getD i tm0).dq K σ):=λi σ hσ hi=>by show RQ ((if i=j then _ else _:Evq->Cg) σ) _;rw[if_neg hi];exact U _ _ hσ
      have key:∀(K1 K2:Nat) (g g':Nat->Evq->Cg),K1<=K2->(∀ i σ,RE2 σ σ->i≠j->RQ (g i σ) (g' i σ))->RQ (g j ρ) (g' j ρ)->(k=8->∀ σ τ,RE2 σ τ->RQ (g 1 σ) (g' 1 τ))->(k=6\/k=9->False)->RQ (AG K1 k nm ot n ty re l.length g ρ) (AG K2 k nm ot n ty re l.length g' ρ):=λK1 K2 g g' hK h1 h2 h3 h4=>
       Nv hK (λ_=>hE nm) (λi _=>by
        by_cases e:i=j
        ·subst e;exact h2
        ·exact h1 i ρ hE e) (λe=>absurd (.inl e) h4) (λe _=>⟨(h3 e _ _ (hE.set (M4 _))).1,λv w hv=>h3 e _ _ (hE.set (uf hv))⟩) (λe=>absurd (.inr e) h4)
      have ah:k=6\/k=9->False:=λe=>by unfold vn at I;rw[if_neg (by omega),if_neg (by omega)]at I;omega
      have j8:k=8->(1:Nat)≠j:=λe=>by unfold vn at I;rw[if_neg (by omega),if_pos (by omega)]at I;omega
      rw[eK,rQ,rQ];refine⟨key _ _ _ _ (mt K) (λi σ hσ hi=>?_) ?_ (λe σ τ hσ=>?_) ah,key _ _ _ _ (oC K) (λi σ hσ hi=>?_) ?_ (λe σ τ hσ=>?_) ah⟩
      ·show RQ ((if i=j then _ else _:Evq->Cg) σ) _;rw[if_neg hi];exact aa _ _ hσ
      ·show RQ ((if j=j then _ else _:Evq->Cg) ρ) ((l.getD j tm0).dq (K+1) ρ);rw[if_pos rfl,ae];exact iA
      ·show RQ ((if 1=j then _ else _:Evq->Cg) σ) _;rw[if_neg (j8 e)];exact FJ (mt K) _ _ _ hσ
      ·show RQ _ ((if i=j then _ else _:Evq->Cg) σ);rw[if_neg hi];exact U _ _ hσ
      ·show RQ ((l.getD j tm0).dq K ρ) ((if j=j then _ else _:Evq->Cg) ρ);rw[if_pos rfl,ae];exact iB
      ·show RQ _ ((if 1=j then _ else _:Evq->Cg) τ);rw[if_neg (j8 e)];exact FJ (oC K) _ _ _ hσ
theorem YD {d:Cg}{v:Int}{j:Nat}(h:(tkQ d).at .b=some (j,(v:Int))):∃ i,j=i+1/\d.at .b=some (i,(v:Int)):=by
 rw[BV]at h;generalize d.at .b=c at h ⊢;cases c with
 | none=>cases h
 | some p=>obtain⟨i,w⟩:=p;cases h;exact⟨i,rfl,rfl⟩
theorem XB {d:Cg}{v:Int}{j:Nat}(h:d.at .b=some (j,(v:Int))):(tkQ d).at .b=some (j+1,(v:Int)):=by rw[BV,h];rfl
theorem Ye {d e:Cg}(h:RQ d e){v:Int}{j:Nat}(hd:d.at .b=some (j,(v:Int))):∃ i,i<=j/\e.at .b=some (i,(v:Int)):=by obtain⟨i,w,J,O,I⟩:=h.2 .b j v hd;have I:v=w:=I;subst I;exact⟨i,O,J⟩
theorem Y8 {u:Ty}{r:Rho}{ρ:Evq}(hr:Lv r)(hρ:Mq r ρ)(hE:RE2 ρ ρ):∀(m n:Nat)(x:Tm),x.ok=true->x.np->HT r x 0 u->(sx m n x).1.1=1->((sx m n x).1.2.1.kd=2\/(sx m n x).1.2.1.kd=3)->∀ K,m<=K->∃ j,n+j<=(sx m n x).1.2.2/\(x.dq K ρ).at .b=some (j,((sx m n x).1.2.1.no:Int)):=by
 intro m
 induction m with
 | zero=>
   intro n x J U h hd I K _;simp only[sx]at hd I ⊢;by_cases hs:x.sz>400
   ·rw[if_pos hs]at hd;cases hd
   ·rw[if_neg hs]at hd I ⊢;by_cases O:x.res=true
    ·rw[if_pos O]at I ⊢;exact⟨0,oC _,tX I ρ⟩
    ·rw[if_neg O]at hd;cases hd
 | succ m ih=>
   intro n x J U h hd I K hK;obtain⟨K,rfl⟩:∃ K',K=K'+1:=⟨K - 1,by omega⟩
   simp only[sx]at hd I ⊢;by_cases hs:x.sz>400
   ·rw[if_pos hs]at hd;cases hd
   ·rw[if_neg hs]at hd I ⊢;by_cases O:x.res=true
    ·rw[if_pos O]at I ⊢;exact⟨0,oC _,tX I ρ⟩
    ·rw[if_neg O]at hd I ⊢;by_cases Y:(x.stp x.dp).2=0
     ·rw[if_pos Y]at hd;cases hd
     ·rw[if_neg Y]at hd I ⊢;have aa:=SM m (n+1) (x.stp x.dp).1 (by rw[show(sx m (n+1) (x.stp x.dp).1).1.1=1 from hd];decide);have ab:=FV _ x (oC _) J aa;have ac:=Oe _ x r u (oC _) J h hr;obtain⟨j,hj,h1⟩:=ih (n+1) _ ab (SQ _ _ U) ac hd I K (by omega);obtain⟨h2,_⟩:=Sl K _ x r u ρ (oC _) J U h hρ hE Y;obtain⟨i,hi,h3⟩:=Ye h2 (XB h1);exact⟨i,by show n+i<=(sx m (n+1) (x.stp x.dp).1).1.2.2;omega,h3⟩
theorem Yf {u:Ty} {r:Rho} {ρ:Evq} (hr:Lv r) (hρ:Mq r ρ) (hE:RE2 ρ ρ) (hu:u=tInt\/u=tBool) (K:Nat):∀(m n:Nat) (x:Tm),(x.sz<=400->x.ok=true)->x.np->HT r x 0 u->∀(j:Nat) (v:Int),(x.dq K ρ).at .b=some (j,(v:Int))->j<=m ->
  (sx m n x).1.1=3\/((sx m n x).1.1=1/\(sx m n x).1.2.1.ok=true/\((u=tInt->(sx m n x).1.2.1.kd=2)/\(u=tBool->(sx m n x).1.2.1.kd=3))/\(sx m n x).1.2.1.no=v/\(sx m n x).1.2.2<=n+j):=by
 intro m
 induction m with
 | zero=>
   intro n x J Y h j v O hm;rw[A7];by_cases hs:x.sz>400
   ·rw[if_pos hs];exact .inl rfl
   ·rw[if_neg hs];have ok:=J (by omega);by_cases I:x.res=true
    ·rw[if_pos I];obtain⟨c1,U,_,_⟩:=uc h I;have hl:x.kd=2\/x.kd=3:=hu.imp c1 U;rw[tX hl]at O;exact .inr ⟨rfl,ok,⟨c1,U⟩,by cases O;rfl,by show n<=n+j;omega⟩
    ·exfalso;have hz:=RY _ x r u (oC _) ok (NZ h ok) h hr (by simpa using I);obtain⟨_,h2⟩:=Sl K _ x r u ρ (oC _) ok Y h hρ hE hz;obtain⟨i,hi,h3⟩:=Ye h2 O;obtain⟨i',h4,_⟩:=YD h3;omega
 | succ m ih=>
   intro n x J Y h j v O hm;simp only[sx];by_cases hs:x.sz>400
   ·rw[if_pos hs];exact .inl rfl
   ·rw[if_neg hs];have ok:=J (by omega);by_cases I:x.res=true
    ·rw[if_pos I];obtain⟨c1,U,_,_⟩:=uc h I;have hl:x.kd=2\/x.kd=3:=hu.imp c1 U;rw[tX hl]at O;exact .inr ⟨rfl,ok,⟨c1,U⟩,by cases O;rfl,by show n<=n+j;omega⟩
    ·rw[if_neg I];have hz:=RY _ x r u (oC _) ok (NZ h ok) h hr (by simpa using I);rw[if_neg hz];obtain⟨_,h2⟩:=Sl K _ x r u ρ (oC _) ok Y h hρ hE hz;obtain⟨i,hi,h3⟩:=Ye h2 O;obtain⟨i',h4,h5⟩:=YD h3;rcases ih (n+1) _ (λaa=>FV _ x (oC _) ok aa) (SQ _ _ Y) (Oe _ x r u (oC _) ok h hr) i' v h5 (by omega)with h6 | ⟨h6,h7,h8,h9,ab⟩
     ·exact .inl h6
     ·refine .inr ⟨h6,h7,h8,h9,?_⟩;show(sx m (n+1) (x.stp x.dp).1).1.2.2<=n+j;omega
theorem NT {t:Ty}(h:t.zero=true):t=.mk 0 []:=by
 cases t with
 | mk k l=>
 simp only[Ty.zero,Ty.k,Ty.as,oG,nM]at h;have:l=[]:=oM (by omega);rw[this,h.1]
theorem U3 {e:Tm}(h:e.ok=true)(J:e.kd=1):e=xk e.nm:=by
 cases e with
 | mk k nm ot n ty re l=>
 have J:k=1:=J;subst J;obtain⟨_,I,h3⟩:=Tm.ok_mk.1 h;have U:=(xq h).2.2.2.1 (.inl rfl);simp only[zK,oG,nI]at I;have e1:=NT (I.2.1.resolve_left (by decide));have Y:=NT (I.2.2.2.1.resolve_left (by decide));have hn:=zw.1 I.2.2.2.2.1;have aa:n<=0:=hn.2;have O:=I.2.2.2.2.2;unfold xY at O;rw[if_neg (by decide),if_pos (by simp),oG,o9]at O;rw[e1,Y,O.2,oM U,show n=0 by omega];rfl
theorem Ud {e:Tm}(h:e.ok=true)(I:e.kd=2\/e.kd=3):e=Co e.kd e.no:=by
 cases e with
 | mk k nm ot n ty re l=>
 have I:k=2\/k=3:=I;obtain⟨_,J,h3⟩:=Tm.ok_mk.1 h;have U:=(xq h).2.2.2.1 (.inr I);simp only[zK,oG,nI]at J;have e1:=NT (J.2.1.resolve_left (by rcases I with rfl | rfl<;>decide));have Y:=NT (J.2.2.2.1.resolve_left (by rcases I with rfl | rfl<;>decide));have O:=J.2.2.2.2.2;unfold xY at O;rw[if_neg (by omega),if_neg (by omega),if_neg (by omega),oG,o9,o9]at O;rw[e1,Y,O.1,O.2,oM U];rfl
theorem Fo {e:Tm}(h:e.atm=true):e.kd=1\/e.kd=2\/e.kd=3:=by simp only[Tm.atm,nI,nM]at h;omega
theorem RU {v:Tm}{r:Rho}{t:Ty}(I:v.ok=true)(J:v.atm=true)(h:HT r v 0 t):PutOk v r 0 t:=by
 rcases Fo J with h1 | h1
 ·have e:=U3 I h1;refine .inr ⟨v.nm,e,?_⟩;rw[e]at h;cases h with
  | var O _=>exact O
 ·exact Fl h (by unfold Tm.res HX;rcases h1 with h1 | h1<;>rw[h1]<;>rfl)
theorem Xn:∀ t:Tm,t.wk->t.np:=by refine Tm.ind λk nm ot n ty re l J h=>?_;exact sq.2 ⟨h.1.lt,λx I=>J x I (zU.1 h.2 x I)⟩
structure Sv (x e:Tm):Prop where
 f:∀ s∈x.fv,s∈e.fv
 b:x.bd<=e.bd
theorem Sv.rfl {e:Tm}:Sv e e:=⟨λ_ h=>h,oC _⟩
theorem Sv.trans {a b c:Tm}(h:Sv a b)(I:Sv b c):Sv a c:=⟨λs hs=>I.f s (h.f s hs),oL h.b I.b⟩
theorem Sv.m {x e:Tm}(h:Sv x e):x.fv.length+x.bd<=e.fv.length+e.bd:=by
 have:=DL x.fv_nodup h.f
 have:=h.b
 omega
theorem Jo {k:Int}(I:k≠1){nm ot:ByteArray}{n:Int}{ty re:Ty}{l:List Tm}{i:Nat}(hi:i<l.length)(J:∀ s∈(l.getD i tm0).fv,s∉bdN k nm ot l.length\/(i:Int)≠zN k l.length):Sv (l.getD i tm0) (.mk k nm ot n ty re l):=by
 refine⟨λs hs=>?_,?_⟩
 ·rcases J s hs with h | h
  ·exact AH I (zH hi) hs h
  ·exact VG I (zH hi) hs h
 ·have:=xU (zB hi)
  simp only[Tm.bd];omega
theorem Uo {v:Tm}(J:v.wk)(O:v.atm=true):v.bd=0:=by
 have:=Fo O
 cases v with
 | mk k nm ot n ty re l=>
 have I:k=1\/k=2\/k=3:=this;have U:l=[]:=oM (J.1.ar.2.2.2.2.1 I);subst U;rcases I with rfl | rfl | rfl<;>rfl
theorem So {n:Int}{nm ot:ByteArray}{ty re:Ty}{l:List Tm}(h:(Tm.mk 4 nm ot n ty re l).wk):Sv (Ax (.mk 4 nm ot n ty re l) nm l) (.mk 4 nm ot n ty re l):=by
 have I:∀ i,i<l.length->Sv (l.getD i tm0) (.mk 4 nm ot n ty re l):=λi hi=>Jo (by decide) hi λs _=>.inr (by
  have:zN 4 l.length = -1:=by simp[zN]
  omega)
 have U:=(h.1.ar.2.2.2.2.2 rfl)
 unfold Ax;split
 ·unfold Hu at *;split
  ·refine⟨λs hs=>?_,?_⟩
   ·have:=A8 nm
    exfalso;revert hs;simp[Co,Tm.fv,tB];intro e;omega
   ·have:(Co (w7 nm) (zE nm (l.getD 0 tm0).no (l.getD 1 tm0).no).1).bd=0:=by rcases A8 nm with e | e<;>rw[e]<;>rfl
    simp only;omega
  ·rename_i O J;rw[if_neg J]at O;simp at O
 ·split
  ·rename_i J;refine I 1 ?_;have:rU nm=2:=by rcases J with⟨rfl,_⟩ | ⟨rfl,_⟩<;>decide +kernel
   omega
  ·split
   ·rename_i J;refine I 0 ?_;have:rU nm=2:=by rcases J with⟨rfl,_⟩ | ⟨rfl,_⟩ | ⟨rfl,_⟩<;>decide +kernel
    omega
   ·exact Sv.rfl
theorem WD:∀ {e:Tm},e.wk->Sv (L4 e) e
 | .mk k nm ot n ty re l,h=>by
   have Y:=zU.1 h.2;obtain⟨a0,a1,a2,a3,_⟩:=h.1.ar;have off:k≠6/\k≠8/\k≠9->k≠1->∀ i,i<l.length->Sv (l.getD i tm0) (.mk k nm ot n ty re l):=λI h1 i hi=>Jo h1 hi λs _=>.inr (by
    have:zN k l.length = -1:=by unfold zN;rw[if_neg (by omega),if_neg (by omega),if_neg (by omega)]
    omega)
   simp only[L4];split
   ·rename_i I;subst I;exact So h
   split
   ·rename_i I;have hl:=a3 I;split
    ·rename_i h3;have hw:=Y _ (zB (l:=l) (i:=0) (by omega));have hn:(l.getD 0 tm0).no=0\/(l.getD 0 tm0).no=1:=by
      generalize l.getD 0 tm0=p at h3 hw ⊢;cases p with
      | mk pk pn po pm pt pr pl=>exact hw.1.b h3
     exact off (by omega) (by omega) _ (by omega)
    ·exact Sv.rfl
   split
   ·rename_i I;have hl:=a2 (.inl I);split
    ·rename_i J;obtain⟨J,ha⟩:=J;have O:=off (by omega) (by omega) 0 (by omega);have q1:=off (by omega) (by omega) 1 (by omega);have w0:=Y _ (zB (l:=l) (i:=0) (by omega));have w1:=Y _ (zB (l:=l) (i:=1) (by omega));generalize l.getD 0 tm0=p at J O w0 ⊢;generalize l.getD 1 tm0=q at ha q1 w1 ⊢;cases p with
     | mk pk pn po pm pt pr pl=>
     have J:pk=6:=J;subst J;have aa:=w0.1.ar.2.1 (.inl rfl);simp only[Tm.pt,Tm.nm];have b1:=Vd (e:=pl.getD 0 tm0) (b:=q) (x:=pn);have b2:=Uo w1 ha;have b3:=xU (zB (l:=pl) (i:=0) (by omega));have b4:=O.b;simp only[Tm.bd]at b4;refine⟨λs hs=>?_,by simp only[Tm.bd];omega⟩;rcases YV hs with⟨c1,c2⟩ | ⟨c1,_⟩
     ·refine O.f s (AH (by decide) (zH (by omega)) c1 ?_);rw[aa];simp[bdN,c2]
     ·exact q1.f s c1
    ·exact Sv.rfl
   split
   ·rename_i I;have hl:=a2 (.inr I);have ab:zN k l.length=1:=by unfold zN;rw[if_neg (by omega),if_pos ⟨I,hl⟩]
    have O:Sv (l.getD 0 tm0) (.mk k nm ot n ty re l):=Jo (by omega) (by omega) λs _=>.inr (by rw[ab];decide);have w0:=Y _ (zB (l:=l) (i:=0) (by omega));have b3:=xU (zB (l:=l) (i:=1) (by omega));have U:∀ s,s≠nm->s∉bdN k nm ot l.length:=λs hs=>by subst I;rw[hl];simp[bdN,hs]
    split
    ·rename_i ha;have b1:=Vd (e:=l.getD 1 tm0) (b:=l.getD 0 tm0) (x:=nm);have b2:=Uo w0 ha;refine⟨λs hs=>?_,by simp only[Tm.bd];omega⟩;rcases YV hs with⟨c1,c2⟩ | ⟨c1,_⟩
     ·exact AH (by omega) (zH (by omega)) c1 (U s c2)
     ·exact O.f s c1
    ·split
     ·rename_i hq;exact Jo (by omega) (by omega) λs hs=>.inl (U s λe=>hq.2 (e ▸ hs))
     ·exact Sv.rfl
   ·exact Sv.rfl
theorem Xh {k:Int}{nm ot:ByteArray}{n:Int}{ty re:Ty}{l:List Tm}{F:Tm->Tm}(h:∀ x∈l,Sv (F x) x):Sv (.mk k nm ot n ty re (l.map F)) (.mk k nm ot n ty re l):=by
 refine⟨λs hs=>?_,?_⟩
 ·rcases Tm.fv_mem.1 hs with⟨U,h2⟩ | ⟨U,j,x,O,I⟩
  ·exact Tm.fv_mem.2 (.inl ⟨U,h2⟩)
  ·rw[oE]at O;cases J:l[j]? with
   | none=>rw[J]at O;cases O
   | some y=>
     rw[J]at O;cases O;rw[oW]at I;refine Tm.fv_mem.2 (.inr ⟨U,j,y,J,?_⟩);have Y:=(h y (oB J)).f;unfold fvI at I ⊢;split
     ·rename_i e;rw[if_pos e]at I;obtain⟨c1,c2⟩:=yD.1 I;exact yD.2 ⟨Y s c1,c2⟩
     ·rename_i e;rw[if_neg e]at I;exact Y s I
 ·simp only[Tm.bd];have:tq (l.map F)<=tq l:=pZ.2 λx I=>by obtain⟨y,J,rfl⟩:=oP.1 I;exact oL (h y J).b (xU J)
  omega
theorem XI:∀ t:Tm,t.wk->Sv t.sim t:=by
 refine Tm.ind λk nm ot n ty re l O h=>?_;have J:=zU.1 h.2;have U:(Tm.mk k nm ot n ty re (u4 l)).wk:=by refine⟨by rw[zZ,oW];exact h.1,zU.2 λx I=>?_⟩;rw[zZ]at I;obtain⟨z,Y,rfl⟩:=oP.1 I;exact(Gf z (J z Y)).2
 simp only[Tm.sim];refine(WD U).trans ?_;rw[zZ];exact Xh λx I=>O x I (J x I)
theorem Wd {e:Tm}(U:e.ok=true)(hw:e.wk)(hm:e.fv.length+e.bd<=331):(L4 e).ok=true:=by
 have I:=Wb U hm;cases e with
 | mk k nm ot n ty re l=>
 obtain⟨Y,h2,J⟩:=Tm.ok_mk.1 U;obtain⟨a1,a2,a3,a4,a5⟩:=xq U;have g:∀ i,i<l.length->(l.getD i tm0).ok=true:=λi hi=>Y _ (zB hi);simp only[L4];simp only[Tm.apl]at I;split
 ·rename_i O;rw[if_pos O]at I;unfold Ax;have h2:=Xc (by subst O;exact U);have hl:=a5 O;split
  ·rename_i Y;unfold Hu at Y ⊢;unfold Tm.opr at I;split
   ·rename_i J;rw[if_pos (show(l.all λx=>x.kd==zR (Tm.mk k nm ot n ty re l).nm)=true from J)]at I;exact I
   ·rename_i J;rw[if_neg J]at Y;simp at Y
  ·split
   ·rename_i J;have:rU nm=2:=by rcases J with⟨rfl,_⟩ | ⟨rfl,_⟩<;>decide +kernel
    exact g 1 (by omega)
   ·split
    ·rename_i J;have:rU nm=2:=by rcases J with⟨rfl,_⟩ | ⟨rfl,_⟩ | ⟨rfl,_⟩<;>decide +kernel
     exact g 0 (by omega)
    ·exact U
 rename_i aa;rw[if_neg aa]at I;split
 ·rename_i O;rw[if_pos O]at I;split
  ·rename_i J;rw[if_pos J]at I;exact I
  ·exact U
 rename_i ab;rw[if_neg ab]at I;split
 ·rename_i O;rw[if_pos O]at I;split
  ·rename_i h6;rw[if_pos h6.1]at I;exact I
  ·exact U
 rename_i ac;rw[if_neg ac]at I;split
 ·rename_i O;rw[if_pos O]at I
  have:=a2 (.inr O)
  split
  ·exact I
  ·split
   ·exact g 1 (by omega)
   ·exact U
 ·exact U
theorem MN {k:Int}{nm ot:ByteArray}{n:Int}{ty re:Ty}{l:List Tm}(h:(Tm.mk k nm ot n ty re l).ok=true)(hs:∀ x∈l,x.sim.ok=true):(Tm.mk k nm ot n ty re (u4 l)).ok=true:=by obtain⟨Y,J,O⟩:=Tm.ok_mk.1 h;refine Tm.ok_mk.2 ⟨λx I=>?_,J,by rw[zZ,oW];exact O⟩;rw[zZ]at I;obtain⟨z,U,rfl⟩:=oP.1 I;exact hs z U
theorem WA {k:Int}{nm ot:ByteArray}{n:Int}{ty re:Ty}{l:List Tm}(h:(Tm.mk k nm ot n ty re l).wk):(Tm.mk k nm ot n ty re (u4 l)).wk:=by refine⟨by rw[zZ,oW];exact h.1,zU.2 λx I=>?_⟩;rw[zZ]at I;obtain⟨z,J,rfl⟩:=oP.1 I;exact(Gf z (zU.1 h.2 z J)).2
theorem Vg {k:Int}{nm ot:ByteArray}{n:Int}{ty re:Ty}{l:List Tm}(h:(Tm.mk k nm ot n ty re l).wk):Sv (Tm.mk k nm ot n ty re (u4 l)) (Tm.mk k nm ot n ty re l):=by rw[zZ];exact Xh λx I=>XI x (zU.1 h.2 x I)
theorem QM:∀ t:Tm,t.ok=true->t.wk->t.fv.length+t.bd<=331->t.sim.ok=true:=by
 refine Tm.ind λk nm ot n ty re l Y h J U=>?_;have hp:=zU.1 J.2;by_cases O:k=1
 ·have hl:l=[]:=oM ((xq h).2.2.2.1 (.inl O));subst hl O;exact h
 ·refine Wd (MN h λx I=>Y x I ((Tm.ok_mk.1 h).1 x I) (hp x I) ?_) (WA J) (oL (Vg J).m U);exact oL (Ah O I).2 U
theorem Qr {e:Tm} {r:Rho} {u:Ty} (Y:e.ok=true) (h:HT r e 0 u):HT r (L4 e) 0 u:=by
 cases h with
 | var h hv=>exact .var h hv
 | int=>exact .int
 | bool=>exact .bool
 | @op _ nm ot m ty re l _ _ I=>
   have hl:=Ki Y;have aa:=(xq Y).2.2.2.2 rfl;show HT r (Ax (Tm.mk 4 nm ot m ty re l) nm l) 0 _;unfold Ax;split
   ·rename_i J;unfold Hu at J ⊢;split
    ·show HT r (Co (w7 nm) _) 0 (vv nm);have key:(w7 nm=2/\vv nm=tInt)\/(w7 nm=3/\vv nm=tBool):=by
      unfold w7 DE vv;by_cases e1:nm=bytes [43]
      ·simp[e1]
      ·by_cases U:nm=bytes [45]
       ·simp[e1,U]
       ·by_cases e3:nm=bytes [42]
        ·simp[e1,U,e3]
        ·simp[e1,U,e3]
     rcases key with⟨e1,U⟩ | ⟨e1,U⟩
     ·rw[e1,U];exact .int
     ·rw[e1,U];exact .bool
    ·rename_i h4;rw[if_neg h4]at J;simp at J
   ·have num:(nm=bytes [43]\/nm=bytes [42]\/nm=bytes [45])->∀ i,i<2->HT r (l.getD i tm0) 0 (vv nm):=λhn i hi=>by
     have ar:rU nm=2:=by rcases hn with rfl | rfl | rfl<;>decide +kernel
     have e0:Fh nm=1:=by rcases hn with rfl | rfl | rfl<;>decide +kernel
     have U:vv nm=tInt:=by
      unfold vv;rcases hn with rfl | rfl | rfl
      ·rw[if_pos rfl]
      ·rw[if_neg (by decide +kernel),if_neg (by decide +kernel),if_pos rfl]
      ·rw[if_neg (by decide +kernel),if_pos rfl]
     have e1:(if Fh nm=1 then tInt else tBool)=vv nm:=by rw[if_pos e0,U]
     rw[<-e1];exact I _ (zB (by omega))
    split
    ·rename_i J;exact num (by rcases J with⟨h,_⟩ | ⟨h,_⟩<;>simp[h]) 1 (by decide)
    ·split
     ·rename_i J;exact num (by rcases J with⟨h,_⟩ | ⟨h,_⟩ | ⟨h,_⟩<;>simp[h]) 0 (by decide)
     ·exact .op I
 | @ite _ nm ot m ty re a b c _ _ _ ha O hc=>
   show HT r (if a.kd=3 then [a,b,c].getD (2 - a.no).toNat tm0 else .mk 5 nm ot m ty re [a,b,c]) 0 u;split
   ·rename_i hk;rcases BA ((Tm.ok_mk.1 Y).1 a (by simp)) hk with h0 | h0
    ·rw[h0];exact hc
    ·rw[h0];exact O
   ·exact .ite ha O hc
 | lam O hv=>exact .lam O hv
 | @app _ nm ot m ty re f x _ a c _ hf hx=>
   show HT r (if f.kd=6/\x.atm=true then(f.pt 0).sb f.nm x else .mk 7 nm ot m ty re [f,x]) 0 u;split
   ·rename_i h6;cases f with
    | mk k ab ac m2 ae ah l2=>
    have hk:k=6:=h6.1;subst hk;obtain⟨b,v,rfl,e,O⟩:=Ya hf;obtain⟨rfl,rfl⟩:=De e;exact Xl O (RU ((Tm.ok_mk.1 Y).1 x (by simp)) h6.2 hx)
   ·exact .app hf hx
 | @lt _ nm ot m ty re a b _ t _ _ ha O=>
   show HT r (if a.atm=true then b.sb nm a else if a.qui=true/\nm∉b.fv then b else .mk 8 nm ot m ty re [a,b]) 0 u;split
   ·rename_i I;exact Xl O (RU ((Tm.ok_mk.1 Y).1 a (by simp)) I ha)
   ·split
    ·rename_i I;exact DM O r λs hs m=>zD r (λe=>I.2 (by rw[<-e];exact hs)) _ _ _
    ·exact .lt ha O
 | fix I h2 J=>exact .fix I h2 J
 | quote I h2=>exact .quote I h2
 | splice I=>exact .splice I
 | run I=>exact .run I
 | lift I h2 J=>exact .lift I h2 J
theorem W2 (a:Tm):u4 [a]=[a.sim]:=rfl
theorem XO (a b:Tm):u4 [a,b]=[a.sim,b.sim]:=rfl
theorem ZU (a b c:Tm):u4 [a,b,c]=[a.sim,b.sim,c.sim]:=rfl
theorem Ur:∀(t:Tm),t.ok=true->t.wk->t.fv.length+t.bd<=331->∀(r:Rho)(u:Ty),HT r t 0 u->HT r t.sim 0 u:=by
 refine Tm.ind λk nm ot n ty re l ih he hw hm r u h=>?_;have hp:=zU.1 hw.2;have h1:=(Tm.ok_mk.1 he).1;have U:k<10:=hw.1.lt;have g0:k≠1->∀ x∈l,∀ r u,HT r x 0 u->HT r x.sim 0 u:=λU x I=>ih x I (h1 x I) (hp x I) (oL (Ah U I).2 hm);by_cases J:k=1
 ·subst J;have hl:l=[]:=oM ((xq he).2.2.2.1 (.inl rfl));subst hl;exact h
 refine Qr (MN he λx I=>QM x (h1 x I) (hp x I) (oL (Ah J I).2 hm)) ?_;have go:=g0 J;clear g0;cases h with
 | var h Y=>exact absurd rfl J
 | int=>exact .int
 | bool=>exact .bool
 | op h=>refine .op λx I=>?_;rw[zZ]at I;obtain⟨z,hz,rfl⟩:=oP.1 I;exact go z hz _ _ (h z hz)
 | ite ha O hc=>exact .ite (go _ (by simp) _ _ ha) (go _ (by simp) _ _ O) (go _ (by simp) _ _ hc)
 | lam O Y=>exact .lam (go _ (by simp) _ _ O) Y
 | app hf I=>exact .app (go _ (by simp) _ _ hf) (go _ (by simp) _ _ I)
 | lt ha O=>exact .lt (go _ (by simp) _ _ ha) (go _ (by simp) _ _ O)
 | fix hn O Y=>exact .fix hn (go _ (by simp) _ _ O) Y
 | quote _ _=>exact absurd U (by decide)
 | splice _=>exact absurd U (by decide)
 | run _=>exact absurd U (by decide)
 | lift _ _ _=>exact absurd U (by decide)
def QV (d e:Cg):Prop:=∀ τ j u,d.at τ=some (j,u)->∃ I,I<=j/\e.at τ=some (I,u)
theorem QV.rfl {d:Cg}:QV d d:=λ_ j _ h=>⟨j,oC _,h⟩
theorem Yr {d e f:Cg}(h:RQ d e)(J:QV e f)(O:e.t=f.t):RQ d f:=⟨h.1.trans O,fun τ j u U=>by obtain⟨Y,I,h3,h4,h5⟩:=h.2 τ j u U;obtain⟨j2,h6,h7⟩:=J τ Y I h3;exact⟨j2,I,h7,by omega,h5⟩⟩
theorem Te (d:Cg):QV (tkQ d) d:=fun τ j u h=>by
 rw[BV]at h;generalize d.at τ=c at h ⊢;cases c with
 | none=>cases h
 | some p=>obtain⟨i,w⟩:=p;cases h;exact⟨i,by omega,rfl⟩
theorem O7 {σ:STy}{c:Cp σ}{d:Cg}(h:∀ j u,c=some (j,u)->∃ J,J<=j/\d.at σ=some (J,u)):QV ⟨σ,c⟩ d:=fun τ j u I=>by
 by_cases e:σ=τ
 ·subst e;rw[yj]at I;exact h j u I
 ·rw[FT (d:=⟨σ,c⟩) e]at I;cases I
def Vl (σ:Evq):Prop:=∀ s,(∃ τ w,σ s=⟨τ,some (0,w)⟩)\/∃ τ,σ s=⟨τ,none⟩
theorem Vl.set {σ:Evq}(h:Vl σ){x:ByteArray}{τ:STy}{w:Vc τ}:Vl (σ.set x ⟨τ,some (0,w)⟩):=λs=>by
 unfold Evq.set;split
 ·exact .inl ⟨_,_,rfl⟩
 ·exact h s
theorem Q8 {K:Nat}{v:Tm}(I:v.ok=true)(J:v.atm=true){σ:Evq}(h:Vl σ):(∃ τ w,v.dq K σ=⟨τ,some (0,w)⟩)\/∃ τ,v.dq K σ=⟨τ,none⟩:=by
 rcases Fo J with h1 | h1
 ·rw[U3 I h1];unfold xk;rw[dq1];exact h _
 ·exact .inl ⟨_,_,Nc h1 σ⟩
theorem YF {s:ByteArray}{a b:Int}(h:(zE s a b).2=true):(0<=a/\a<=10006)/\(0<=b/\b<=10006):=by
 unfold zE at h;by_cases I:inB a 0 10006=true
 ·by_cases J:inB b 0 10006=true
  ·exact⟨zw.1 I,zw.1 J⟩
  ·rw[if_pos I,if_neg J]at h;cases h
 ·rw[if_neg I]at h;cases h
theorem YL {s:ByteArray}{m w:Int}(hs:(s=bytes [43]/\m=0)\/(s=bytes [42]/\m=1))(h:(zE s m w).2=true):(zE s m w).1=w:=by
 obtain⟨I,J⟩:=YF h;unfold zE;rw[if_pos (zw.2 I),if_pos (zw.2 J)];rcases hs with⟨rfl,rfl⟩ | ⟨rfl,rfl⟩
 ·rw[if_pos rfl];show red (0+w)=w;unfold red;omega
 ·rw[if_neg (by decide +kernel),if_neg (by decide +kernel),if_pos rfl];show red (1*w)=w;unfold red;omega
theorem XD {s:ByteArray}{m w:Int}(hs:(s=bytes [43]/\m=0)\/(s=bytes [42]/\m=1)\/(s=bytes [45]/\m=0))(h:(zE s w m).2=true):(zE s w m).1=w:=by
 obtain⟨I,J⟩:=YF h;unfold zE;rw[if_pos (zw.2 I),if_pos (zw.2 J)];rcases hs with⟨rfl,rfl⟩ | ⟨rfl,rfl⟩ | ⟨rfl,rfl⟩
 ·rw[if_pos rfl];show red (w+0)=w;unfold red;omega
 ·rw[if_neg (by decide +kernel),if_neg (by decide +kernel),if_pos rfl];show red (w*1)=w;unfold red;omega
 ·rw[if_neg (by decide +kernel),if_pos rfl];show red (w - 0)=w;unfold red;omega
theorem sj {t:Tm}{n:Int}(h:t.isI n=true):(t.kd=2\/t.kd=3)/\t.no=n:=by simp only[Tm.isI,oG,nM]at h;exact⟨.inl h.1,h.2⟩
theorem ZY {s:ByteArray}{m:Int}(hs:(s=bytes [43]/\m=0)\/(s=bytes [42]/\m=1))(y:Cp .b)(j:Nat)(u:Vc .b)(h:opQ s 2 (some (0,(m:Int))) y=some (j,u)):∃ J,J<=j/\y=some (J,u):=by
 unfold opQ at h;rw[if_pos rfl]at h;cases y with
 | none=>cases h
 | some p=>
   obtain⟨i,w⟩:=p;have h:tk (τ:=.b) 0 (tk (τ:=.b) i (if(zE s m w).2=true then some (1,(zE s m w).1)else none))=(some (j,u):Cp .b):=h;by_cases I:(zE s m w).2=true
   ·rw[if_pos I]at h;have h:(some (1+i+0,(zE s m w).1):Cp .b)=some (j,u):=h;rw[YL hs I]at h;cases h;exact⟨i,by omega,rfl⟩
   ·rw[if_neg I]at h;cases h
theorem ZP {s:ByteArray}{m:Int}(hs:(s=bytes [43]/\m=0)\/(s=bytes [42]/\m=1)\/(s=bytes [45]/\m=0))(y:Cp .b)(j:Nat)(u:Vc .b)(h:opQ s 2 y (some (0,(m:Int)))=some (j,u)):∃ J,J<=j/\y=some (J,u):=by
 unfold opQ at h;rw[if_pos rfl]at h;cases y with
 | none=>cases h
 | some p=>
   obtain⟨i,w⟩:=p;have h:tk (τ:=.b) i (tk (τ:=.b) 0 (if(zE s w m).2=true then some (1,(zE s w m).1)else none))=(some (j,u):Cp .b):=h;by_cases I:(zE s w m).2=true
   ·rw[if_pos I]at h;have h:(some (1+0+i,(zE s w m).1):Cp .b)=some (j,u):=h;rw[XD hs I]at h;cases h;exact⟨i,by omega,rfl⟩
   ·rw[if_neg I]at h;cases h
theorem VR {K:Nat}{e:Tm}{r:Rho}{u:Ty}(he:e.ok=true)(h:HT r e 0 u){σ:Evq}(hσ:Mq r σ)(hV:Vl σ):QV (e.dq K σ) ((L4 e).dq K σ):=by
 have aa:=YE e he;cases h with
 | var h hv=>exact QV.rfl
 | int=>exact QV.rfl
 | bool=>exact QV.rfl
 | @op _ nm ot m ty re l _ _ Y=>
   have hl:=Ki he;have ah:=(xq he).2.2.2.2 rfl;show QV _ ((Ax (Tm.mk 4 nm ot m ty re l) nm l).dq K σ);unfold Ax;split
   ·rename_i U;unfold Hu at U ⊢;split
    ·rename_i ab;rw[XS he λx hx=>by
      have:=nM.1 (oY.1 ab x hx)
      rw[this];unfold zR;split
      ·exact .inr rfl
      ·exact .inl rfl]
     rw[Nc (by unfold w7;split<;>simp[Co,Tm.kd])];refine O7 λj u I=>?_;cases I;exact⟨0,by omega,yj .b _⟩
    ·rename_i h4;rw[if_neg h4]at U;simp at U
   ·split
    ·rename_i U;have ar:rU nm=2:=by rcases U with⟨rfl,_⟩ | ⟨rfl,_⟩<;>decide +kernel
     obtain⟨a,b,rfl⟩:=Wq (show l.length=2 by omega);obtain⟨hi,hm⟩:(a.kd=2\/a.kd=3)/\((nm=bytes [43]/\a.no=0)\/(nm=bytes [42]/\a.no=1)):=by
      rcases U with⟨h,O⟩ | ⟨h,O⟩
      ·exact⟨(sj O).1,.inl ⟨h,(sj O).2⟩⟩
      ·exact⟨(sj O).1,.inr ⟨h,(sj O).2⟩⟩
     rw[dq4];refine O7 λj u I=>?_;have I:opQ nm 2 ((a.dq K σ).at .b) ((b.dq K σ).at .b)=some (j,u):=I;rw[tX hi]at I;exact ZY hm _ j u I
    ·split
     ·rename_i U;have ar:rU nm=2:=by rcases U with⟨rfl,_⟩ | ⟨rfl,_⟩ | ⟨rfl,_⟩<;>decide +kernel
      obtain⟨a,b,rfl⟩:=Wq (show l.length=2 by omega);obtain⟨hi,hm⟩:(b.kd=2\/b.kd=3)/\((nm=bytes [43]/\b.no=0)\/(nm=bytes [42]/\b.no=1)\/(nm=bytes [45]/\b.no=0)):=by
       rcases U with⟨h,O⟩ | ⟨h,O⟩ | ⟨h,O⟩
       ·exact⟨(sj O).1,.inl ⟨h,(sj O).2⟩⟩
       ·exact⟨(sj O).1,.inr (.inl ⟨h,(sj O).2⟩)⟩
       ·exact⟨(sj O).1,.inr (.inr ⟨h,(sj O).2⟩)⟩
      rw[dq4];refine O7 λj u I=>?_;have I:opQ nm 2 ((a.dq K σ).at .b) ((b.dq K σ).at .b)=some (j,u):=I;rw[tX hi]at I;exact ZP hm _ j u I
     ·exact QV.rfl
 | @ite _ nm ot m ty re a b c _ _ _ ha hb hc=>
   show QV _ ((if a.kd=3 then [a,b,c].getD (2 - a.no).toNat tm0 else .mk 5 nm ot m ty re [a,b,c]:Tm).dq K σ);split
   ·rename_i hk;have ec:(c.dq K σ).t=(b.dq K σ).t:=(BG hc σ hσ).trans (BG hb σ hσ).symm;rw[dq5];unfold ifQ;rw[tX (.inr hk)];show QV (⟨(b.dq K σ).t,tk 0 (tk 1 (if a.no=0 then(c.dq K σ).at (b.dq K σ).t else(b.dq K σ).at (b.dq K σ).t))⟩:Cg) _;rw[tk0];rcases BA ((Tm.ok_mk.1 he).1 a (by simp)) hk with h0 | h0
    ·rw[h0,if_pos rfl,KT ec];exact Te _
    ·rw[h0,if_neg (by decide),KT rfl];exact Te _
   ·exact QV.rfl
 | lam hb hv=>exact QV.rfl
 | @app _ nm ot m ty re f x _ a c _ hf hx=>
   show QV _ ((if f.kd=6/\x.atm=true then(f.pt 0).sb f.nm x else .mk 7 nm ot m ty re [f,x]:Tm).dq K σ);split
   ·rename_i h6;have ae:=(A1.1 aa).2 f (by simp);cases f with
    | mk k ac ai m2 aj ak l2=>
    have hk:k=6:=h6.1;subst hk;obtain⟨b,v,rfl,e,hb⟩:=Ya hf;obtain⟨rfl,rfl⟩:=De e;have J:(x.dq K σ).t=a.st:=BG hx σ hσ;rw[dq7];rcases Q8 (K:=K) ((Tm.ok_mk.1 he).1 x (by simp)) h6.2 hV with⟨t,w,hw⟩ | ⟨t,hw⟩
    ·rw[hw]at J;have J:t=a.st:=J;subst J;rw[VH hw ((A1.1 ae).2 b (by simp))];exact Te _
    ·rw[hw]at J ⊢;have J:t=a.st:=J;subst J;rw[dq6];unfold UZ;refine O7 λj u I=>?_;have I:tk 0 (bnd (Cg.at ⟨a.st,none⟩ a.st) λw=>tk 1 ((b.dq K (σ.set ac ⟨a.st,some (0,w)⟩)).at (b.dq K (σ.set ac ⟨a.st,none⟩)).t))=some (j,u):=I;rw[yj]at I;cases I
   ·exact QV.rfl
 | @lt _ nm ot m ty re a b _ t _ _ ha hb=>
   show QV _ ((if a.atm=true then b.sb nm a else if a.qui=true/\nm∉b.fv then b else .mk 8 nm ot m ty re [a,b]:Tm).dq K σ);split
   ·rename_i Y;rw[dq8];rcases Q8 (K:=K) ((Tm.ok_mk.1 he).1 a (by simp)) Y hV with⟨t,w,hw⟩ | ⟨t,hw⟩
    ·rw[U2 hw ((A1.1 aa).2 b (by simp))];exact Te _
    ·rw[hw];exact O7 λj u I=>by cases I
   ·split
    ·rename_i Y;rw[dq8];have eb:∀ d,b.dq K (σ.set nm d)=b.dq K σ:=λd=>su b _ _ λs hs=>zS _ (λe=>Y.2 (by rw[<-e];exact hs)) _;rw[show(λd=>b.dq K (σ.set nm d))=λ_=>b.dq K σ from funext eb];unfold MT;refine O7 λj u I=>?_;generalize (a.dq K σ).v=v at I;cases v with
     | none=>cases I
     | some p=>
       obtain⟨i,w⟩:=p;have I:tk i (tk 1 ((b.dq K σ).at (b.dq K σ).t))=some (j,u):=I;generalize (b.dq K σ).at (b.dq K σ).t=c at I ⊢;cases c with
       | none=>cases I
       | some q=>obtain⟨i',w'⟩:=q;cases I;exact⟨i',by omega,rfl⟩
    ·exact QV.rfl
 | fix Y h2 U=>exact QV.rfl
 | quote Y h2=>exact QV.rfl
 | splice Y=>exact QV.rfl
 | run Y=>exact QV.rfl
 | lift Y h2 U=>exact QV.rfl
theorem ZM {r:Rho}{ρ σ:Evq}(h:Mq r ρ)(hE:RE2 ρ σ):Mq r σ:=λs m t hs=>(hE s).1.symm.trans (h s m t hs)
theorem X3 (K:Nat):∀(t:Tm),t.ok=true->t.wk->t.fv.length+t.bd<=331->∀(r:Rho)(u:Ty)(ρ σ:Evq),HT r t 0 u->Mq r ρ->RE2 ρ σ->Vl σ->RQ (t.dq K ρ) (t.sim.dq K σ):=by
 refine Tm.ind λk nm ot n ty re l ih he hw hm r u ρ σ h hρ hE U=>?_;have hp:=zU.1 hw.2;have h1:=(Tm.ok_mk.1 he).1;have hk:k<10:=hw.1.lt;have hσ:=ZM hρ hE;by_cases Y:k=1
 ·subst Y;have hl:l=[]:=oM ((xq he).2.2.2.1 (.inl rfl));subst hl;show RQ _ ((Tm.mk 1 nm ot n ty re []).dq K σ);rw[dq1,dq1];exact hE nm
 have go:∀ x∈l,∀ r u ρ σ,HT r x 0 u->Mq r ρ->RE2 ρ σ->Vl σ->RQ (x.dq K ρ) (x.sim.dq K σ):=λx I=>ih x I (h1 x I) (hp x I) (oL (Ah Y I).2 hm);have ht:∀ x∈l,∀ r u,HT r x 0 u->HT r x.sim 0 u:=λx I=>Ur x (h1 x I) (hp x I) (oL (Ah Y I).2 hm);have ac:=MN he λx I=>QM x (h1 x I) (hp x I) (oL (Ah Y I).2 hm);clear ih
 suffices key:HT r (Tm.mk k nm ot n ty re (u4 l)) 0 u/\RQ ((Tm.mk k nm ot n ty re l).dq K ρ) ((Tm.mk k nm ot n ty re (u4 l)).dq K σ) by refine Yr key.2 (VR ac key.1 hσ U) ?_;rw[BG key.1 σ hσ];exact(BG (Qr ac key.1) σ hσ).symm
 cases h with
 | var h hv=>exact absurd rfl Y
 | int=>exact⟨.int,by rw[TS _ _ _ _ _ _ _ (.inl rfl),TS _ _ _ _ _ _ _ (.inl rfl)];exact uf (a:=.b) rfl⟩
 | bool=>exact⟨.bool,by rw[TS _ _ _ _ _ _ _ (.inr rfl),TS _ _ _ _ _ _ _ (.inr rfl)];exact uf (a:=.b) rfl⟩
 | op h=>
   refine⟨.op λx I=>?_,?_⟩
   ·rw[zZ]at I;obtain⟨z,hz,rfl⟩:=oP.1 I;exact ht z hz _ _ (h z hz)
   ·have at_:∀ i,RQ ((l.getD i tm0).dq K ρ) (((u4 l).getD i tm0).dq K σ):=λi=>by
     by_cases hi:i<l.length
     ·have e:(u4 l).getD i tm0=(l.getD i tm0).sim:=by rw[zZ,oA,oE,oA,oI hi];rfl
      rw[e];exact go _ (zB hi) _ _ ρ σ (h _ (zB hi)) hρ hE U
     ·rw[oA,oS (by omega),oA,oS (by rw[zZ,oW];omega)];exact FJ (oC K) tm0 _ _ hE
    rw[dq4,dq4,zZ,oW,<-zZ];exact KB (VC nm l.length ((at_ 0).2 .b) ((at_ 1).2 .b))
 | @ite _ _ _ _ _ _ a b c _ _ _ ha O hc=>refine⟨.ite (ht a (by simp) _ _ ha) (ht b (by simp) _ _ O) (ht c (by simp) _ _ hc),?_⟩;rw[ZU,dq5,dq5];exact UX (go a (by simp) _ _ ρ σ ha hρ hE U) (go b (by simp) _ _ ρ σ O hρ hE U) (go c (by simp) _ _ ρ σ hc hρ hE U)
 | @lam _ _ _ _ _ _ b _ v _ O hv=>
   have J:=ht b (by simp) _ _ O;refine⟨.lam J hv,?_⟩;rw[W2,dq6,dq6];refine SR ?_ λv w aa=>?_
   ·show(b.dq K (ρ.set nm ⟨ty.st,none⟩)).t=(b.sim.dq K (σ.set nm ⟨ty.st,none⟩)).t;rw[BG O _ (hρ.set (d:=⟨ty.st,none⟩) rfl),BG J _ (hσ.set (d:=⟨ty.st,none⟩) rfl)]
   ·exact go b (by simp) _ _ _ _ O (hρ.set (d:=⟨ty.st,some (0,v)⟩) rfl) (hE.set (uf aa)) U.set
 | @app _ _ _ _ _ _ f x _ a c _ hf I=>refine⟨.app (ht f (by simp) _ _ hf) (ht x (by simp) _ _ I),?_⟩;rw[XO,dq7,dq7];exact RA (go f (by simp) _ _ ρ σ hf hρ hE U) (go x (by simp) _ _ ρ σ I hρ hE U)
 | @lt _ _ _ _ _ _ a b _ t _ _ ha O=>
   have J:=ht b (by simp) _ _ O;refine⟨.lt (ht a (by simp) _ _ ha) J,?_⟩;have ab:(a.dq K ρ).t=t.st:=BG ha ρ hρ;rw[XO,dq8,dq8];refine QG (go a (by simp) _ _ ρ σ ha hρ hE U) ?_ λv w aa=>?_
   ·show(b.dq K (ρ.set nm ⟨(a.dq K ρ).t,none⟩)).t=(b.sim.dq K (σ.set nm ⟨(a.dq K ρ).t,none⟩)).t;rw[BG O _ (hρ.set (d:=⟨(a.dq K ρ).t,none⟩) ab),BG J _ (hσ.set (d:=⟨(a.dq K ρ).t,none⟩) ab)]
   ·exact go b (by simp) _ _ _ _ O (hρ.set (d:=⟨(a.dq K ρ).t,some (0,v)⟩) ab) (hE.set (uf aa)) U.set
 | @fix _ _ _ _ _ _ b _ _ hn O hv=>have J:=ht b (by simp) _ _ O;refine⟨.fix hn J hv,?_⟩;rw[W2,dq9,dq9];refine Q1 (oC K) λf g v w hf ae=>?_;exact go b (by simp) _ _ _ _ O ((hρ.set (d:=⟨.fn ty.st re.st,some (0,f)⟩) rfl).set (d:=⟨ty.st,some (0,v)⟩) rfl) ((hE.set (uf hf)).set (uf ae)) U.set.set
 | quote _ _=>exact absurd hk (by decide)
 | splice _=>exact absurd hk (by decide)
 | run _=>exact absurd hk (by decide)
 | lift _ _ _=>exact absurd hk (by decide)
theorem Lg {e:Tm}{u:Ty}(h:rD [] e 0=some u):e.ok=true/\BF e 0=true/\HT (xj []) e 0 u/\e.fv=[]:=by
 unfold rD at h;split at h
 ·rename_i J;have I:=J.2;simp only[BF,oG]at I;exact⟨I.1,J.2,PM e I.1 [] 0 u I.2 h,WW I.1 h⟩
 ·cases h
theorem Q5:Lv (xj []):=λs m t I=>by rw[If m [] (by simp)]at I;cases I
theorem Fv {e:Tm}{u:Ty}(h:rD [] e 0=some u)(hb:e.bd<=331):e.simplify.ok=true/\HT (xj []) e.simplify 0 u:=by
 obtain⟨I,h2,O,h4⟩:=Lg h;unfold Tm.simplify;split
 ·rename_i J;simp only[Tm.isPl,oG]at J;have U:=SG e J.1 J.2;have Y:e.fv.length+e.bd<=331:=by rw[h4];simpa using hb
  exact⟨QM e I U Y,Ur e I U Y _ _ O⟩
 ·exact⟨I,O⟩
theorem JR {e:Tm}{u:Ty}(h:rD [] e 0=some u)(O:e.bd<=331):rD [] e.simplify 0=some u:=by
 obtain⟨I,J⟩:=Fv h O;have U:O2 []:=by
  unfold rD at h;split at h
  ·rename_i I;exact I.1
  ·cases h
 unfold rD;rw[if_pos ⟨U,by unfold BF;rw[I,NZ J I];rfl⟩];exact PF J [] rfl
theorem LS {e:Tm} {u:Ty} {F:Int} (h:rD [] e 0=some u) (hb:e.bd<=331) (hd:(xX e F).1=1) (hl:(xX e F).2.1.kd=2\/(xX e F).2.1.kd=3) :
  (xX e.simplify F).1=3\/((xX e.simplify F).1=1/\(xX e.simplify F).2.1=(xX e F).2.1/\(xX e.simplify F).2.2<=(xX e F).2.2):=by
 obtain⟨U,h2,Y,h4⟩:=Lg h;by_cases J:e.isPl=true
 ·obtain⟨O,g2⟩:=Fv h hb;have gl:BF e.simplify 0=true:=by unfold BF;rw[O,NZ g2 O];rfl
  have es:e.simplify=e.sim:=by unfold Tm.simplify;rw[if_pos J]
  simp only[Tm.isPl,oG]at J;have hw:=SG e J.1 J.2;have hm:e.fv.length+e.bd<=331:=by rw[h4];simpa using hb
  by_cases hF:inB F 0 200=true
  ·have r1:xX e F=(sx F.toNat 0 e).1:=by unfold xX;rw[if_pos (by rw[h2,hF];rfl)]
   have r2:xX e.simplify F=(sx F.toNat 0 e.simplify).1:=by unfold xX;rw[if_pos (by rw[gl,hF];rfl)]
   rw[r1]at hd hl ⊢;rw[r2];have hr:=Q5;have hρ:Mq (xj []) (λ_=>jq):=λs m t ht=>by rw[If m [] (by simp)]at ht;cases ht
   have hE:RE2 (λ_=>jq) (λ_=>jq):=λs=>PK;obtain⟨aa,_,ac,I⟩:=Va hr F.toNat 0 e U Y hd;have hu:(u=tInt/\(sx F.toNat 0 e).1.2.1.kd=2)\/(u=tBool/\(sx F.toNat 0 e).1.2.1.kd=3):=by
    generalize (sx F.toNat 0 e).1.2.1=w at hl I;rcases hl with hl | hl
    ·refine .inl ⟨?_,hl⟩;cases I<;>first | rfl | simp[Tm.kd]at hl
    ·refine .inr ⟨?_,hl⟩;cases I<;>first | rfl | simp[Tm.kd]at hl
   obtain⟨j,hj,ha⟩:=Y8 hr hρ hE F.toNat 0 e U (Xn e hw) Y hd hl F.toNat (oC _);have ae:=(Ra F.toNat 0 e).2;have hs:=X3 F.toNat e U hw hm _ u _ _ Y hρ hE (λs=>.inr ⟨_,rfl⟩);obtain⟨i,hi,ab⟩:=Ye hs ha;rw[es];rw[es]at O g2;rcases Yf hr hρ hE (hu.imp (·.1) (·.1)) F.toNat F.toNat 0 e.sim (λ_=>O) (Xn _ (Gf e hw).2) g2 i _ ab (by omega)with h6 | ⟨h6,h7,h8,h9,ah⟩
   ·exact .inl h6
   ·refine .inr ⟨h6,?_,by omega⟩;have hk:(sx F.toNat 0 e.sim).1.2.1.kd=(sx F.toNat 0 e).1.2.1.kd:=by
     rcases hu with⟨q1,q2⟩ | ⟨q1,q2⟩
     ·rw[h8.1 q1,q2]
     ·rw[h8.2 q1,q2]
    rw[Ud h7 (by rw[hk];exact hl),Ud aa hl,hk,h9]
  ·exfalso;unfold xX at hd;rw[if_neg (by rw[oG];exact λh=>hF h.2)]at hd;cases hd
 ·have es:e.simplify=e:=by unfold Tm.simplify;rw[if_neg J]
  rw[es];exact .inr ⟨hd,rfl,oC _⟩
theorem KZ:∀ {l:List Tm},(∀ t∈l,t.er.cnt<=t.cnt)->zj (l.map Tm.er)<=zj l
 | [],_=>by simp[zj]
 | t::I,h=>by have O:=h t (by simp);have U:=KZ (l:=I) λx J=>h x (by simp[J]);simp only[oh,zj];omega
theorem Xv:∀ t:Tm,t.er.cnt<=t.cnt:=by
 refine Tm.ind λk nm ot n ty re l I=>?_;simp only[Tm.er,CD];split
 ·rename_i h;obtain⟨x,rfl⟩:=len1 h.2
  have:=I x (by simp)
  show x.er.cnt<=_;simp only[Tm.cnt,zj];omega
 ·have J:=KZ I;have O:=(YG ty).1;have U:=(YG re).1;simp only[Tm.cnt];omega
theorem Yq:∀ t:Tm,t.er.bd<=t.bd:=by
 refine Tm.ind λk nm ot n ty re l I=>?_;simp only[Tm.er,CD];split
 ·rename_i h;obtain⟨x,rfl⟩:=len1 h.2
  have:=I x (by simp)
  show x.er.bd<=_;simp only[Tm.bd,tq];omega
 ·have U:tq (l.map Tm.er)<=tq l:=pZ.2 λx O=>by obtain⟨y,J,rfl⟩:=oP.1 O;exact oL (I y J) (xU J)
  simp only[Tm.bd];omega
end Go.Proofs.YtligajflgjpdnaaGreatDoor
