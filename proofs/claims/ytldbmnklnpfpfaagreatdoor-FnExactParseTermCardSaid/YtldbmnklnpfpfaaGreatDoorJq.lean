/- A row is closed: it becomes a snapshot. -/
import Derived.Test.YtldbmnklnpfpfaaGreatDoorJe
set_option linter.unusedVariables false
set_option linter.unusedSimpArgs false
set_option linter.unusedSectionVars false
namespace Go.Proofs.YtldbmnklnpfpfaaGreatDoor
open Go
variable [Dfs] {av:Nat->Prop} {P:Program} {w0 w w':World} {e0 e:Env} {pS pS' pB:List Nat} {a:Act} {st st':St}
def GB (k:Nat)(s:PV)(z:Nat)(p:PV):PV:=
 match p with
 | .sb k' z' lo n c=>if k'=k then(if z'=z/\lo=0 then s else .any)else p
 | _=>p.kill k
def HJ (k z len c:Nat)(p:PV)(K:Prop):Prop:=
 match p with
 | .sb k' z' lo n I=>if k'=k/\z'=z/\lo=0 then(n=len/\I=c)/\K else K
 | _=>K
def HK (k z len c:Nat):List PV->Prop->Prop
 | [],K=>K
 | p::ps,K=>HJ k z len c p (HK k z len c ps K)
def clo (k:Nat)(s:PV)(z:Nat)(p:PV):PV:=
 match p with
 | .pg cs=>if(PV.refsL cs).contains k then(if(cs.map (GB k s z)).all PV.notAny=true then .pg (cs.map (GB k s z))else .any)else .pg cs
 | p=>GB k s z p
def GD (k z len c:Nat):List PV->Prop->Prop
 | [],K=>K
 | p::ps,K=>match p with
   | .pg cs=>HK k z len c cs (GD k z len c ps K)
   | p=>HJ k z len c p (GD k z len c ps K)
def Bx.clo (k:Nat)(s:PV)(z:Nat):Bx->Bx
 | .var cs=>.var (cs.map (GB k s z))
 | B=>B
def GC (k z len c:Nat):List Bx->Prop->Prop
 | [],K=>K
 | B::bs,K=>match B with
   | .var cs=>HK k z len c cs (GC k z len c bs K)
   | _=>GC k z len c bs K
def PV.ds1:PV->List D
 | .sv a z es c=>[.sl a z es c]
 | .d x=>[x]
 | .dc x=>[x]
 | .dg _ x=>[x]
 | _=>[]
def PV.ds:PV->List D
 | .pg cs=>cs.flatMap PV.ds1
 | p=>p.ds1
def Bx.ds:Bx->List D
 | .var cs=>cs.flatMap PV.ds1
 | .vd x _=>[x]
 | .arr _ _ es _=>[.ag es]
 | .gone=>[]
structure Fresh (N0 N:Nat) (a:Option Addr) (ds:List D):Prop where
 lo:∀ ad,a=some ad->N0<=ad.block
 hi:∀ ad,a=some ad->ad.block<N
 off:∀ ad,a=some ad->ad.off=0
 ap:∀ ad,a=some ad->∀ d∈ds,ad.block∉d.foot
def St.clo (st:St)(k:Nat)(s:PV)(z:Nat)(N:Nat):St:={ st with sl:=st.sl.map (Proofs.YtldbmnklnpfpfaaGreatDoor.clo k s z),bx:=(st.bx.map (Bx.clo k s z)).set k .gone,N:=N }
def HH (N0:Option Nat)(st:St)(k:Nat)(fs I:List Nat)(K:St->Prop):Prop:=
 match N0,st.bx[k]?,Nat.ble st.pins.length k with
 | some N0,some (.arr _ z es c),true=>GD k z es.length c st.sl (GC k z es.length c st.bx (∀ a N,st.N<=N ->
  Fresh N0 N a (.ag es::(fs.flatMap λi=>(st.sl.getD i .any).ds)++I.flatMap λj=>if j=k then []else(st.bx.getD j .gone).ds)->K (st.clo k (.sv a z es c) z N)))
 | _,_,_=>False
def NOk (N0:Option Nat)(w0:World):Prop:=∀ n,N0=some n->n=w0.heap.size
def EK (k z len c:Nat)(p:PV):Prop:=∀ n I,p=.sb k z 0 n I->n=len/\I=c
theorem BT {k z len c:Nat}{p:PV}{K:Prop}(h:HJ k z len c p K):EK k z len c p/\K:=by
 cases p<;>simp only[HJ]at h<;>try exact⟨λ_ _ h=>(by cases h),h⟩
 split at h
 ·rename_i hc;exact⟨λn J I=>by cases I;exact h.1,h.2⟩
 ·rename_i hc;exact⟨λn J I=>by cases I;exact absurd ⟨rfl,rfl,rfl⟩ hc,h⟩
theorem ra {k z len c:Nat}:∀ {ps:List PV}{K:Prop},HK k z len c ps K->(∀ p∈ps,EK k z len c p)/\K
 | [],K,h=>⟨by simp,h⟩
 | p::ps,K,h=>by simp only[HK]at h;obtain⟨I,J⟩:=BT h;obtain⟨O,U⟩:=ra J;exact⟨λq hq=>by rcases oH.1 hq with rfl | hq;exact I;exact O q hq,U⟩
def Lm (k z len c:Nat)(p:PV):Prop:=EK k z len c p/\∀ cs,p=.pg cs->∀ q∈cs,EK k z len c q
theorem rc {k z len c:Nat}:∀ {ps:List PV}{K:Prop},GD k z len c ps K->(∀ p∈ps,Lm k z len c p)/\K
 | [],K,h=>⟨by simp,h⟩
 | p :: ps,K,h=>by
   have go:HJ k z len c p (GD k z len c ps K)->(∀ cs,p≠.pg cs)->(∀ q∈p::ps,Lm k z len c q)/\K:=λh V=>by
    obtain⟨I,J⟩:=BT h;obtain⟨O,U⟩:=rc J;exact⟨λq hq=>by
     rcases oH.1 hq with rfl | hq
     ·exact⟨I,λcs hc=>absurd hc (V cs)⟩
     ·exact O q hq,U⟩
   cases p
   case pg cs=>
    simp only[GD]at h;obtain⟨I,J⟩:=ra h;obtain⟨O,U⟩:=rc J;exact⟨λq hq=>by
     rcases oH.1 hq with rfl | hq
     ·exact⟨λ_ _ h=>(by cases h),λcs' hc=>by cases hc;exact I⟩
     ·exact O q hq,U⟩
   all_goals exact go h (λ_ h=>by cases h)
theorem rZ {k z len c:Nat}:∀ {bs:List Bx}{K:Prop},GC k z len c bs K->(∀ cs,Bx.var cs∈bs->∀ q∈cs,EK k z len c q)/\K
 | [],K,h=>⟨by simp,h⟩
 | B :: bs,K,h=>by
   cases B
   case var cs=>
    simp only[GC]at h;obtain⟨O,U⟩:=ra h;obtain⟨I,J⟩:=rZ U;exact⟨λcs' hq=>by
     rcases oH.1 hq with hq | hq
     ·cases hq;exact O
     ·exact I cs' hq,J⟩
   all_goals
    simp only[GC]at h;obtain⟨I,J⟩:=rZ h;exact⟨λcs' hq=>by
     rcases oH.1 hq with hq | hq
     ·cases hq
     ·exact I cs' hq,J⟩
structure Clo (k:Nat) (w:World) (e:Env) (live:Nat->Prop) (p q:PV):Prop where
 v:q=.any\/p.val e=q.val e
 v1:q=.any\/p.cv e=q.cv e
 ok:p.Ok w live->q.Ok w live
 rf:∀ j∈q.refs,j∈p.refs/\j≠k
 c:p.isC->q=.any\/q.isC
theorem I2 {k:Nat}{live:Nat->Prop}{p:PV}:Clo k w e live p (p.kill k):=by
 rcases PV.kill_cases k p with h | ⟨h,J⟩
 ·rw[h];exact⟨.inl rfl,.inl rfl,λ_=>trivial,by simp[PV.refs],λ_=>.inl rfl⟩
 ·rw[h];exact⟨.inr rfl,.inr rfl,id,λj I=>⟨I,λhc=>J (hc ▸ I)⟩,λh=>.inr h⟩
theorem ph {k z c:Nat} {es:List D} {live:Nat->Prop} (Y:Good w live (.sl ((e.at k).map λb=>⟨b,0,none⟩) z es c)) {p:PV} (hc:EK k z es.length c p) :
  Clo k w e live p (GB k (.sv ((e.at k).map λb=>⟨b,0,none⟩) z es c) z p):=by
 cases p
 case sb k' z' lo n I=>
  simp only[GB];split
  ·rename_i J;subst J;split
   ·rename_i Z;obtain⟨rfl,rfl⟩:=Z;obtain⟨rfl,rfl⟩:=hc n I rfl;have V:(PV.sb k' z' 0 es.length I).cv e=(PV.sv ((e.at k').map λb=>⟨b,0,none⟩) z' es I).cv e:=by cases O:e.at k'<;>simp[PV.cv,O]
    exact⟨.inr V,.inr V,λ_=>Y,by simp[PV.refs],λ_=>.inr trivial⟩
   ·exact⟨.inl rfl,.inl rfl,λ_=>trivial,by simp[PV.refs],λ_=>.inl rfl⟩
  ·rename_i J;exact⟨.inr rfl,.inr rfl,id,λj U=>⟨U,λhc=>by simp[PV.refs]at U;exact J (U ▸ hc)⟩,λh=>.inr h⟩
 all_goals exact I2
theorem CM {k z c:Nat} {es:List D} {live:Nat->Prop} (hg:Good w live (.sl ((e.at k).map λb=>⟨b,0,none⟩) z es c)) {p:PV} (hc:Lm k z es.length c p) (J:p.Ok w live) :
  (clo k (.sv ((e.at k).map λb=>⟨b,0,none⟩) z es c) z p=.any\/p.val e=(clo k (.sv ((e.at k).map λb=>⟨b,0,none⟩) z es c) z p).val e) /\
  (clo k (.sv ((e.at k).map λb=>⟨b,0,none⟩) z es c) z p).Ok w live/\∀ j∈(clo k (.sv ((e.at k).map λb=>⟨b,0,none⟩) z es c) z p).refs,j∈p.refs/\j≠k:=by
 generalize hs:PV.sv ((e.at k).map λb=>⟨b,0,none⟩) z es c=s;cases p
 case pg cs=>
  simp only[clo];split
  ·split
   ·rename_i Y;have O:∀ q∈cs,Clo k w e live q (GB k s z q):=λq I=>by rw[<-hs];exact ph hg (hc.2 cs rfl q I)
    have Z:∀ q∈cs,GB k s z q≠.any:=λq I he=>by
     have:=oc.1 Y (GB k s z q) (oP.2 ⟨q,I,rfl⟩)
     rw[he]at this;simp[PV.notAny]at this
    simp only[PV.Ok,PV.OkL_iff]at J;refine⟨.inr ?_,?_,?_⟩
    ·simp only[PV.val,PV.val1,PV.cvs_eq,nw];congr 2;exact o7 λq I=>(O q I).v1.resolve_left (Z q I)
    ·simp only[PV.Ok,PV.OkL_iff];refine⟨λq I=>?_,λq I=>?_⟩
     ·obtain⟨r,U,rfl⟩:=oP.1 I;exact(O r U).ok (J.1 r U)
     ·obtain⟨r,U,rfl⟩:=oP.1 I;exact((O r U).c (J.2 r U)).resolve_left (Z r U)
    ·intro j V;simp only[PV.refs]at V ⊢;obtain⟨q,I,aa⟩:=PV.refsL_mem.1 V;obtain⟨r,U,rfl⟩:=oP.1 I
     have:=(O r U).rf j aa
     exact⟨PV.refsL_mem.2 ⟨r,U,this.1⟩,this.2⟩
   ·exact⟨.inl rfl,trivial,by simp[PV.refs]⟩
  ·rename_i hk;refine⟨.inr rfl,J,λj V=>⟨V,λab=>hk ?_⟩⟩;simp only[PV.refs]at V;simpa using ab ▸ V
 all_goals
  have:=ph hg hc.1
  rw[hs]at this;exact⟨this.v,this.ok J,this.rf⟩
theorem H7 (h:Rel av w0 e0 pS pB a w e st) {k z c:Nat} {t:TypeId} {es:List D} (hk:st.bx[k]?=some (.arr t z es c)) (ac:k∉pB)
  (hS:∀ p∈st.sl,Lm k z es.length c p) (hB:∀ cs,Bx.var cs∈st.bx->∀ q∈cs,EK k z es.length c q) :
  Rel av w0 e0 pS pB a w e (st.clo k (.sv ((e.at k).map λb=>⟨b,0,none⟩) z es c) z w.heap.size):=by
 have al:k<st.bx.length:=(oC.1 hk).1;generalize hs:PV.sv ((e.at k).map λb=>(⟨b,0,none⟩:Addr)) z es c=s;have Z:∀(j:Nat) (B':Bx),((st.bx.map (Bx.clo k s z)).set k .gone)[j]?=some B'->(j=k/\B'=.gone)\/(j≠k/\∃ B,st.bx[j]?=some B/\B'=B.clo k s z):=λj B' hj=>by
  rw[nS]at hj;split at hj
  ·rename_i hh;subst hh;split at hj
   ·simp at hj;exact .inl ⟨rfl,hj.symm⟩
   ·cases hj
  ·rename_i hh;rw[oE]at hj;cases hB:st.bx[j]? with
   | none=>simp[hB]at hj
   | some B=>simp[hB]at hj;exact .inr ⟨λhc=>hh hc.symm,B,rfl,hj.symm⟩
 have I:∀ j b,Lives pB e ((st.bx.map (Bx.clo k s z)).set k .gone) j b->j≠k/\Lives pB e st.bx j b:=λj b ⟨h1,h2,B',h3,h4⟩=>by
  rcases Z j B' h3 with⟨_,rfl⟩ | ⟨hj,B,J,rfl⟩
  ·exact absurd rfl h4
  ·refine⟨hj,h1,h2,B,J,λhg=>h4 ?_⟩;subst hg;rfl
 have U:∀ b,zF av pB e ((st.bx.map (Bx.clo k s z)).set k .gone) b->zF av pB e st.bx b:=λb hb=>hb.imp id λ⟨j,hj⟩=>⟨j,(I j b hj).2⟩
 have V:∀ p:PV,p.Ok w (zF av pB e st.bx)->p.Ok w (zF av pB e ((st.bx.map (Bx.clo k s z)).set k .gone)):=λp=>PV.Ok.mono (λ_ _ _=>rfl) (oG _) (λb _=>U b) p;have hg:Good w (zF av pB e ((st.bx.map (Bx.clo k s z)).set k .gone)) (.sl ((e.at k).map λb=>⟨b,0,none⟩) z es c):=by
  have hr:=h.br k _ hk ac;have ho:=h.bo k _ hk ac;have ae:∀ x∈es,Good w (zF av pB e ((st.bx.map (Bx.clo k s z)).set k .gone)) x:=λx hx=>(ho x hx).mono (λ_ _ _=>rfl) λb _=>U b;rcases hr with⟨g1,g2,g3⟩ | ⟨b,cc,g1,g2,g3,g4,g5,g6,g7⟩
  ·subst g2;subst g3;rw[g1];exact⟨.nil,by simp[D.foot,zA]⟩
  ·rw[g1];refine⟨.sl (λ_=>rfl) g4 g6 (λx hx=>(ae x hx).1) (.inr ⟨cc,t,z00,g2,λi u hu=>by simpa using g7 i u hu⟩),λj hj aa=>?_⟩;simp only[oU,D.foot]at hj;split at hj
   ·simp at hj
   ·rcases oH.1 hj with rfl | hj
    ·have ah:Lives pB e st.bx k j:=⟨ac,g1,_,hk,by simp⟩
     rcases aa with aa | ⟨i,hi⟩
     ·exact h.avn k j ah aa
     ·obtain⟨h1,h2⟩:=I i _ hi;exact h1 (h.inj i k _ h2 ah)
    ·obtain⟨x,hx,aj⟩:=zB.1 hj;exact(ae x hx).2 j aj aa
 have Y:∀(i:Nat) (q:PV),(st.sl.map (clo k s z))[i]?=some q->∃ p,st.sl[i]?=some p/\q=clo k s z p/\Lm k z es.length c p:=λi q hi=>by
  rw[oE]at hi;cases hp:st.sl[i]? with
  | none=>simp[hp]at hi
  | some p=>simp[hp]at hi;exact⟨p,rfl,hi.symm,hS p (oB hp)⟩
 have O:∀(j:Nat) (cs:List PV),st.bx[j]?=some (.var cs)->∀ q∈cs,Clo k w e (zF av pB e ((st.bx.map (Bx.clo k s z)).set k .gone)) q (GB k s z q):=λj cs hj q hq=>by rw[<-hs];rw[<-hs]at hg;exact ph hg (hB cs (oB hj) q hq)
 exact {
  el:=by simp[St.clo,h.el]
  br := λj B' hj hn=>by
   rcases Z j B' hj with⟨_,rfl⟩ | ⟨ai,B,J,rfl⟩
   ·exact True.intro
   ·have h6:=h.br j B J hn;cases B with
    | var cs=>
      obtain⟨b,cc,tt,h1,h2,h3,h4⟩:=h6;refine⟨b,cc,tt,h1,h2,by simpa using h3,λi p hp=>?_⟩;rw[oE]at hp;cases ab:cs[i]? with
      | none=>simp[ab]at hp
      | some q=>
        simp[ab]at hp;subst hp;rcases h4 i q ab with h7 | h7
        ·subst h7;exact .inl rfl
        ·rcases(O j cs J q (oB ab)).v1 with h8 | h8
         ·exact .inl h8
         ·exact .inr (by rw[<-h8];exact h7)
    | _=>exact h6
  bo:=λj B' hj hn=>by
   rcases Z j B' hj with⟨_,rfl⟩ | ⟨ai,B,J,rfl⟩
   ·exact True.intro
   ·have h6:=(h.bo j B J hn).mono (w':=w) (live':=zF av pB e ((st.bx.map (Bx.clo k s z)).set k .gone)) (λ_ _ _=>rfl) (oG _) (λb _=>U b);cases B with
    | var cs=>
      obtain⟨h7,h8⟩:=h6;rw[PV.OkL_iff]at h7;refine⟨PV.OkL_iff.2 λp hp=>?_,λp hp=>?_⟩
      ·obtain⟨q,hq,rfl⟩:=oP.1 hp;exact(O j cs J q hq).ok (h7 q hq)
      ·obtain⟨q,hq,rfl⟩:=oP.1 hp;rcases h8 q hq with h9 | h9
       ·subst h9;exact .inl rfl
       ·exact(O j cs J q hq).c h9
    | _=>exact h6
  bf:=λj B' hj hn i hi=>by
   simp only[St.clo,mj,nZ];rcases Z j B' hj with⟨_,rfl⟩ | ⟨ai,B,J,rfl⟩
   ·simp[Bx.refs]at hi
   ·cases B with
    | var cs=>simp only[Bx.clo,Bx.refs]at hi;obtain⟨p,hp,ak⟩:=PV.refsL_mem.1 hi;obtain⟨q,hq,rfl⟩:=oP.1 hp;exact h.bf j _ J hn i (by simp only[Bx.refs];exact PV.refsL_mem.2 ⟨q,hq,((O j cs J q hq).rf i ak).1⟩)
    | _=>exact h.bf j _ J hn i hi
  inj:=λi j b hi hj=>h.inj i j b (I i b hi).2 (I j b hj).2
  ku:=h.ku
  size:=h.size
  old:=h.old
  fz:=h.fz
  nd:=h.nd
  sz:=by simp[St.clo];exact h.sz
  hN:=oG _
  hs:=λi q hi hn=>by
   obtain⟨p,h1,rfl,h3⟩:=Y i q hi;have h4:=V p (h.so i p h1 hn);rw[<-hs]at hg h4;have J:=CM hg h3 h4;rw[hs]at J;rcases J.1 with h6 | h6
   ·exact .inl h6
   ·rcases h.hs i p h1 hn with h7 | h7
    ·subst h7;left;simp[clo,GB,PV.kill,PV.refs]
    ·exact .inr (h7.trans h6)
  so:=λi q hi hn=>by obtain⟨p,h1,rfl,h3⟩:=Y i q hi;have h4:=V p (h.so i p h1 hn);rw[<-hs]at hg h4;have J:=CM hg h3 h4;rw[hs]at J;exact J.2.1
  sr:=λi q hi hn j hj=>by
   obtain⟨p,h1,rfl,h3⟩:=Y i q hi;have h4:=V p (h.so i p h1 hn);rw[<-hs]at hg h4;have J:=CM hg h3 h4;rw[hs]at J
   have:=h.sr i p h1 hn j (J.2.2 j hj).1
   exact⟨this.1,by simp[St.clo];exact this.2⟩
  own:=λj b hj=>h.own j b (I j b hj).2
  avl:=h.avl
  avn:=λj b hj=>h.avn j b (I j b hj).2
  pin:=h.pin
  pit:=h.pit }
theorem CO {live:Nat->Prop}{p:PV}(h:p.Ok w live):∀ d∈p.ds1,Good w live d:=by
 cases p<;>simp[PV.ds1]<;>simp only[PV.Ok]at h
 ·exact h
 ·exact h
 ·exact h.1
 ·exact h.1
theorem Ku {live:Nat->Prop}{p:PV}(h:p.Ok w live):∀ d∈p.ds,Good w live d:=by
 cases p
 case pg cs=>simp only[PV.Ok,PV.OkL_iff]at h;intro d hd;simp only[PV.ds]at hd;obtain⟨q,I,hd⟩:=nj.1 hd;exact CO (h.1 q I) d hd
 all_goals exact CO h
theorem Il {live:Nat->Prop}{B:Bx}(h:B.Ok w live):∀ d∈B.ds,Good w live d:=by
 cases B with
 | var cs=>have I:=h.1;rw[PV.OkL_iff]at I;intro d hd;simp only[Bx.ds]at hd;obtain⟨q,J,hd⟩:=nj.1 hd;exact CO (I q J) d hd
 | vd x n=>simp only[Bx.ds];intro d hd;simp at hd;subst hd;exact h
 | arr t z es c=>simp only[Bx.ds];intro d hd;simp at hd;subst hd;exact Good.ag h
 | gone=>simp[Bx.ds]
theorem DR (h:Rel av w0 e0 pS pB a w e st) {N0:Option Nat} (Z:NOk N0 w0) {k:Nat} (U:k∉pB) {fs fb:List Nat} (aa:∀ i∈fs,i∉pS) (ab:∀ i∈fb,i∉pB) {K:St->Prop} (hs:HH N0 st k fs fb K) :
  ∃ s z N,K (st.clo k s z N)/\Rel av w0 e0 pS pB a w e (st.clo k s z N)/\s.refs=[]:=by
 unfold HH at hs;split at hs
 rotate_left
 ·exact hs.elim
 rename_i n0 t z es c hk Y;have Y:=mN Y;obtain rfl:=Z _ rfl;obtain⟨h1,hs⟩:=rc hs;obtain⟨h2,hs⟩:=rZ hs;refine⟨_,_,_,hs ((e.at k).map λb=>⟨b,0,none⟩) w.heap.size h.hN ?_,H7 h hk U h1 h2,rfl⟩;have O:∀ ad,((e.at k).map λb=>(⟨b,0,none⟩:Addr))=some ad->ad.off=0/\Lives pB e st.bx k ad.block:=λad I=>by
  cases V:e.at k with
  | none=>simp[V]at I
  | some b=>simp[V]at I;subst I;exact⟨rfl,U,V,_,hk,by simp⟩
 have J:∀ b,Lives pB e st.bx k b->∀ d,Good w (zF av pB e st.bx) d->b∉d.foot:=λb hl d hd hc=>hd.2 b hc (.inr ⟨k,hl⟩);refine⟨λad I=>?_,λad I=>Lives.lt h.toMem (O ad I).2,λad I=>(O ad I).1,λad I d hd=>?_⟩
 ·rcases h.own k _ (O ad I).2 with h3 | h3
  ·exact h3
  ·omega
 ·have J:=J _ (O ad I).2;simp only[nJ]at hd;rcases oH.1 hd with rfl | hd
  ·exact J _ (Good.ag (h.bo k _ hk U))
  ·rcases oO.1 hd with hd | hd
   ·obtain⟨i,hi,hd⟩:=nj.1 hd;cases hp:st.sl[i]? with
    | none=>rw[oA,hp]at hd;simp[PV.ds,PV.ds1]at hd
    | some p=>rw[oA,hp]at hd;exact J d (Ku (h.so i p hp (aa i hi)) d hd)
   ·obtain⟨j,hj,hd⟩:=nj.1 hd;split at hd
    ·simp at hd
    ·cases hB:st.bx[j]? with
     | none=>rw[oA,hB]at hd;simp[Bx.ds]at hd
     | some B=>rw[oA,hB]at hd;exact J d (Il (h.bo j B hB (ab j hj)) d hd)
variable {av:Nat->Prop} {P:Program} {w0 w w':World} {e0 e:Env} {pS pS' pB:List Nat} {a:Act} {st st':St}
def zY (P:Program):List TypeId->List PV->List PV
 | t::ts,p::ps=>retag P t p::zY P ts ps
 | _,ps=>ps
def Li (P:Program)(p:PV):List TypeId:=
 match p with
 | .fn f _=>match P.funcs[f]? with
   | some fn=>fn.params.toList
   | none=>[]
 | _=>[]
theorem yf:∀(ts:List TypeId)(ps:List PV),(zY P ts ps).length=ps.length
 | [],ps=>rfl
 | t::ts,[]=>rfl
 | t::ts,p::ps=>by simp[zY,yf ts ps]
theorem vW:∀(ts:List TypeId)(ps:List PV)(i:Nat)(q:PV),(zY P ts ps)[i]?=some q->∃ p,ps[i]?=some p/\(q=p\/∃ t,q=retag P t p)
 | [],ps,i,q,h=>⟨q,h,.inl rfl⟩
 | t::ts,[],i,q,h=>by simp[zY]at h
 | t::ts,p::ps,i,q,h=>by
   cases i with
   | zero=>simp[zY]at h;exact⟨p,rfl,.inr ⟨t,h.symm⟩⟩
   | succ i=>simp[zY]at h;simpa using vW ts ps i q h
def Nn:List Sh->Option (List Sh)
 | .row _ z::l=>match Nat.beq z 1000007 with
   | true=>some l
   | false=>none
 | _=>none
def L1 (P:Program)(sh:FuncId->List Sh)(st:St)(dst:Option Nat)(x:Operand)(args:List PV)(K:St->Prop):Prop:=
 match KA (opd st.sl x)with
 | some (f,_)=>match Nn (sh f)with
   | some rs=>L0 P rs st dst x args K
   | none=>Km P sh st dst x args K
 | none=>False
def Kn (sh:FuncId->List Sh)(st:St)(x:Operand)(args:List PV):List Nat:=
 match KA (opd st.sl x)with
 | some (f,caps)=>match Nn (sh f)with
   | some _=>sg st.bx 200 (PV.refsL (args++caps)) []
   | none=>[]
 | none=>[]
def NE (P:Program) (sh:FuncId->List Sh) (o:Oper) (st:St) (K:St->Prop):Prop:=
 match o.op with
 | .store t x y=>stF P (opd st.sl) (λk=>st.bx[k]?) t x y λk B=>K (St.put { st with bx:=st.bx.set k B } o.dst (.tp []))
 | .call c=>match c.callee with
   | .builtin .append=>match c.args.toList,c.argTypes.toList with
     | [x,y],[t,I]=>if t=I then apF false P st o.dst t x y K else match P.underlying I with
       | some .string=>qIo P st o.dst t I x y K
       | _=>LA P st o.dst t I x y K
     | _,_=>False
   | .builtin .clear=>match c.args.toList,c.argTypes.toList with
     | [x],[t]=>HG P st o.dst t x K
     | _,_=>False
   | .builtin .cap=>match c.args.toList,c.argTypes.toList with
     | [x],[t]=>match P.underlying t,Nh (opd st.sl x)with
       | some (.slice _),some n=>K (st.put o.dst (.int .i64 n))
       | _,_=>False
     | _,_=>False
   | .value x=>L1 P sh st o.dst x (zY P (Li P (opd st.sl x)) (c.args.toList.map (opd st.sl))) K
   | _=>False
 | _=>False
def qF (P:Program) (sh:FuncId->List Sh) (o:Oper) (st:St):List Nat:=
 match o.op with
 | .store t x y=>match opd st.sl x with
   | .pb k _ _ _=>[k]
   | _=>[]
 | .call c=>match c.callee with
   | .builtin .append=>match c.args.toList,c.argTypes.toList with
     | [x,y],[t,I]=>match retag P t (opd st.sl x)with
       | .sb k _ _ _ _=>[k]
       | _=>[]
     | _,_=>[]
   | .builtin .clear=>match c.args.toList with
     | [x]=>match opd st.sl x with
       | .sb k _ _ _ _=>[k]
       | _=>[]
     | _=>[]
   | .value x=>Kn sh st x (zY P (Li P (opd st.sl x)) (c.args.toList.map (opd st.sl)))
   | _=>[]
 | _=>[]
def If (st:St)(T:List Nat):List Nat:=T.filter λk=>(st.bx.getD k .gone).isArr
theorem Ig {T:List Nat}:∀ k∈If st T,k∈T:=λk h=>(mJ.1 h).1
structure Stp (T TA:List Nat) (dst:Option Nat) (st st':St):Prop where
 sl:∀(i:Nat) (p:PV),some i≠dst->st.sl[i]?=some p->(∀ k∈TA,k∉p.refs)->st'.sl[i]?=some p
 bx:∀(k:Nat) (B:Bx),st.bx[k]?=some B->k∉T->(∀ j∈T,j∉B.refs)->st'.bx[k]?=some B
 bl:st.bx.length<=st'.bx.length
 ll:st'.sl.length=st.sl.length
theorem Stp.rfl' {T TA:List Nat}{dst:Option Nat}:Stp T TA dst st st:=⟨λ_ _ _ h _=>h,λ_ _ h _ _=>h,oG _,rfl⟩
theorem Stp.put {T TA:List Nat}{dst:Option Nat}(h:Stp T TA dst st st')(p:PV):Stp T TA dst st (st'.put dst p):=by
 cases dst with
 | none=>exact h
 | some d=>refine⟨λi q hi I J=>?_,λk B O U V=>h.bx k B O U V,h.bl,by simp[St.put,h.ll]⟩;simp only[St.put];rw[nf (λhc=>hi (by rw[hc]))];exact h.sl i q hi I J
theorem Stp.app {T TA:List Nat}{dst:Option Nat}(h:Stp T TA dst st st')(rows:List Bx)(N:Nat):Stp T TA dst st { st' with bx:=st'.bx++rows,N:=N }:=by
 refine⟨h.sl,λk B I J O=>?_,by simp;have:=h.bl;omega,h.ll⟩
 have:=h.bx k B I J O
 simp only;rw[oJ (oC.1 this).1];exact this
theorem Stp.set {T TA:List Nat}{dst:Option Nat}(h:Stp T TA dst st st'){k:Nat}(J:k∈T)(B:Bx):Stp T TA dst st { st' with bx:=st'.bx.set k B }:=by refine⟨h.sl,λj C O I U=>?_,by simp;exact h.bl,h.ll⟩;simp only;rw[nf (λhc=>I (by rw[<-hc];exact J))];exact h.bx j C O I U
theorem p6 {k:Nat}{p:PV}(h:k∉p.refs):p.kill k=p:=by simp[PV.kill,h]
theorem Stp.kill {T TA:List Nat}{dst:Option Nat}(h:Stp T TA dst st st'){k:Nat}(U:k∈T)(V:k∈TA):Stp T TA dst st (st'.kill k):=by
 refine⟨λi p hi I J=>?_,λj C Y Z O=>?_,by simp[St.kill];exact h.bl,by simp[St.kill,h.ll]⟩
 ·simp only[St.kill,oE,h.sl i p hi I J,oU,p6 (J k V)]
 ·simp only[St.kill,oE,h.bx j C Y Z O,oU];congr 1;cases C with
  | var cs=>
    simp only[Bx.kill];congr 1
    conv=>rhs;rw[<-List.map_id cs]
    refine o7 λp I=>p6 λhc=>O k U ?_;simp only[Bx.refs];exact PV.refsL_mem.2 ⟨p,I,hc⟩
  | _=>rfl
theorem AW {T TA:List Nat}{dst:Option Nat}{bx:List Bx}:∀(ks:List Nat)(st':St),(∀ k∈ks,k∈T)->(∀ k∈ks,(bx.getD k .gone).isArr=true->k∈TA)->Stp T TA dst st st'->Stp T TA dst st (yv bx ks st')
 | [],st',_,_,h=>h
 | k::ks,st',J,O,h=>by
   simp only[yv];split
   ·rename_i hc;exact AW ks _ (λj I=>J j (by simp[I])) (λj I=>O j (by simp[I])) (h.kill (J k (by simp)) (O k (by simp) hc))
   ·exact AW ks _ (λj I=>J j (by simp[I])) (λj I=>O j (by simp[I])) h
theorem Mf {dst:Option Nat}(ks:List Nat)(nb rows:List Bx)(N:Nat):Stp ks (If st ks) dst st (NG st ks nb rows N):=by
 have I:=AW (dst:=dst) (bx:=st.bx) ks st (λ_ h=>h) (λk J hc=>mJ.2 ⟨J,hc⟩) Stp.rfl';refine Stp.app (st':={ yv st.bx ks st with bx:=bxN ks (nb.map (Bx.mapR λj=>ks.getD j 0)) 0 (yv st.bx ks st).bx }) ⟨I.sl,λk B J O U=>?_,by simp only[yO];exact I.bl,I.ll⟩ rows N;have V:=I.bx k B J O U;simp only[EO,V,oU,nX];cases Y:pos ks k with
 | none=>rfl
 | some j=>exact absurd (oB (u3 Y)) O
theorem IN {ρ:Operand->PV}{rb:Nat->Option Bx}{t:TypeId}{x y:Operand}{K:Nat->Bx->Prop}(h:stF P ρ rb t x y K):stF P ρ rb t x y λk B=>(∃ z i o,ρ x=.pb k z i o)/\K k B:=by
 unfold stF at h ⊢;split at h
 ·rename_i z k zz i o J I;split at h
  ·rename_i B O;have:(λB=>(∃ z i o,ρ x=.pb k z i o)/\K k B)=K k:=by funext B;exact propext ⟨λh=>h.2,λh=>⟨⟨_,_,_,I⟩,h⟩⟩
   show Gj z zz B i o (retag P t (ρ y)) (λB=>(∃ z i o,ρ x=.pb k z i o)/\K k B);rw[this];exact h
  ·exact h.elim
 ·exact h.elim
theorem Gw {g:Bool} {dst:Option Nat} {t:TypeId} {x y:Operand} {K:St->Prop} {T:List Nat} (I:T=match retag P t (opd st.sl x)with | .sb k _ _ _ _=>[k] | _=>[]) (h:apF g P st dst t x y K) :
  apF g P st dst t x y λst'=>Stp T (If st T) dst st st'/\K st':=by
 have mono:∀(q:PV) (R R':Nat->List D->Prop),(∀ z l,R z l->R' z l)->F3 g (λk=>st.bx[k]?) q R->F3 g (λk=>st.bx[k]?) q R':=λq R R' U h=>by
  unfold F3 at h ⊢;split at h
  ·rename_i k z lo n c;simp only;split at h
   ·rename_i J;simp only[J];split at h
    ·split at h
     ·rename_i hc;rw[if_pos hc];exact U _ _ h
     ·exact h.elim
    ·split at h
     ·rename_i hc;rw[if_pos hc];exact⟨h.1,U _ _ h.2⟩
     ·exact h.elim
   ·exact h.elim
  ·exact U _ _ h
  ·exact h.elim
 unfold apF at h ⊢;split at h
 rotate_left
 ·exact h.elim
 rename_i el V
 try simp only[V]
 split at h
 rotate_left
 ·exact h.elim
 rename_i z i hz hi
 try simp only[hz,hi]
 split at h
 ·exact h.elim
 rename_i hb;rw[if_neg hb];refine mono _ _ _ (λz2 new h=>?_) h;split at h
 rotate_left
 ·exact h.elim
 rename_i Y;rw[if_pos Y];split at h
 ·rename_i k z1 lo n c O;rw[O]at I;simp only at I
  try simp only[O]
  split at h
  ·exact h.elim
  rename_i Z
  try simp only[Z]
  split at h
  ·rename_i t' z' es c' J
   try simp only[J]
   split at h
   ·rename_i hc;rw[if_pos hc];refine⟨h.1,h.2.1,λc2=>(h.2.2 c2).mono λh=>⟨?_,h⟩⟩;refine Stp.put (Stp.set (st':=st.kill k) (Stp.kill Stp.rfl' (by rw[I];simp) (by rw[I];simp[If,oA,J,Bx.isArr])) (by rw[I];simp) _) _
   ·exact h.elim
  ·exact h.elim
 ·rename_i ad z1 es c O
  try simp only[O]
  split at h
  ·rename_i hc;rw[if_pos hc];refine⟨h.1,h.2.1,λc2=>⟨?_,h.2.2 c2⟩⟩;exact Stp.put (Stp.app Stp.rfl' _ _) _
  ·exact h.elim
 ·exact h.elim
theorem JF (h:Rel av w0 e0 pS pB a w e st) (ab:∀ k∈pB,k<st.bx.length) {sh:FuncId->List Sh} {o:Oper} {K:St->Prop}
  (Y:∀ x∈o.op.operands,∀ t,x=.tmp t->t∉pS) (Z:∀ i,i∈pS->some i≠o.dst->i∈pS') (hs:NE P sh o st K)
  {next:Act->World->Prop} {Q:Exit->Act->World->Prop}
  (hn:∀ v w' e' st',K st'->Stp (qF P sh o st) (If st (qF P sh o st)) o.dst st st'->Rel av w0 e0 pS' pB (a.put o.dst v) w' e' st'->next (a.put o.dst v) w'):o.wp P a w next Q:=by
 unfold NE at hs;split at hs
 ·rename_i t x y J;have V:qF P sh o st=match opd st.sl x with | .pb k _ _ _=>[k] | _=>[]:=by simp only[qF,J]
  rw[J]at Y;simp only[Op.operands]at Y;obtain⟨w',k,B',h1,⟨⟨z,i,oo,hk⟩,h2⟩,h3⟩:=IM h (Y x (by simp)) (Y y (by simp)) (IN hs);have O:(execOp a.eval o).run P w=.ok .skip w':=by obtain⟨dst,op,ty,pos,after,guard⟩:=o;simp only at J;subst J;simp[execOp,h1]
  unfold Oper.wp;rw[O,Oper.upon_skip];refine hn undef w' e _ h2 ?_ (yP h3 ⟨.inr rfl,by simp[PV.Ok,PV.OkL],by simp[PV.refs,PV.refsL]⟩ Z);rw[V,hk];exact Stp.put (Stp.set Stp.rfl' (by simp) _) _
 ·rename_i c J;rw[J]at Y;simp only[Op.operands,Call.operands]at Y;split at hs
  ·rename_i hc;split at hs
   ·rename_i x y t t' I U;split at hs
    rotate_left
    ·have hm:∀ z,z∈[x,y]->z∈c.args:=λz hz=>by rw[<-I]at hz;exact oq.1 hz
     split at hs
     ·skip
      obtain⟨v,w',e',st',h1,h3,h4,k,z,lo,n,cc,B,q,hq,⟨t1,z1,ax,c1,hk⟩,h2⟩:=E4 h (ty:=o.type) (Y x (by simp[hm])) (Y y (by simp[hm])) Z hs;have ea:c.args=#[x,y]:=by rw[<-nN,I]
      have et:c.argTypes=#[t,t']:=by rw[<-nN,U]
      have O:(execOp a.eval o).run P w=.ok (.value v) w':=by obtain⟨dst,op,ty,pos,after,guard⟩:=o;simp only at J h1;subst J;simp[execOp,resolve,hc,invoke,builtin,ea,et,h1]
      unfold Oper.wp;rw[O,Oper.upon_value];refine hn v w' e' st' h3 ?_ h4;rw[h2];have V:qF P sh o st=[k]:=by simp only[qF,J,hc,I,U,hq]
      rw[V];exact Stp.put (Stp.set (st':=st.kill k) (Stp.kill Stp.rfl' (by simp) (by simp[If,oA,hk,Bx.isArr])) (by simp) _) _
     ·skip
      obtain⟨v,w',e',st',h1,h3,h4,rows,q,h2⟩:=GS h ab (ty:=o.type) (Y x (by simp[hm])) (Y y (by simp[hm])) Z hs;have ea:c.args=#[x,y]:=by rw[<-nN,I]
      have et:c.argTypes=#[t,t']:=by rw[<-nN,U]
      have O:(execOp a.eval o).run P w=.ok (.value v) w':=by obtain⟨dst,op,ty,pos,after,guard⟩:=o;simp only at J h1;subst J;simp[execOp,resolve,hc,invoke,builtin,ea,et,h1]
      unfold Oper.wp;rw[O,Oper.upon_value];refine hn v w' e' st' h3 ?_ h4;rw[h2];exact Stp.put (Stp.app (N:=st.N) Stp.rfl' rows) q
    rename_i al;subst al;have hm:∀ z,z∈[x,y]->z∈c.args:=λz hz=>by rw[<-I]at hz;exact oq.1 hz
    have V:qF P sh o st=match retag P t (opd st.sl x)with | .sb k _ _ _ _=>[k] | _=>[]:=by simp only[qF,J,hc,I,U]
    obtain⟨v,w',e',st',h1,⟨h2,h3⟩,h4⟩:=Gv h ab (ty:=o.type) (Y x (by simp[hm])) (Y y (by simp[hm])) Z (Gw V hs);have ea:c.args=#[x,y]:=by rw[<-nN,I]
    have et:c.argTypes=#[t,t]:=by rw[<-nN,U]
    have O:(execOp a.eval o).run P w=.ok (.value v) w':=by obtain⟨dst,op,ty,pos,after,guard⟩:=o;simp only at J h1;subst J;simp[execOp,resolve,hc,invoke,builtin,ea,et,h1]
    unfold Oper.wp;rw[O,Oper.upon_value];exact hn v w' e' st' h3 h2 h4
   ·exact hs.elim
  ·rename_i hc;split at hs
   ·rename_i x t I U;have hm:∀ z,z∈[x]->z∈c.args:=λz hz=>by rw[<-I]at hz;exact oq.1 hz
    obtain⟨v,w',st',h1,h3,h4,k,B,⟨z,lo,n,cc,hk⟩,h2⟩:=EX h (ty:=o.type) (Y x (by simp[hm])) Z hs;have V:qF P sh o st=[k]:=by simp only[qF,J,hc,I,hk]
    have ea:c.args=#[x]:=by rw[<-nN,I]
    have et:c.argTypes=#[t]:=by rw[<-nN,U]
    have O:(execOp a.eval o).run P w=.ok (.value v) w':=by obtain⟨dst,op,ty,pos,after,guard⟩:=o;simp only at J h1;subst J;simp[execOp,resolve,hc,invoke,builtin,ea,et,h1]
    unfold Oper.wp;rw[O,Oper.upon_value];refine hn v w' e st' h3 ?_ h4;rw[V,h2];exact Stp.put (Stp.set Stp.rfl' (by simp) _) _
   ·exact hs.elim
  ·rename_i hc;split at hs
   ·rename_i x t I U;split at hs
    ·rename_i el n ao ac;have hm:∀ z,z∈[x]->z∈c.args:=λz hz=>by rw[<-I]at hz;exact oq.1 hz
     have ox:=(yT h (Y x (by simp[hm]))).valOk;have ea:c.args=#[x]:=by rw[<-nN,I]
     have et:c.argTypes=#[t]:=by rw[<-nN,U]
     have hv:∃(b:Option Addr) (m:Nat),a.eval x=.slice b m n:=by
      cases aq:opd st.sl x<;>rw[aq]at ac ox<;>simp[Nh]at ac
      ·subst ac
       have:=ox.1.resolve_left (by simp)
       exact⟨_,_,this⟩
      ·subst ac
       have:=ox.1.resolve_left (by simp)
       rw[this];simp only[PV.val,PV.val1,PV.cv];split<;>exact⟨_,_,rfl⟩
     obtain⟨b,m,hv⟩:=hv;have O:(execOp a.eval o).run P w=.ok (.value (.int .i64 n)) w:=by obtain⟨dst,op,ty,pos,after,guard⟩:=o;simp only at J;subst J;simp[execOp,resolve,hc,invoke,builtin,ea,et,Builtin.cap_,run_underlying ao,hv,goInt]
     unfold Oper.wp;rw[O,Oper.upon_value];exact hn _ w e _ hs (Stp.put Stp.rfl' _) (yP h zQ Z)
    ·exact hs.elim
   ·exact hs.elim
  ·rename_i x hc;have V:qF P sh o st=Kn sh st x (zY P (Li P (opd st.sl x)) (c.args.toList.map (opd st.sl))):=by simp only[qF,J,hc]
   rw[V]at hn;have ae:∀(i:Nat) (p:PV) (y:Operand),(zY P (Li P (opd st.sl x)) (c.args.toList.map (opd st.sl)))[i]?=some p->c.args[i]?=some y->ValOk av w e pB st.bx (a.eval y) p:=λi p y hp hy=>by
    obtain⟨q,hq,au⟩:=vW _ _ _ _ hp;rw[oE]at hq;simp only[nF,hy,oU,od]at hq;subst hq
    have:=(yT h (Y y (by simp[Array.mem_of_getElem? hy]))).valOk
    rcases au with rfl | ⟨t,rfl⟩
    ·exact this
    ·exact this.retag t
   have ah:(zY P (Li P (opd st.sl x)) (c.args.toList.map (opd st.sl))).length=c.args.size:=by rw[yf];simp
   generalize zY P (Li P (opd st.sl x)) (c.args.toList.map (opd st.sl))=args at hs hn ae ah;unfold L1 at hs;unfold Kn at hn;split at hs
   ·rename_i f caps hf;simp only[hf]at hn;split at hs
    ·rename_i rs ai;simp only[ai]at hn;unfold L0 at hs;rw[hf]at hs;simp only at hs;split at hs
     ·rename_i aa;rw[oc]at aa;have aj:∀ k∈PV.refsL (args++caps),k∉pB:=λk hk=>by
       obtain⟨p,hp,ak⟩:=PV.refsL_mem.1 hk;rcases oO.1 hp with hp | hp
       ·obtain⟨i,hi⟩:=oS.1 hp;have aw:i<c.args.size:=by rw[<-ah];exact(oC.1 hi).1
        exact((ae i p _ hi (ol aw)).2.2 k ak).1
       ·have ox:=ut (yT h (Y x (by simp[hc]))).valOk hf;exact(ox.2.2 k (by simp only[PV.refs];exact PV.refsL_mem.2 ⟨p,hp,ak⟩)).1
      refine EV h ab J hc (Y x (by simp[hc])) ah ae hf aa (wO 200 _ [] mZ) (si (A:=λk=>k∉pB) (λk hk j hj=>?_) 200 _ [] aj (by simp)) Z hs λv w' e' st' h1 h2 h3=>?_
      ·rw[oA]at hj;cases hB:st.bx[k]? with
       | none=>rw[hB]at hj;simp[Bx.refs]at hj
       | some B=>rw[hB]at hj;exact(h.bf k B hB hk j hj).1
      ·obtain⟨nb,rows,N,q,rfl⟩:=h2;exact hn v w' e' _ h1 (Stp.put (Mf _ _ _ _) _) h3
     ·exact hs.elim
    ·rename_i ai;simp only[ai]at hn;refine EW h ab J hc (Y x (by simp[hc])) ah ae Z hs λv w' e' st' h1 h2 h3=>?_;obtain⟨rows,q,N,rfl⟩:=h2;exact hn v w' e' _ h1 (Stp.put (Stp.app Stp.rfl' _ _) _) h3
   ·exact hs.elim
  ·exact hs.elim
 ·exact hs.elim
variable {av:Nat->Prop} {P:Program} {w0 w w':World} {e0 e:Env} {pS pS' pB pB':List Nat} {a:Act} {st st':St}
structure MkH where
 place:Option Nat:=none
 keep:List Nat:=[]
 same:Option Nat:=none
structure Ent where
 i:Nat
 hard:Bool:=false
 cl:List Nat:=[]
 fs:List Nat:=[]
 mh:Option MkH:=none
 tr:Bool:=false
def Br (v:Bool)(A B:Prop):Prop:=match v with
 | true=>A
 | false=>B
theorem Br.spec {v:Bool}{A B:Prop}(h:Br v A B):(v=true/\A)\/(v=false/\B):=by
 cases v
 ·exact .inr ⟨rfl,h⟩
 ·exact .inl ⟨rfl,h⟩
def IU (ops:Array Oper) (o:Oper) (st:St) (A B:St->Prop):Prop:=
 match o.guard with
 | none=>A st
 | some (g,I)=>match ops[g]? with
   | some J=>match J.dst with
     | some d=>match st.sl[d]? with
       | some (.bool v)=>Br v (match I with
         | true=>A (st.put (some d) (.bool true))
         | false=>B (st.put (some d) (.bool true))) (match I with
         | true=>B (st.put (some d) (.bool false))
         | false=>A (st.put (some d) (.bool false)))
       | some (.tp [])=>B st
       | _=>False
     | none=>False
   | none=>False
def Le (ops:Array Oper)(o:Oper)(st:St):Prop:=∀ g I,o.guard=some (g,I)->∃ J d,ops[g]?=some J/\J.dst=some d/\st.sl[d]?=some (.bool I)
def Mx (ops:Array Oper)(o:Oper)(st:St):Prop:=∃ g I J d,o.guard=some (g,I)/\ops[g]?=some J/\J.dst=some d/\(st.sl[d]?=some (.bool (!I))\/st.sl[d]?=some (.tp []))
theorem Ca {d:Nat}{p:PV}(h:st.sl[d]?=some p):st.put (some d) p=st:=
 St.put_same λd' hd I=>by cases hd;exact h
theorem By {ops:Array Oper}{o:Oper}{A B:St->Prop}(h:IU ops o st A B):(Le ops o st/\A st)\/(Mx ops o st/\B st):=by
 unfold IU at h;split at h
 ·rename_i U;exact .inl ⟨λg I hc=>(by rw[U]at hc;cases hc),h⟩
 ·rename_i g I U;split at h
  ·rename_i Y J;split at h
   ·rename_i d hd;split at h
    ·rename_i v O;rcases h.spec with⟨rfl,h⟩ | ⟨rfl,h⟩
     ·rw[Ca O]at h;cases I
      ·exact .inr ⟨⟨g,false,Y,d,U,J,hd,.inl O⟩,h⟩
      ·exact .inl ⟨λZ V hc=>(by rw[U]at hc;cases hc;exact⟨Y,d,J,hd,O⟩),h⟩
     ·rw[Ca O]at h;cases I
      ·exact .inl ⟨λZ V hc=>(by rw[U]at hc;cases hc;exact⟨Y,d,J,hd,O⟩),h⟩
      ·exact .inr ⟨⟨g,true,Y,d,U,J,hd,.inl O⟩,h⟩
    ·rename_i O;exact .inr ⟨⟨g,I,Y,d,U,J,hd,.inr O⟩,h⟩
    ·exact h.elim
   ·exact h.elim
  ·exact h.elim
theorem EH (h:Rel av w0 e0 pS pB a w e st){ops:Array Oper}{o:Oper}(hw:Le ops o st)(hl:∀ t∈o.looksAt ops,t∉pS):Region.wanted o (yielded ops a.tmps)=true:=by
 unfold Region.wanted;cases Y:o.guard with
 | none=>rfl
 | some gw=>
   obtain⟨g,I⟩:=gw;obtain⟨og,d,Z,h2,h3⟩:=hw g I Y;have U:d∉pS:=hl d (by simp[Oper.looksAt,Y,Z,h2]);have V:=(h.hs d _ h3 U).resolve_left (by simp);have J:d<a.tmps.size:=om (oC.1 h3).1 h.sz;have O:a.tmps[d]?=some (.bool I):=by rw[o3,ol J]at V;rw[ol J];simp only[nA]at V;rw[V];rfl
   simp[yielded,Z,h2,O]
theorem Dy (h:Rel av w0 e0 pS pB a w e st){ops:Array Oper}{o:Oper}(hw:Mx ops o st)(hl:∀ t∈o.looksAt ops,t∉pS):Region.wanted o (yielded ops a.tmps)=false:=by
 obtain⟨g,U,og,d,hg,Y,Z,h3⟩:=hw;have V:d∉pS:=hl d (by simp[Oper.looksAt,hg,Y,Z]);unfold Region.wanted;rw[hg];rcases h3 with h3 | h3
 ·have O:=(h.hs d _ h3 V).resolve_left (by simp);have J:d<a.tmps.size:=om (oC.1 h3).1 h.sz;have I:a.tmps[d]?=some (.bool (!U)):=by rw[o3,ol J]at O;rw[ol J];simp only[nA]at O;rw[O];rfl
  simp[yielded,Y,Z,I]
 ·have O:=(h.hs d _ h3 V).resolve_left (by simp);have J:d<a.tmps.size:=om (oC.1 h3).1 h.sz;have I:∃ l',a.tmps[d]?=some (.tuple l'):=by rw[o3,ol J]at O;rw[ol J];simp only[nA]at O;rw[O];exact⟨_,rfl⟩
  obtain⟨l',I⟩:=I;simp[yielded,Y,Z,I]
theorem ud (h:Rel av w0 e0 pS pB a w e st)(hp:∀ k,k∈pB'↔k∈pB)(hs:∀ i,i∈pS->i∈pS'):Rel av w0 e0 pS' pB' a w e st:=by
 have U:∀ k,k∉pB'↔k∉pB:=λk=>not_congr (hp k);have Y:∀ k b,Lives pB' e st.bx k b↔Lives pB e st.bx k b:=λk b=>by unfold Lives;rw[U]
 have Z:zF av pB' e st.bx=zF av pB e st.bx:=by funext b;unfold zF;exact propext (or_congr mi (exists_congr λk=>Y k b))
 have V:∀ i,i∉pS'->i∉pS:=λi hi hc=>hi (hs i hc);exact {
  el:=h.el
  br:=λk B I J=>h.br k B I ((U k).1 J)
  bo:=λk B I J=>by rw[Z];exact h.bo k B I ((U k).1 J)
  bf:=λk B I J j hj=>by have:=h.bf k B I ((U k).1 J) j hj;exact⟨(U j).2 this.1,this.2⟩
  inj:=λk j b h1 h2=>h.inj k j b ((Y k b).1 h1) ((Y j b).1 h2)
  ku:=h.ku
  size:=h.size
  old:=h.old
  fz:=h.fz
  nd:=h.nd
  sz:=h.sz
  hN:=h.hN
  hs:=λi p hi O=>h.hs i p hi (V i O)
  so:=λi p hi O=>by rw[Z];exact h.so i p hi (V i O)
  sr:=λi p hi O k I=>by have:=h.sr i p hi (V i O) k I;exact⟨(U k).2 this.1,this.2⟩
  own:=λk b I=>h.own k b ((Y k b).1 I)
  avl:=h.avl
  avn:=λk b I=>h.avn k b ((Y k b).1 I)
  pin:=λk b hb=>by have:=h.pin k b hb;exact⟨this.1,(U k).2 this.2⟩
  pit:=h.pit }
theorem LB (h:Rel av w0 e0 pS pB a w e st) (Z:∀ k∈pB,k<st.bx.length) {o:Oper} (hx:∀ x∈o.op.operands,∀ t,x=.tmp t->t∉pS) {K:Res->Prop}
  (hs:nev P (opd st.sl) (λk=>st.bx[k]?) o.op o.type K) :
  ∃ v w' e' r,(execOp a.eval o).run P w=.ok (.value v) w'/\K r/\Rel av w0 e0 pS pB (a.put o.dst v) w' e' (st.push o.dst r):=by
 obtain⟨r,hK,V⟩:=Hc _ hs;have V:=V (λq=>q=r) rfl;cases r with
 | v p=>
   rcases pA h hx V with⟨v,q,O,J,I⟩ | ⟨v,c,t,B,f,O,J,I⟩
   ·cases J;exact⟨v,w,e,.v p,O,hK,yP h I λi hi _=>hi⟩
   ·cases J
 | b B f=>
   have O:=vU h (B:=B);have aa:nev P (opd st.sl) (λk=>(st.bx++[B])[k]?) o.op o.type (λq=>q=.b B f):=by
    rw[AC (ρ:=opd st.sl) (rb:=λk=>st.bx[k]?) (λ_ _=>rfl) λx ab k Y=>?_]
    ·exact V
    ·have:=(yT h (hx x ab)).rf k Y
     exact oJ this.2
   rcases pA O hx aa with⟨v,q,O,J,I⟩ | ⟨v,c,t,B',f',h4,J,I⟩
   ·cases J
   ·cases J;have h5:=tg O (k:=st.bx.length) (B:=B) (by simp) (by simp) I;have U:st.bx.length<(e++[none]).length:=by simp[h.el]
    have h6:ValOk av (w.alloc (.cells c t)) ((e++[none]).set st.bx.length (some w.heap.size)) ((st.bx.length::pB).filter (·≠st.bx.length)) (st.bx++[B]) v (f st.bx.length):=
     ⟨.inr (I.val _ _ (Env.at_set_eq U)),I.fok _ _ _,by rw[I.fr];simp⟩
    refine⟨v,_,_,.b B f,h4,hK,ud (pS:=pS) (yP h5 h6 λi hi _=>hi) (λk=>?_) λ_=>id⟩;simp only[mJ,oH,ne_eq,oi];constructor
    ·intro Y;have:=Z k Y;exact⟨.inr Y,by omega⟩
    ·rintro⟨h7 | h7,h8⟩
     ·exact absurd h7 h8
     ·exact h7
def JE (P:Program)(sh:FuncId->List Sh)(o:Oper)(st:St)(K:St->Prop):Prop:=
 match K4 o.op with
 | true=>nev P (opd st.sl) (λk=>st.bx[k]?) o.op o.type λr=>K (st.push o.dst r)
 | false=>NE P sh o st K
def Fu (P:Program)(sh:FuncId->List Sh)(o:Oper)(st:St):List Nat:=
 match K4 o.op with
 | true=>[]
 | false=>qF P sh o st
theorem Fs {dst:Option Nat}{r:Res}:Stp [] [] dst st (st.push dst r):=by
 cases r with
 | v p=>exact Stp.put Stp.rfl' p
 | b B f=>exact Stp.put (Stp.app Stp.rfl' [B] st.N) _
theorem DZ (h:Rel av w0 e0 pS pB a w e st) (J:∀ k∈pB,k<st.bx.length) {sh:FuncId->List Sh} {o:Oper} {K:St->Prop}
  (U:∀ x∈o.op.operands,∀ t,x=.tmp t->t∉pS) (hs:JE P sh o st K)
  {next:Act->World->Prop} {Q:Exit->Act->World->Prop}
  (O:∀ v w' e' st',K st'->Stp (Fu P sh o st) (If st (Fu P sh o st)) o.dst st st'->Rel av w0 e0 pS pB (a.put o.dst v) w' e' st'->next (a.put o.dst v) w'):o.wp P a w next Q:=by
 unfold JE at hs;unfold Fu at O;split at hs
 ·rename_i I;simp only[I]at O;obtain⟨v,w',e',r,V,Y,Z⟩:=LB h J U hs;unfold Oper.wp;rw[V,Oper.upon_value];exact O v w' e' _ Y Fs Z
 ·rename_i I;simp only[I]at O;exact JF h J U (λi hi _=>hi) hs O
abbrev Pend:=List (Nat × Option Nat)
def tE (ops:Array Oper)(i:Nat):Option Nat:=(ops[i]?).bind (·.dst)
def Js (T:List Nat)(st:St)(p:PV):Bool:=
 p.refs.all λk=>!T.contains k&&match st.bx[k]? with
  | some B=>B.refs.all λj=>!T.contains j
  | none=>true
def IG (ops:Array Oper)(T:List Nat)(st:St)(x:Nat × Option Nat):Bool:=
 match ops[x.1]? with
 | some o=>(match x.2 with
   | some k=>!T.contains k&&(match st.bx[k]? with
     | some B=>B.refs.all λj=>!T.contains j
     | none=>true)
   | none=>true)&&(o.op.operands.toList.all λy=>Js T st (opd st.sl y))&&(match o.dst with
   | some d=>Js T st (st.sl.getD d .any)
   | none=>true)
 | none=>false
def mvP (ops:Array Oper)(x:Nat × Option Nat):Bool:=match x.2,ops[x.1]? with
 | none,some o=>match o.op with
   | .move _=>true
   | _=>false
 | _,_=>false
def Jr (ops:Array Oper)(T:List Nat)(st:St)(pf:Pend):Bool:=
 match T with
 | []=>true
 | T=>pf.all (IG ops T st)
def NW (ops:Array Oper)(T:List Nat)(st:St)(pf:Pend):Bool:=
 match T with
 | []=>true
 | T=>pf.all λx=>IG ops T st x||(mvP ops x&&IG ops (If st T) st x)
def Jo:Res->Option Nat->Option PV
 | .v p,none=>some p
 | .b _ f,some k=>some (f k)
 | _,_=>none
def Ld (ops:Array Oper)(P:Program)(st:St)(o:Oper)(b:Option Nat):Prop:=
 (Le ops o st/\(∀ y∈o.op.operands,∀ k∈(opd st.sl y).refs,k<st.bx.length)/\∃ r q,nev P (opd st.sl) (fun k=>st.bx[k]?) o.op o.type (fun q=>q=r)/\Jo r b=some q /\
  (∀ d,o.dst=some d->d<st.sl.length->st.sl[d]?=some q)/\∀ B f k,r=.b B f->b=some k->st.bx[k]?=some B) \/
 (Mx ops o st/\b=none/\∀ d,o.dst=some d->d<st.sl.length->st.sl[d]?=some (.tp []))
def Ny (ops:Array Oper)(P:Program)(st:St)(x:Nat × Option Nat):Prop:=∃ o,ops[x.1]?=some o/\Ld ops P st o x.2
structure SafeP (T:List Nat) (st:St) (p:PV):Prop where
 r:∀ k∈T,k∉p.refs
 b:∀ k∈p.refs,k∉T/\∀ B,st.bx[k]?=some B->∀ j∈T,j∉B.refs
theorem Bt {T:List Nat}{p:PV}(h:Js T st p=true):SafeP T st p:=by
 simp only[Js,oc,oM,nC]at h;have O:∀ k∈p.refs,k∉T:=λk I=>by have:=(h k I).1;simpa using this
 refine⟨λk I hc=>O k hc I,λk I=>⟨O k I,λB U j V J=>?_⟩⟩
 have:=(h k I).2
 rw[U]at this;simp only[oc,nC]at this
 have:=this j J
 simp at this;exact this V
structure Safe1 (T:List Nat) (st:St) (o:Oper) (b:Option Nat):Prop where
 op:∀ y∈o.op.operands,SafeP T st (opd st.sl y)
 ds:∀ d,o.dst=some d->SafeP T st (st.sl.getD d .any)
 bx:∀ k,b=some k->k∉T/\∀ B,st.bx[k]?=some B->∀ j∈T,j∉B.refs
theorem pD {o:Oper}{b:Option Nat}:Safe1 [] st o b:=⟨λ_ _=>⟨by simp,by simp⟩,λ_ _=>⟨by simp,by simp⟩,by simp⟩
theorem qD {ops:Array Oper}{T:List Nat}{x:Nat × Option Nat}{o:Oper}(U:ops[x.1]?=some o)(h:IG ops T st x=true):Safe1 T st o x.2:=by
 unfold IG at h;rw[U]at h;simp only[oM]at h;obtain⟨⟨I,V⟩,O⟩:=h;refine⟨λy Y=>Bt (oc.1 V y (oq.2 Y)),λd hd=>?_,λk Z=>?_⟩
 ·rw[hd]at O;exact Bt O
 ·rw[Z]at I;simp only[oM,nC]at I;refine⟨by have:=I.1;simpa using this,λB hB j hj J=>?_⟩
  have:=I.2
  rw[hB]at this;simp only[oc,nC]at this
  have:=this j J
  simp at this;exact this hj
def Nc (T TA:List Nat)(st:St)(o:Oper)(b:Option Nat):Prop:=Safe1 T st o b\/((∃ y,o.op=.move y)/\b=none/\Safe1 TA st o b)
theorem Gi {ops:Array Oper}{T:List Nat}{pf:Pend}(h:Jr ops T st pf=true){x:Nat × Option Nat}(I:x∈pf){o:Oper}(J:ops[x.1]?=some o):Safe1 T st o x.2:=by
 unfold Jr at h;split at h
 ·exact pD
 ·exact qD J (oc.1 h x I)
theorem IH {ops:Array Oper}{T:List Nat}{pf:Pend}(h:NW ops T st pf=true){x:Nat × Option Nat}(U:x∈pf){o:Oper}(J:ops[x.1]?=some o):Nc T (If st T) st o x.2:=by
 unfold NW at h;split at h
 ·exact .inl pD
 ·have:=oc.1 h x U
  rw[mC,oM]at this;rcases this with I | ⟨I,V⟩
  ·exact .inl (qD J I)
  ·refine .inr ⟨?_,?_,qD J V⟩<;>unfold mvP at I<;>split at I
   ·rename_i Y e1 O;rw[J]at O;cases O;split at I
    ·exact⟨_,by assumption⟩
    ·cases I
   ·cases I
   ·assumption
   ·cases I
theorem q9 {ops:Array Oper}{o:Oper}{b:Option Nat}{T TA:List Nat}{dst:Option Nat}(h:Ld ops P st o b)(U:Stp T TA dst st st')(hA:∀ k∈TA,k∈T)(hs:Nc T TA st o b)(hd:∀ d,dst=some d->d∉o.looksAt ops/\o.dst≠some d):Ld ops P st' o b:=by
 have ai:∀ y∈o.op.operands,∀ k∈TA,k∉(opd st.sl y).refs:=λy Y k J=>by
  rcases hs with hs | ⟨_,_,hs⟩
  ·exact(hs.op y Y).r k (hA k J)
  ·exact(hs.op y Y).r k J
 have aj:∀ d,o.dst=some d->∀ k∈TA,k∉(st.sl.getD d .any).refs:=λd I k J=>by
  rcases hs with hs | ⟨_,_,hs⟩
  ·exact(hs.ds d I).r k (hA k J)
  ·exact(hs.ds d I).r k J
 have O:∀ t p,t∈o.looksAt ops->st.sl[t]?=some p->(∀ k∈TA,k∉p.refs)->st'.sl[t]?=some p:=λt p ht hp J=>U.sl t p (λhc=>(hd t hc.symm).1 ht) hp J;have Z:∀ y∈o.op.operands,opd st'.sl y=opd st.sl y:=λy Y=>by
  cases y with
  | tmp t=>
    have V:=ai _ Y;simp only[opd]at V ⊢;rw[oA]at V;rw[oA,oA];cases hp:st.sl[t]? with
    | none=>have:st'.sl[t]?=none:=oh (by rw[U.ll];exact np.1 hp);rw[this]
    | some p=>rw[hp]at V;rw[O t p (by unfold Oper.looksAt;exact oe _ (nT.2 ⟨.tmp t,oq.2 Y,rfl⟩)) hp V]
  | _=>rfl
 have ae:Le ops o st->Le ops o st':=λhw g aa hg=>by obtain⟨og,d,h1,h2,h3⟩:=hw g aa hg;exact⟨og,d,h1,h2,O d _ (by simp[Oper.looksAt,hg,h1,h2]) h3 (by simp[PV.refs])⟩
 have ac:∀ d q,o.dst=some d->st.sl[d]?=some q->(∀ k∈TA,k∉q.refs)->st'.sl[d]?=some q:=λd q I hq J=>U.sl d q (λhc=>(hd d hc.symm).2 I) hq J;rcases h with⟨h1,h0,r,q,h2,h3,h4,h5⟩ | ⟨⟨g,aa,og,d,g1,g2,g3,g4⟩,h2,h3⟩
 ·refine .inl ⟨ae h1,λy Y k J=>?_,r,q,?_,h3,λd I ab=>?_,λB f k hr J=>?_⟩
  ·rw[Z y Y]at J;have:=h0 y Y k J;have:=U.bl;omega
  ·rcases hs with hs | ⟨⟨z,hz⟩,_,_⟩
   ·rw[AC (ρ:=opd st.sl) (rb:=λk=>st.bx[k]?) Z λy Y k J=>?_]
    ·exact h2
    ·have ak:=h0 y Y k J;have ah:=(hs.op y Y).b k J;have hB:st.bx[k]?=some st.bx[k]:=oF ak;show st'.bx[k]?=st.bx[k]?;rw[U.bx k _ hB ah.1 (ah.2 _ hB),hB]
   ·have Z:=Z z (by rw[hz];simp[Op.operands]);rw[hz]at h2 ⊢;simp only[nev,tj]at h2 ⊢;rw[Z];exact h2
  ·rw[U.ll]at ab;have hq:=h4 d I ab;have V:=aj d I;rw[oA,hq]at V;exact ac d q I hq V
  ·rcases hs with hs | ⟨_,hb,_⟩
   ·have hB:=h5 B f k hr J
    have:=hs.bx k J
    exact U.bx k B hB this.1 (this.2 B hB)
   ·rw[hb]at J;cases J
 ·refine .inr ⟨⟨g,aa,og,d,g1,g2,g3,?_⟩,h2,λd' I ab=>?_⟩
  ·have hm:d∈o.looksAt ops:=by simp[Oper.looksAt,g1,g2,g3]
   rcases g4 with g4 | g4
   ·exact .inl (O d _ hm g4 (by simp[PV.refs]))
   ·exact .inr (O d _ hm g4 (by simp[PV.refs,PV.refsL]))
  ·rw[U.ll]at ab;exact ac d' _ I (h3 d' I ab) (by simp[PV.refs,PV.refsL])
variable {av:Nat->Prop} {P:Program} {w0 w w':World} {e0 e:Env} {pS pS' pB pB':List Nat} {a:Act} {st st':St}
mutual
def D.Flat0:D->Prop
 | .lit _=>True
 | .ag cs=>tU cs
 | .sl a _ es _=>(∀ ad,a=some ad->ad.off=0)/\tU es
 | .pt ..=>False
 | .fn ..=>False
 | .mp ..=>False
def tU:List D->Prop
 | []=>True
 | d::ds=>d.Flat0/\tU ds
end
structure Tree (d:D):Prop where
 nd:d.foot.Nodup
 fl:d.Flat0
structure Low (N:Nat) (d:D):Prop where
 h:∀ b∈d.foot,N<=b
structure In (T:List Nat) (d:D):Prop where
 h:∀ b∈d.foot,b∈T
structure Dis (d:D) (ds:List D):Prop where
 h:∀ x∈ds,∀ b∈d.foot,b∉x.foot
structure Once (ds:List D):Prop where
 h:(zA ds).Nodup
def Nd (d d':D):Prop:=(∃ a z es es' c,d=.sl a z es c/\d'=.sl a z es' c)\/(∃ cs cs',d=.ag cs/\d'=.ag cs'/\∀ c∈cs',c.isCell)
structure Mk0 (w0 w:World) (d d':D):Prop where
 size:w0.heap.size<=w.heap.size
 old:∀ b,b<w0.heap.size->b∉d.foot->w.heap[b]?=w0.heap[b]?
 fz:∀(b:Nat) (c:Array Value) (t:TypeId) (z:Nat × Nat),(w0.heap.size<=b\/b∈d.foot)->w.heap[b]?=some (.cells c t z)->Fz z
 hd:Holds w d'
 ft:d'.foot=d.foot
 ku:KU w0 w
structure Mk (w0 w:World) (d d':D):Prop extends Mk0 w0 w d d' where
 cv:d'.cells.map D.cv=d.cells.map D.cv
 sm:Nd d d'
structure MC (P:Program) (f:FuncId) (d:D) (k:Int) (N:Nat) (R:D->Int->Nat->Prop):Prop where
 c:zt P f=true
 h : ∀ w0:World,w0.heap.size=N->GlobIs w0->(∀ b,avG b->b∉d.foot)->(∀ x∈CS,x.1∉d.foot)->Holds w0 d->(∀ b∈d.foot,∃ c t,w0.heap[b]?=some (.cells c t (0,0))) ->
   Calls P f #[d.val,.int .i64 k] w0 fun en w=>match en with
    | .returned v=>∃ d' k',v=.int .i64 k'/\Mk w0 w d d'/\R d' k' w.heap.size
    | _=>False
def D.elems:D->List D
 | .sl _ _ es _=>es
 | _=>[]
def JS:PV->Option D
 | .sv a z es c=>some (.sl a z es c)
 | .dg _ x=>some x
 | _=>none
def vD:PV->Bool
 | .any=>true
 | .int ..=>true
 | .bool ..=>true
 | .str ..=>true
 | .lit ..=>true
 | .sb ..=>true
 | .pb ..=>true
 | .sv ..=>true
 | .d ..=>true
 | .dc ..=>true
 | .dg ..=>true
 | _=>false
def Ik:PV->Bool
 | .any=>true
 | .int ..=>true
 | .bool ..=>true
 | .str ..=>true
 | .lit ..=>true
 | .sb ..=>true
 | .pb ..=>true
 | _=>false
def vO (ks:List Nat):Nat->List PV->List PV
 | _,[]=>[]
 | i,p::ps=>(match Ik p with
   | true=>p
   | false=>match ks.contains i&&vD p with
     | true=>p
     | false=>.any)::vO ks (i+1) ps
def dsL:List PV->List D
 | []=>[]
 | p::ps=>p.ds1++dsL ps
def dsB (k:Option Nat):Nat->List Bx->Option (List D)
 | _,[]=>some []
 | i,B::bs=>match dsB k (i+1) bs with
   | none=>none
   | some ds=>match B with
     | .var cs=>match cs.all vD with
       | true=>some (dsL cs++ds)
       | false=>none
     | B => match(match k with
         | some k=>Nat.beq k i
         | none=>false)with
       | true=>some ds
       | false=>some (B.ds++ds)
def MkB (N0:Option Nat)(st:St)(d:D)(K:Prop):Prop:=match st.pin,N0 with
 | some (_,T),_=>In T d/\K
 | none,some n=>Low n d/\K
 | none,none=>False
def H3 (B:Bx)(i o:Nat)(d:D)(K:(D->Bx)->Prop):Prop:=
 match B with
 | .arr t z es c=>match z with
   | 0=>False
   | z+1=>i<es.length/\o<(es.getD i default).cells.length/\(es.getD i default).cell o=d/\Once es/\K λd'=>.arr t (z+1) (es.set i (.ag (z6 o [d'] (es.getD i default).cells))) c
 | .vd x n=>match i with
   | 0=>o<x.cells.length/\x.cell o=d/\Once x.cells/\K λd'=>.vd (.ag (z6 o [d'] x.cells)) n
   | _+1=>False
 | _=>False
def Ml (B:Bx)(d:D)(K:(D->Bx)->Prop):Prop:=
 match B with
 | .vd x n=>x=d/\K λd'=>.vd d' n
 | _=>False
def Nv (B:Bx)(i o m:Nat)(d:D)(K:(D->Bx)->Prop):Prop:=
 match B with
 | .vd x n=>match i with
   | 0=>match Nat.beq o 0&&Nat.beq m n with
     | true=>x=d/\K λd'=>.vd d' n
     | false=>o+m<=x.cells.length/\D.sub x o m=d/\Once x.cells/\K λd'=>.vd (.ag (z6 o d'.cells x.cells)) n
   | _+1=>False
 | _=>False
def K7 (P:Program) (N0:Option Nat) (h:MkH) (o:Oper) (st:St) (K:St->Prop):Prop:=
 match o.op with
 | .call c => match c.callee,c.args.toList with
   | .value x, [y,z]=>match KA (opd st.sl x),opd st.sl z with
     | some (f,[]),.int .i64 n=>match JS (opd st.sl y)with
       | none=>False
       | some d=>Tree d/\MkB N0 st d (
         let I:=vO h.keep 0 st.sl
         match h.place with
         | none=>match dsB none 0 st.bx with
           | some ds=>Dis d (dsL I++ds)/\(match h.same with
             | none=>∀ N1,st.N<=N1->MC P f d n N1 λd' n' J=>N1<=J->K (St.put { st with sl:=I,N:=J } o.dst (.int .i64 n'))
             | some s=>match opd st.sl (.tmp s)with
               | .sv a2 z2 O c2=>D.sl a2 z2 O c2=d/\∀ N1,st.N<=N1->MC P f d n N1 λd' n' J=>N1<=J->K (St.put { st with sl:=I.set s (.sv a2 z2 d'.elems c2),N:=J } o.dst (.int .i64 n'))
               | _=>False)
           | none=>False
         | some p=>match opd st.sl (.tmp p)with
           | .pb k _ i V=>match st.bx[k]?,dsB (some k) 0 st.bx with
             | some B,some ds=>(match opd st.sl y with
               | .sv ..=>H3 B i V d
               | .dg m _=>Nv B i V m d
               | _=>λ_=>False) λU=>Dis d (dsL I++ds)/\∀ N1,st.N<=N1->MC P f d n N1 λd' n' J=>N1<=J->K (St.put { st with sl:=I,bx:=st.bx.set k (U d'),N:=J } o.dst (.int .i64 n'))
             | _,_=>False
           | _=>False)
     | _,_=>False
   | _,_=>False
 | _=>False
theorem uJ {ks:List Nat}:∀(l:List PV)(i:Nat),(vO ks i l).length=l.length
 | [],i=>rfl
 | p::l,i=>by simp[vO,uJ l]
theorem Df {ks:List Nat}:∀(l:List PV)(i j:Nat)(q:PV),(vO ks i l)[j]?=some q->∃ p,l[j]?=some p/\(q=.any\/(q=p/\vD p=true/\∀ x∈p.ds1,x∈dsL (vO ks i l)))
 | [],i,j,q,h=>by simp[vO]at h
 | p :: l,i,j,q,h=>by
   cases j with
   | zero=>
     simp only[vO,mU,od]at h;refine⟨p,rfl,?_⟩;cases I:Ik p with
     | true=>rw[I]at h;refine .inr ⟨h.symm,by cases p<;>simp[Ik]at I<;>rfl,λx J=>?_⟩;cases p<;>simp[Ik]at I<;>simp[PV.ds1]at J
     | false=>
       rw[I]at h;cases hc:(ks.contains i&&vD p)with
       | true=>rw[hc]at h;simp only[oM]at hc;refine .inr ⟨h.symm,hc.2,λx J=>?_⟩;simp only[vO,I,hc.1,hc.2,Bool.and_self,dsL];exact oe _ J
       | false=>rw[hc]at h;exact .inl h.symm
   | succ j=>simp only[vO,nQ]at h ⊢;obtain⟨O,U,V⟩:=Df l (i+1) j q h;refine⟨O,U,V.imp id λ⟨Y,Z,h5⟩=>⟨Y,Z,λx J=>?_⟩⟩;simp only[dsL];exact oZ _ (h5 x J)
theorem Kt {l:List PV}{p:PV}(hp:p∈l):∀ x∈p.ds1,x∈dsL l:=by
 induction l with
 | nil=>simp at hp
 | cons q l J=>
   intro x I;simp only[dsL];rcases oH.1 hp with rfl | hp
   ·exact oe _ I
   ·exact oZ _ (J hp x I)
theorem CP {k:Option Nat}:∀(l:List Bx) (i:Nat) (ds:List D),dsB k i l=some ds->∀(j:Nat) (B:Bx),l[j]?=some B ->
  (∃ cs,B=.var cs/\(∀ p∈cs,vD p=true)/\∀ p∈cs,∀ x∈p.ds1,x∈ds)\/((∀ cs,B≠.var cs)/\(k=some (i+j)\/∀ x∈B.ds,x∈ds))
 | [],i,ds,h,j,B,I=>by simp at I
 | C :: l,i,ds,h,j,B,I=>by
   simp only[dsB]at h;split at h
   ·cases h
   ·rename_i J Z;have tail:∀ j,l[j]?=some B->(∃ cs,B=.var cs/\(∀ p∈cs,vD p=true)/\∀ p∈cs,∀ x∈p.ds1,x∈J)\/((∀ cs,B≠.var cs)/\(k=some (i+(j+1))\/∀ x∈B.ds,x∈J)):=λj I=>by
     have:=CP l (i+1) J Z j B I
     rwa[show i+1+j=i+(j+1) by omega]at this
    have up:(∀ x∈J,x∈ds)->∀ j,l[j]?=some B->(∃ cs,B=.var cs/\(∀ p∈cs,vD p=true)/\∀ p∈cs,∀ x∈p.ds1,x∈ds)\/((∀ cs,B≠.var cs)/\(k=some (i+(j+1))\/∀ x∈B.ds,x∈ds)):=λU j I=>by
     rcases tail j I with⟨cs,h1,h2,h3⟩ | ⟨h1,h2⟩
     ·exact .inl ⟨cs,h1,h2,λp V x O=>U x (h3 p V x O)⟩
     ·exact .inr ⟨h1,h2.imp id λh3 x O=>U x (h3 x O)⟩
    have other:(∀ cs,C≠.var cs)->(match(match k with
      | some k=>Nat.beq k i
      | none=>false)with
     | true=>some J
     | false=>some (C.ds++J))=some ds->(∃ cs,B=.var cs/\(∀ p∈cs,vD p=true)/\∀ p∈cs,∀ x∈p.ds1,x∈ds)\/((∀ cs,B≠.var cs)/\(k=some (i+j)\/∀ x∈B.ds,x∈ds)):=λhC h=>by
     split at h
     ·rename_i hk;cases h;cases j with
      | zero=>
        simp at I;subst I;refine .inr ⟨hC,.inl ?_⟩;cases k with
        | none=>cases hk
        | some k=>simp at hk;simp[hk]
      | succ j=>exact up (λ_=>id) j (by simpa using I)
     ·cases h;cases j with
      | zero=>simp at I;subst I;exact .inr ⟨hC,.inr λx O=>oe _ O⟩
      | succ j=>exact up (λx O=>oZ _ O) j (by simpa using I)
    cases C with
    | var cs=>
      simp only at h;split at h
      ·rename_i Y;cases h;cases j with
       | zero=>simp at I;subst I;exact .inl ⟨cs,rfl,λp V=>oc.1 Y p V,λp V x O=>oe _ (Kt V x O)⟩
       | succ j=>exact up (λx O=>oZ _ O) j (by simpa using I)
      ·cases h
    | vd x n=>exact other (by simp) h
    | arr t z es c=>exact other (by simp) h
    | gone=>exact other (by simp) h
theorem Good.apart {F:List Nat}{live:Nat->Prop}(hold:∀ b,b<w.heap.size->b∉F->w'.heap[b]?=w.heap[b]?){x:D}(h:Good w live x)(J:∀ b∈x.foot,b∉F):Good w' live x:=
 ⟨h.1.mono λb I=>hold b (h.1.lt b I) (J b I),h.2⟩
theorem Fb {F:List Nat}{live:Nat->Prop}(hold:∀ b,b<w.heap.size->b∉F->w'.heap[b]?=w.heap[b]?){p:PV}(J:vD p=true)(h:p.Ok w live)(I:∀ x∈p.ds1,∀ b∈x.foot,b∉F):p.Ok w' live:=by
 cases p<;>simp[vD]at J<;>simp only[PV.Ok]at h ⊢<;>simp only[PV.ds1]at I
 ·exact h
 ·exact h.apart hold (I _ (by simp))
 ·exact h.apart hold (I _ (by simp))
 ·exact⟨h.1.apart hold (I _ (by simp)),h.2⟩
 ·exact⟨h.1.apart hold (I _ (by simp)),h.2⟩
theorem pp:∀ {es:List D},tU es->∀ d∈es,d.Flat0
 | _::_,h,d,hd=>by
   rcases oH.1 hd with rfl | hd
   ·exact h.1
   ·exact pp h.2 d hd
theorem Holds.block {w:World}{d:D}(h:Holds w d):d.Flat0->∀ b∈d.foot,∃ c t,∃ z:FzT,w.heap[b]?=some (.cells c t z.1):=by
 induction h with
 | lit=>simp[D.foot]
 | ag _ U=>intro I b hb;simp only[D.foot]at hb;obtain⟨c,hc,J⟩:=zB.1 hb;exact U c hc (pp I c hc) b J
 | nil=>simp[D.foot,zA]
 | @sl ad z es cap h1 h2 Y _ V U=>
   intro I b hb;by_cases O:es=[]
   ·subst O;simp[D.foot]at hb
   ·have Z:(D.sl (some ad) z es cap).foot=ad.block::zA es:=by simp[D.foot,O]
    rw[Z]at hb;rcases oH.1 hb with rfl | hb
    ·rcases V with V | ⟨c,t,fz,h6,_⟩
     ·exfalso
      have:=zE Y
      rw[V]at this;have hp:=sQ z;have h0:0<es.length:=me.2 O
      have:=Nat.mul_pos h0 hp
      simp at *;omega
     ·exact⟨c,t,fz,h6⟩
    ·obtain⟨c,hc,J⟩:=zB.1 hb;exact U c hc (pp I.2 c hc) b J
 | pt=>exact λh=>h.elim
 | fn=>exact λh=>h.elim
 | mp=>exact λh=>h.elim
structure BAft (w':World) (e:Env) (live:Nat->Prop) (at_:Option Nat) (B B':Bx):Prop where
 g:B'=.gone↔B=.gone
 rf:B'.refs=B.refs
 rel:B'.Rel w' e at_
 ok:B'.Ok w' live
theorem Ds (h:Rel av w0 e0 [] [] a w e st) {d d':D} (Z:Mk0 w w' d d') (hb:∀ b∈d.foot,w0.heap.size<=b\/some b∈e0) {aa:List PV} {O:List Bx}
  (ae:aa.length<=st.sl.length) (ab:O.length=st.bx.length)
  (ac:∀(i:Nat) (q:PV),aa[i]?=some q->∃ p,st.sl[i]?=some p/\(q=.any\/(q=p/\vD p=true/\∀ x∈p.ds1,∀ b∈x.foot,b∉d.foot)))
  (V:∀(k:Nat) (B':Bx),O[k]?=some B'->∃ B,st.bx[k]?=some B/\BAft w' e (zF av [] e st.bx) (e.at k) B B') :
  Rel av w0 e0 [] [] a w' e { st with sl:=aa,bx:=O,N:=w'.heap.size }:=by
 have I:∀ k b,Lives [] e O k b->Lives [] e st.bx k b:=λk b ⟨h1,h2,B',h3,h4⟩=>by obtain⟨B,h5,h6⟩:=V k B' h3;exact⟨h1,h2,B,h5,λhc=>h4 (h6.g.2 hc)⟩
 have U:∀ b,zF av [] e O b->zF av [] e st.bx b:=λb hl=>hl.imp id λ⟨k,J⟩=>⟨k,I k b J⟩
 exact {
  el:=h.el.trans ab.symm
  br:=λk B' J _=>by obtain⟨B,_,h6⟩:=V k B' J;exact h6.rel
  bo:=λk B' J _=>by obtain⟨B,_,h6⟩:=V k B' J;exact h6.ok.mono (λ_ _ _=>rfl) (oG _) λb _=>U b
  bf:=λk B' J _ j hj=>by
   obtain⟨B,h5,h6⟩:=V k B' J;rw[h6.rf]at hj
   have:=h.bf k B h5 (by simp) j hj
   exact⟨by simp,by show j<O.length;rw[ab];exact this.2⟩
  inj:=λk j b J hj=>h.inj k j b (I k b J) (I j b hj)
  ku:=h.ku.trans Z.ku
  size:=o8 h.size Z.size
  old:=λb Y hn=>by
   rw[Z.old b (om Y h.size) (λhc=>by
    rcases hb b hc with h1 | h1
    ·omega
    ·exact hn h1)]
   exact h.old b Y hn
  fz:=λb c t z Y hc=>by
   by_cases ah:b<w.heap.size
   ·by_cases hf:b∈d.foot
    ·exact Z.fz b c t z (.inr hf) hc
    ·rw[Z.old b ah hf]at hc;exact h.fz b c t z Y hc
   ·exact Z.fz b c t z (.inl (by omega)) hc
  nd:=h.nd
  sz:=o8 ae h.sz
  hN:=oG _
  hs:=λi q hi _=>by
   obtain⟨p,h1,h2 | ⟨rfl,h3,h4⟩⟩:=ac i q hi
   ·exact .inl h2
   ·exact h.hs i q h1 (by simp)
  so:=λi q hi _=>by
   obtain⟨p,h1,h2 | ⟨rfl,h3,h4⟩⟩:=ac i q hi
   ·subst h2;trivial
   ·exact PV.Ok.mono (λ_ _ _=>rfl) (oG _) (λb _=>U b) q (Fb Z.old h3 (h.so i q h1 (by simp)) h4)
  sr:=λi q hi _ k J=>by
   obtain⟨p,h1,h2 | ⟨rfl,h3,h4⟩⟩:=ac i q hi
   ·subst h2;simp[PV.refs]at J
   ·have:=h.sr i q h1 (by simp) k J
    exact⟨by simp,by show k<O.length;rw[ab];exact this.2⟩
  own:=λk b J=>h.own k b (I k b J)
  avl:=h.avl
  avn:=λk b J=>h.avn k b (I k b J)
  pin:=h.pin
  pit:=h.pit }
theorem FC (h:Rel av w0 e0 [] [] a w e st) {d d':D} (hg:Good w (zF av [] e st.bx) d) (Y:Mk0 w w' d d') {k:Nat} {B:Bx} (hk:st.bx[k]?=some B)
  (I:(∃ cs,B=.var cs/\(∀ p∈cs,vD p=true)/\∀ p∈cs,∀ x∈p.ds1,∀ b∈x.foot,b∉d.foot)\/((∀ cs,B≠.var cs)/\∀ x∈B.ds,∀ b∈x.foot,b∉d.foot)):BAft w' e (zF av [] e st.bx) (e.at k) B B:=by
 refine⟨mi,rfl,?_,?_⟩
 ·by_cases O:B=.gone
  ·subst O;exact True.intro
  ·refine(h.br k B hk (by simp)).congr (λb hb=>?_) λ_ _=>rfl;have hl:Lives [] e st.bx k b:=⟨by simp,hb,B,hk,O⟩
   exact Y.old b (Lives.lt h.toMem hl) λhc=>hg.2 b hc (.inr ⟨k,hl⟩)
 ·have Z:=h.bo k B hk (by simp);cases B with
  | var cs=>
    rcases I with⟨cs',J,U,h3⟩ | ⟨J,_⟩
    ·cases J;have V:=Z.1;rw[PV.OkL_iff]at V;exact⟨PV.OkL_iff.2 λp I=>Fb Y.old (U p I) (V p I) (h3 p I),Z.2⟩
    ·exact absurd rfl (J cs)
  | vd x n=>
    rcases I with⟨cs',J,_⟩ | ⟨_,U⟩
    ·cases J
    ·exact Good.apart Y.old Z (U x (by simp[Bx.ds]))
  | arr t z es c=>
    rcases I with⟨cs',J,_⟩ | ⟨_,U⟩
    ·cases J
    ·intro x hx;refine Good.apart Y.old (Z x hx) λb hb=>U (.ag es) (by simp[Bx.ds]) b ?_;simp only[D.foot];exact zB.2 ⟨x,hx,hb⟩
  | gone=>exact True.intro
theorem ry {l1 l2:List D}{d:D}(h:(zA (l1++d::l2)).Nodup):(∀ x∈l1,∀ b∈x.foot,b∉d.foot)/\∀ x∈l2,∀ b∈x.foot,b∉d.foot:=by rw[zP]at h;simp only[zA]at h;rw[o9]at h;obtain⟨V,O,U⟩:=h;rw[o9]at O;refine⟨λx I b J hc=>U b (zB.2 ⟨x,I,J⟩) b (oe _ hc) rfl,λx I b J hc=>O.2.2 b hc b (zB.2 ⟨x,I,J⟩) rfl⟩
theorem vC {α:Type}{l:List α}{i:Nat}{x:α}(h:l[i]?=some x):l=l.take i++x::l.drop (i+1):=by have I:=(oC.1 h).1;have J:=(oC.1 h).2;rw[<-J];simp
theorem Fe {cs:List D}{o:Nat}{d d':D}(hd:cs[o]?=some d)(I:d'.cv=d.cv):(z6 o [d'] cs).map D.cv=cs.map D.cv:=by
 conv=>rhs;rw[vC hd]
 simp[z6,I]
theorem II {d d':D}(hs:Nd d d')(hc:d.isCell):d'.isCell/\(d'.cells.map D.cv=d.cells.map D.cv->d'.cv=d.cv):=by
 rcases hs with⟨a,z,es,es',c,rfl,rfl⟩ | ⟨cs,cs',rfl,rfl,_⟩
 ·exact⟨trivial,λh=>by simpa [D.cells]using h⟩
 ·exact hc.elim
theorem AA {d d':D}{live:Nat->Prop}(J:Good w live d)(I:Mk0 w w' d d'):Good w' live d':=⟨I.hd,λb O=>J.2 b (I.ft ▸ O)⟩
theorem pO (h:Rel av w0 e0 [] [] a w e st) {d d':D} (hg:Good w (zF av [] e st.bx) d) (hm:Mk w w' d d') (aj:d.isCell) {k i o:Nat} {B:Bx} {K:(D->Bx)->Prop} (hk:st.bx[k]?=some B) (hr:H3 B i o d K) :
  ∃ al,K al/\BAft w' e (zF av [] e st.bx) (e.at k) B (al d'):=by
 obtain⟨ao,aa⟩:=II hm.sm aj;have aa:=aa hm.cv;have aq:=AA hg hm.toMk0;have ak:=h.br k B hk (by simp);have ab:=h.bo k B hk (by simp);have ah:∀ b,e.at k=some b->B≠.gone->w'.heap[b]?=w.heap[b]?:=λb O a1=>by
  have hl:Lives [] e st.bx k b:=⟨by simp,O,B,hk,a1⟩
  exact hm.old b (Lives.lt h.toMem hl) λhc=>hg.2 b hc (.inr ⟨k,hl⟩)
 cases B with
 | var cs=>exact hr.elim
 | gone=>exact hr.elim
 | vd x n=>
   cases i with
   | succ i=>exact hr.elim
   | zero=>
     obtain⟨ho,hd,U,hK⟩:=hr;refine⟨_,hK,by simp,rfl,?_,?_⟩
     ·obtain⟨b,c,t,h1,h2,h3,h4,h5⟩:=ak;obtain⟨cs,rfl,hl,Z⟩:=h4;have V:cs[o]?=some d:=by rw[<-hd];simp only[D.cells]at ho;simp[D.cell,D.cells,oA,oF ho]
      have J:=Fe V aa;refine⟨b,c,t,h1,(ah b h1 (by simp)).trans h2,h3,⟨_,rfl,?_,λy hy=>?_⟩,λj u hu=>?_⟩
      ·have:=oQ List.length J;simpa [hl,D.cells]using this
      ·simp only[D.cells,z6,oO,nG]at hy;rcases hy with(hy | rfl) | hy
       ·exact Z y (oW hy)
       ·exact ao
       ·exact Z y (oa hy)
      ·simp only[D.cells]at hu;have hj:((z6 o [d'] cs).map D.cv)[j]?=some u.cv:=by rw[oE,hu];rfl
       rw[J,oE]at hj;cases Y:cs[j]? with
       | none=>rw[Y]at hj;simp at hj
       | some v=>rw[Y]at hj;simp at hj;rw[<-hj];exact h5 j v Y
     ·show Good w' _ _;obtain⟨b,c,t,h1,h2,h3,h4,h5⟩:=ak;obtain⟨cs,rfl,hl,Z⟩:=h4;have V:cs[o]?=some d:=by rw[<-hd];simp only[D.cells]at ho;simp[D.cell,D.cells,oA,oF ho]
      have I:(zA cs).Nodup:=U.h;rw[vC V]at I;obtain⟨s1,s2⟩:=ry I;have au:∀ y∈cs,Good w (zF av [] e st.bx) y:=λy hy=>Good.part ab hy;refine Good.ag λy hy=>?_;simp only[D.cells,z6,oO,nG]at hy;rcases hy with(hy | rfl) | hy
      ·exact Good.apart hm.old (au y (oW hy)) λb O=>s1 y hy b O
      ·exact aq
      ·exact Good.apart hm.old (au y (oa hy)) λb O=>s2 y hy b O
 | arr t z es c=>
   cases z with
   | zero=>exact hr.elim
   | succ z=>
     obtain⟨hi,ho,hd,U,hK⟩:=hr;have ac:es[i]?=some (es.getD i default):=by simp[oA,oF hi]
     rcases ak with⟨_,h2,_⟩ | ⟨b,cc,h1,h2,h3,h4,h5,h6,h7⟩
     ·subst h2;simp at hi
     generalize he:es.getD i default=x at *;have aw:=h6 x (oB ac);simp only[eOk,Nat.add_one_ne_zero,nO]at aw;obtain⟨cs,rfl,hl,Z⟩:=aw;simp only[D.cells]at ho hK;have V:cs[o]?=some d:=by rw[<-hd];simp[D.cell,D.cells,oA,oF ho]
     have J:=Fe V aa;have ae:∀ y∈z6 o [d'] cs,y.isCell:=λy hy=>by
      simp only[z6,oO,nG]at hy;rcases hy with(hy | rfl) | hy
      ·exact Z y (oW hy)
      ·exact ao
      ·exact Z y (oa hy)
     have ax:(z6 o [d'] cs).length=z+1:=by have:=oQ List.length J;simpa [hl]using this
     have a6:(zj (es.set i (.ag (z6 o [d'] cs)))).map D.cv=(zj es).map D.cv:=by
      conv=>rhs;rw[vC ac]
      rw[mn,if_pos hi];simp[yJ,xO,D.cells,J]
     refine⟨_,hK,by simp,rfl,.inr ⟨b,cc,h1,(ah b h1 (by simp)).trans h2,h3,by simpa using h4,h5,λy hy=>?_,λj u hu=>?_⟩,λy hy=>?_⟩
     ·rcases md hy with hy | rfl
      ·exact h6 y hy
      ·simp only[eOk,Nat.add_one_ne_zero,nO];exact⟨_,rfl,ax,ae⟩
     ·have hj:((zj (es.set i (.ag (z6 o [d'] cs)))).map D.cv)[j]?=some u.cv:=by rw[oE,hu];rfl
      rw[a6,oE]at hj;cases Y:(zj es)[j]? with
      | none=>rw[Y]at hj;simp at hj
      | some v=>rw[Y]at hj;simp at hj;rw[<-hj];exact h7 j v Y
     ·have I:(zA es).Nodup:=U.h;rw[vC ac]at I;obtain⟨s1,s2⟩:=ry I;have ay:(zA cs).Nodup:=by
       rw[zP]at I;simp only[zA,D.foot]at I;rw[o9]at I
       have:=I.2.1
       rw[o9]at this;exact this.1
      rw[vC V]at ay;obtain⟨r1,r2⟩:=ry ay;have ai:∀ b∈d.foot,b∈(D.ag cs).foot:=λb O=>by simp only[D.foot];exact zB.2 ⟨d,oB V,O⟩
      rw[mn,if_pos hi]at hy;rcases oO.1 hy with hy | hy
      ·exact Good.apart hm.old (ab y (oW hy)) λb O hc=>s1 y hy b O (ai b hc)
      ·rcases oH.1 hy with rfl | hy
       ·have az:=ab (.ag cs) (oB ac);refine Good.ag λq hq=>?_;simp only[z6,oO,nG]at hq;rcases hq with(hq | rfl) | hq
        ·exact Good.apart hm.old (az.part (oW hq)) λb O=>r1 q hq b O
        ·exact aq
        ·exact Good.apart hm.old (az.part (oa hq)) λb O=>r2 q hq b O
       ·exact Good.apart hm.old (ab y (oa hy)) λb O hc=>s2 y hy b O (ai b hc)
variable {av:Nat->Prop} {P:Program} {w0 w w':World} {e0 e:Env} {pS pS' pB pB':List Nat} {a:Act} {st st':St}
theorem Gs (h:Rel av w0 e0 [] [] a w e st) {d d':D} (hg:Good w (zF av [] e st.bx) d) (Y:Mk w w' d d') {k:Nat} {B:Bx} {K:(D->Bx)->Prop} (hk:st.bx[k]?=some B) (Z:Ml B d K) :
  ∃ U,K U/\BAft w' e (zF av [] e st.bx) (e.at k) B (U d'):=by
 have aa:=h.br k B hk (by simp);cases B with
 | vd x n=>
   obtain⟨rfl,hK⟩:=Z;obtain⟨b,c,t,h1,h2,h3,h4,h5⟩:=aa;have V:w'.heap[b]?=w.heap[b]?:=by
    have hl:Lives [] e st.bx k b:=⟨by simp,h1,_,hk,by simp⟩
    exact Y.old b (Lives.lt h.toMem hl) λhc=>hg.2 b hc (.inr ⟨k,hl⟩)
   obtain⟨cs,rfl,hl,ab⟩:=h4;rcases Y.sm with⟨_,_,_,_,_,h6,_⟩ | ⟨ac,cs',h6,h7,h8⟩
   ·cases h6
   ·cases h6;subst h7;have I:=Y.cv;simp only[D.cells]at I;refine⟨_,hK,by simp,rfl,⟨b,c,t,h1,V.trans h2,h3,⟨cs',rfl,?_,h8⟩,λj u hu=>?_⟩,AA hg Y.toMk0⟩
    ·have:=oQ List.length I;simpa [hl]using this
    ·simp only[D.cells]at hu;have O:(cs'.map D.cv)[j]?=some u.cv:=by rw[oE,hu];rfl
     rw[I,oE]at O;cases J:cs[j]? with
     | none=>rw[J]at O;simp at O
     | some v=>rw[J]at O;simp at O;rw[<-O];exact h5 j v J
 | var cs=>exact Z.elim
 | arr t z es c=>exact Z.elim
 | gone=>exact Z.elim
theorem GZ {a b c:List D}(h:(zA (a++(b++c))).Nodup):(∀ y∈a,∀ x∈y.foot,x∉zA b)/\∀ y∈c,∀ x∈y.foot,x∉zA b:=by rw[zP,zP,o9,o9]at h;obtain⟨_,⟨_,_,U⟩,V⟩:=h;refine⟨λy I x J O=>V x (zB.2 ⟨y,I,J⟩) x (oe _ O) rfl,λy I x J O=>U x O x (zB.2 ⟨y,I,J⟩) rfl⟩
theorem Kd (h:Rel av w0 e0 [] [] a w e st) {o m n:Nat} {x d d':D} (hg:Good w (zF av [] e st.bx) d) (hm:Mk w w' d d') {k:Nat} (hk:st.bx[k]?=some (.vd x n)) (ho:o+m<=x.cells.length) (hd:D.sub x o m=d) (J:Once x.cells) :
  BAft w' e (zF av [] e st.bx) (e.at k) (.vd x n) (.vd (.ag (z6 o d'.cells x.cells)) n):=by
 have aj:=h.br k _ hk (by simp);have ak:=h.bo k _ hk (by simp);have al:=AA hg hm.toMk0;obtain⟨b,c,t,h1,h2,h3,h4,h5⟩:=aj;have aa:w'.heap[b]?=w.heap[b]?:=by
  have hl:Lives [] e st.bx k b:=⟨by simp,h1,_,hk,by simp⟩
  exact hm.old b (Lives.lt h.toMem hl) λhc=>hg.2 b hc (.inr ⟨k,hl⟩)
 obtain⟨cs,rfl,hl,ab⟩:=h4;simp only[D.cells]at ho J;subst hd;rcases hm.sm with⟨_,_,_,_,_,h6,_⟩ | ⟨ao,cs',h6,h7,h8⟩
 ·cases h6
 subst h7;have Y:=hm.cv;simp only[D.sub,D.cells]at Y;have ac:cs'.length=m:=by
  have:=oQ List.length Y
  simp at this;omega
 have I:cs=cs.take o++((cs.drop o).take m++cs.drop (o+m)):=by conv=>lhs;rw[<-nK o cs,<-nK m (cs.drop o),List.drop_drop]
 have O:z6 o cs' cs=cs.take o++(cs'++cs.drop (o+m)):=by simp[z6,ac]
 have U:(z6 o cs' cs).map D.cv=cs.map D.cv:=by
  rw[O]
  conv=>rhs;rw[I]
  simp only[mP,Y]
 have V:∀ y∈z6 o cs' cs,y∈cs.take o\/y∈cs'\/y∈cs.drop (o+m):=λy hy=>by rw[O]at hy;simpa using hy
 have ae:(zA cs).Nodup:=J.h;rw[I]at ae;obtain⟨s1,s2⟩:=GZ ae;refine⟨by simp,rfl,⟨b,c,t,h1,aa.trans h2,h3,⟨_,rfl,?_,λy hy=>?_⟩,λj u hu=>?_⟩,?_⟩
 ·have:=oQ List.length U;simpa [hl,D.cells]using this
 ·rcases V y hy with hy | hy | hy
  ·exact ab y (oW hy)
  ·exact h8 y hy
  ·exact ab y (oa hy)
 ·simp only[D.cells]at hu;have hj:((z6 o cs' cs).map D.cv)[j]?=some u.cv:=by rw[oE,hu];rfl
  rw[U,oE]at hj;cases Z:cs[j]? with
  | none=>rw[Z]at hj;simp at hj
  | some v=>rw[Z]at hj;simp at hj;rw[<-hj];exact h5 j v Z
 ·show Good w' _ _;have ah:∀ y∈cs,Good w (zF av [] e st.bx) y:=λy hy=>Good.part ak hy;have ai:(D.sub (.ag cs) o m).foot=zA ((cs.drop o).take m):=by simp only[D.sub,D.cells,D.foot]
  refine Good.ag λy hy=>?_;rcases V y hy with hy | hy | hy
  ·exact Good.apart hm.old (ah y (oW hy)) λb hb=>by rw[ai];exact s1 y hy b hb
  ·exact Good.part al hy
  ·exact Good.apart hm.old (ah y (oa hy)) λb hb=>by rw[ai];exact s2 y hy b hb
theorem GQ {p:PV}{d:D}{v:Value}{bx:List Bx}(I:ValOk av w e pB bx v p)(h:JS p=some d):v=d.val/\Good w (zF av pB e bx) d:=by
 cases p<;>simp[JS]at h
 ·subst h;exact⟨I.1.resolve_left (by simp),I.2.1⟩
 ·subst h;exact⟨I.1.resolve_left (by simp),I.2.1.1⟩
theorem Ic (h:Rel av w0 e0 [] [] a w e st){N0:Option Nat}(I:NOk N0 w0){d:D}{K:Prop}(hs:MkB N0 st d K):K/\∀ b∈d.foot,w0.heap.size<=b\/some b∈e0:=by
 unfold MkB at hs;split at hs
 ·rename_i b T O;exact⟨hs.2,λx J=>.inr (h.pit b T O x (hs.1.h x J))⟩
 ·rename_i n O;obtain rfl:=I _ rfl;exact⟨hs.2,λx J=>.inl (hs.1.h x J)⟩
 ·exact hs.elim
theorem Jm (h:Rel av w0 e0 [] [] a w e st){s:Nat}{q:PV}(O:ValOk av w e [] st.bx (a.tmps.getD s undef) q):Rel av w0 e0 [] [] a w e { st with sl:=st.sl.set s q }:=by
 have I:∀(i:Nat) (p:PV),(st.sl.set s q)[i]?=some p->(i=s/\p=q)\/st.sl[i]?=some p:=λi p hi=>by
  rw[nS]at hi;split at hi
  ·rename_i U;split at hi
   ·simp at hi;exact .inl ⟨U.symm,hi.symm⟩
   ·cases hi
  ·exact .inr hi
 exact { h with
  sz:=by simpa using h.sz
  hs:=λi p hi J=>by
   rcases I i p hi with⟨rfl,rfl⟩ | hi
   ·exact O.1
   ·exact h.hs i p hi J
  so:=λi p hi J=>by
   rcases I i p hi with⟨rfl,rfl⟩ | hi
   ·exact O.2.1
   ·exact h.so i p hi J
  sr:=λi p hi J=>by
   rcases I i p hi with⟨rfl,rfl⟩ | hi
   ·exact O.2.2
   ·exact h.sr i p hi J }
theorem GR (h:Rel av w0 e0 [] [] a w e st) {N0:Option Nat} (a1:NOk N0 w0) {mh:MkH} {o:Oper} {K:St->Prop} (hs:K7 P N0 mh o st K) {next:Act->World->Prop} {Q:Exit->Act->World->Prop}
  (hn:∀ v w' e' st',K st'->st.bx.length<=st'.bx.length->Rel av w0 e0 [] [] (a.put o.dst v) w' e' st'->next (a.put o.dst v) w'):o.wp P a w next Q:=by
 unfold K7 at hs;split at hs
 rotate_left
 ·exact hs.elim
 rename_i c aq;split at hs
 rotate_left
 ·exact hs.elim
 rename_i x y z hc ae;split at hs
 rotate_left
 ·exact hs.elim
 rename_i f n hf hz;split at hs
 ·exact hs.elim
 rename_i d hd;obtain⟨ah,hs⟩:=hs;obtain⟨hs,U⟩:=Ic h a1 hs;have ox:=ut (yT h (x:=x) (by simp)).valOk hf;have a6:a.eval x=.func (.func f) #[] #[]:=ox.1.resolve_left (by simp);obtain⟨a7,hg⟩:=GQ (yT h (x:=y) (by simp)).valOk hd;have a8:a.eval z=.int .i64 n:=by
  have:=(yT h (x:=z) (by simp)).h.resolve_left (by rw[hz];simp)
  rw[this,hz];rfl
 have ea:c.args=#[y,z]:=by rw[<-nN,ae]
 have au:zt P f=true->(execOp a.eval o).run P w=.ok (.enter f #[d.val,.int .i64 n]) w:=λba=>by obtain⟨dst,op,ty,pos,after,guard⟩:=o;simp only at aq;subst aq;simp only[execOp,resolve,hc,Deferred.ofValue,a6,invoke];simp[AR ba,ea,a7,a8]
 have aw:∀ b∈d.foot,∃ c t,w.heap[b]?=some (.cells c t (0,0)):=λb V=>by obtain⟨c,t,zz,h1⟩:=hg.1.block ah.fl b V;exact⟨c,t,by rw[h1,zz.2]⟩
 have go:∀(R:D->Int->Nat->Prop),MC P f d n w.heap.size R ->
   (∀ d' n' w',Mk w w' d d'->R d' n' w'.heap.size->∃ e' st',K st'/\st.bx.length<=st'.bx.length/\Rel av w0 e0 [] [] (a.put o.dst (.int .i64 n')) w' e' st')->o.wp P a w next Q:=λR hR hk=>by
  unfold Oper.wp;rw[au hR.c,Oper.upon_enter];refine(hR.h w rfl h.glob (λb V hc=>by
   rcases U b hc with h1 | h1
   ·have:=h.avl.lt b (h.avl.ga b V);omega
   ·exact h.avl.ge b V h1) (λx hx hc=>by
   rcases U x.1 hc with h1 | h1
   ·have:=h.avl.g.ltb hx;omega
   ·exact h.avl.gb x hx h1) hg.1 aw).mono λen w' ai=>?_
  cases en with
  | panicked=>exact ai.elim
  | outgrown=>exact ai.elim
  | returned v=>obtain⟨d',n',rfl,O,hr⟩:=ai;obtain⟨e',st',h1,h2,Z⟩:=hk d' n' w' O hr;exact hn _ w' e' st' h1 h2 Z
 have Y:∀ ds:List D,Dis d (dsL (vO mh.keep 0 st.sl)++ds)->∀(i:Nat) (q:PV),(vO mh.keep 0 st.sl)[i]?=some q->∃ p,st.sl[i]?=some p/\(q=.any\/(q=p/\vD p=true/\∀ x∈p.ds1,∀ b∈x.foot,b∉d.foot)):=λds J i q hq=>by obtain⟨p,h1,h2⟩:=Df _ _ _ _ hq;exact⟨p,h1,h2.imp id λ⟨Z,h4,h5⟩=>⟨Z,h4,λx hx b V hc=>J.h x (oe _ (h5 x hx)) b hc V⟩⟩
 have fin:∀(aj:List PV) (ak:List Bx) (w':World) (n':Int),Rel av w0 e0 [] [] a w' e { st with sl:=aj,bx:=ak,N:=w'.heap.size } ->
  Rel av w0 e0 [] [] (a.put o.dst (.int .i64 n')) w' e (St.put { st with sl:=aj,bx:=ak,N:=w'.heap.size } o.dst (.int .i64 n')):=λaj ak w' n' hr=>yP hr zQ λi hi _=>hi
 have aa:∀(s:St) (p:PV),(s.put o.dst p).bx=s.bx:=λs p=>by cases o.dst<;>rfl
 simp only at hs;split at hs
 ·-- what is written is not looked at again
  split at hs
  rotate_left
  ·exact hs.elim
  rename_i ds al;obtain⟨J,hs⟩:=hs;have ax:∀(w':World) (d':D),Mk w w' d d'->Rel av w0 e0 [] [] a w' e { st with sl:=vO mh.keep 0 st.sl,bx:=st.bx,N:=w'.heap.size }:=λw' d' O=>by
   refine Ds h O.toMk0 U (by rw[uJ];exact oG _) rfl (Y ds J) λk B hk=>⟨B,hk,FC h hg O.toMk0 hk ?_⟩
   rcases CP _ _ _ al k B hk with⟨cs,h1,h2,Z⟩ | ⟨h1,h2 | h2⟩
   ·exact .inl ⟨cs,h1,h2,λp hp x hx b V hc=>J.h x (oZ _ (Z p hp x hx)) b hc V⟩
   ·cases h2
   ·exact .inr ⟨h1,λx hx b V hc=>J.h x (oZ _ (h2 x hx)) b hc V⟩
  split at hs
  ·refine go _ (hs w.heap.size h.hN) λd' n' w' O hr=>⟨e,_,hr O.size,by rw[aa];exact oG _,?_⟩
   exact fin _ st.bx w' n' (ax w' d' O)
  ·rename_i s bb;split at hs
   rotate_left
   ·exact hs.elim
   rename_i a2 z2 ac c2 ay;obtain⟨bc,hs⟩:=hs;subst bc;refine go _ (hs w.heap.size h.hN) λd' n' w' O hr=>⟨e,_,hr O.size,by rw[aa];exact oG _,?_⟩
   refine fin _ st.bx w' n' (Jm (ax w' d' O) ?_);have hv:=(yT h (x:=.tmp s) (by simp)).h.resolve_left (by rw[ay];simp);rw[ay]at hv;rcases O.sm with⟨a3,z3,bd,es',c3,h1,h2⟩ | ⟨cs,cs',h1,_⟩
   ·cases h1;subst h2;have hl:es'.length=ac.length:=by
     have:=O.cv
     simp only[D.cells,nE,mc,D.cv,List.cons.injEq,Value.slice.injEq,and_true,true_and]at this;exact this
    refine⟨.inr ?_,⟨O.hd,λb V=>hg.2 b (O.ft ▸ V)⟩,by simp[PV.refs]⟩;show a.eval (.tmp s)=_;rw[hv];simp only[PV.val,PV.val1,PV.cv,D.elems,hl]
   ·cases h1
 ·rename_i p hp;split at hs
  rotate_left
  ·exact hs.elim
  rename_i k zz i oo bg;split at hs
  rotate_left
  ·exact hs.elim
  rename_i B ds hB al;have key:∀(I:D->Bx),(∀ w' d',Mk w w' d d'->BAft w' e (zF av [] e st.bx) (e.at k) B (I d')) ->
    (Dis d (dsL (vO mh.keep 0 st.sl)++ds)/\∀ N1,st.N<=N1->MC P f d n N1 λd' n' N2=>N1<=N2->K (St.put { st with sl:=vO mh.keep 0 st.sl,bx:=st.bx.set k (I d'),N:=N2 } o.dst (.int .i64 n')))->o.wp P a w next Q:=λI az hs=>by
   obtain⟨J,hs⟩:=hs;refine go _ (hs w.heap.size h.hN) λd' n' w' O hr=>⟨e,_,hr O.size,by rw[aa];simp,?_⟩
   refine fin _ _ w' n' (Ds h O.toMk0 U (by rw[uJ];exact oG _) (by simp) (Y ds J) λj B' hj=>?_);rw[nS]at hj;split at hj
   ·rename_i ao;subst ao;split at hj
    ·simp at hj;subst hj;exact⟨B,hB,az w' d' O⟩
    ·cases hj
   ·rename_i ao;refine⟨B',hj,FC h hg O.toMk0 hj ?_⟩;rcases CP _ _ _ al j B' hj with⟨cs,h1,h2,Z⟩ | ⟨h1,h2 | h2⟩
    ·exact .inl ⟨cs,h1,h2,λp hp x hx b V hc=>J.h x (oZ _ (Z p hp x hx)) b hc V⟩
    ·simp at h2;exact absurd h2 ao
    ·exact .inr ⟨h1,λx hx b V hc=>J.h x (oZ _ (h2 x hx)) b hc V⟩
  cases hy:opd st.sl y
  case sv ad zy es cy=>
   rw[hy]at hd hs;simp[JS]at hd;have ab:d.isCell:=by rw[<-hd];trivial
   have hK:∃ I:D->Bx,(∀ w' d',Mk w w' d d'->BAft w' e (zF av [] e st.bx) (e.at k) B (I d'))/\(Dis d (dsL (vO mh.keep 0 st.sl)++ds)/\∀ N1,st.N<=N1->MC P f d n N1 λd' n' N2=>N1<=N2->K (St.put { st with sl:=vO mh.keep 0 st.sl,bx:=st.bx.set k (I d'),N:=N2 } o.dst (.int .i64 n'))):=by
    cases B with
    | var cs=>exact hs.elim
    | gone=>exact hs.elim
    | vd x n0=>
      cases i with
      | succ i=>exact hs.elim
      | zero=>obtain⟨h1,h2,Z,h4⟩:=hs;refine⟨_,λw' d' O=>?_,h4⟩;obtain⟨I,h5,h6⟩:=pO h hg O ab (i:=0) (o:=oo) (K:=λm=>m=λd'=>Bx.vd (.ag (z6 oo [d'] x.cells)) n0) hB ⟨h1,h2,Z,rfl⟩;subst h5;exact h6
    | arr t z2 ac c2=>
      cases z2 with
      | zero=>exact hs.elim
      | succ z2=>obtain⟨h1,h2,Z,h4,h5⟩:=hs;refine⟨_,λw' d' O=>?_,h5⟩;obtain⟨I,h6,h7⟩:=pO h hg O ab (i:=i) (o:=oo) (K:=λm=>m=λd'=>Bx.arr t (z2+1) (ac.set i (.ag (z6 oo [d'] (ac.getD i default).cells))) c2) hB ⟨h1,h2,Z,h4,rfl⟩;subst h6;exact h7
   obtain⟨I,h1,h2⟩:=hK;exact key I h1 h2
  case dg n1 x1=>
   rw[hy]at hs
   have hK:∃ I:D->Bx,(∀ w' d',Mk w w' d d'->BAft w' e (zF av [] e st.bx) (e.at k) B (I d'))/\(Dis d (dsL (vO mh.keep 0 st.sl)++ds)/\∀ N1,st.N<=N1->MC P f d n N1 λd' n' N2=>N1<=N2->K (St.put { st with sl:=vO mh.keep 0 st.sl,bx:=st.bx.set k (I d'),N:=N2 } o.dst (.int .i64 n'))):=by
    cases B with
    | var cs=>exact hs.elim
    | gone=>exact hs.elim
    | arr=>exact hs.elim
    | vd x n0=>
      cases i with
      | succ i=>exact hs.elim
      | zero=>
        simp only[Nv]at hs;split at hs
        ·obtain⟨h1,h2⟩:=hs;refine⟨_,λw' d' O=>?_,h2⟩;obtain⟨I,h5,h6⟩:=Gs h hg O (K:=λm=>m=λd'=>Bx.vd d' n0) hB ⟨h1,rfl⟩;subst h5;exact h6
        ·obtain⟨h1,h2,Z,h4⟩:=hs;exact⟨_,λw' d' O=>Kd h hg O hB h1 h2 Z,h4⟩
   obtain⟨I,h1,h2⟩:=hK;exact key I h1 h2
  all_goals(rw[hy]at hd;cases hd)
variable {av:Nat->Prop} {P:Program} {w0 w w':World} {e0 e:Env} {pS pS' pB pB':List Nat} {a:Act} {st st':St}
def DS (N0:Option Nat)(fs I:List Nat):List Nat->St->(St->Prop)->Prop
 | [],st,K=>K st
 | k::ks,st,K=>HH N0 st k fs I λst'=>DS N0 fs I ks st' K
def Nr (ops:Array Oper)(pf:Pend)(t:Nat):Bool:=pf.all λx=>match tE ops x.1 with
 | some d=>!(d==t)
 | none=>true
def um (N0:Option Nat)(ops:Array Oper)(pf:Pend)(cl fs:List Nat)(st:St)(K:St->Prop):Prop:=
 match cl with
 | []=>K st
 | t :: cl=>match(sg st.bx 200 ((t::cl).flatMap λt=>(st.sl.getD t .any).refs) []).filter (MI st)with
   | []=>K st
   | k::ks=>match Jr ops (k::ks) st pf&&((t::cl)++fs).all (Nr ops pf)with
     | true=>DS N0 fs (sg st.bx 200 (fs.flatMap λt=>(st.sl.getD t .any).refs) []) (k::ks) st K
     | false=>False
theorem Stp.trans {T:List Nat}{st I st2:St}(J:Stp T T none st I)(O:Stp T T none I st2):Stp T T none st st2:=
 ⟨λi p hi Z U=>O.sl i p hi (J.sl i p hi Z U) U,λk B hk V Y=>O.bx k B (J.bx k B hk V Y) V Y,o8 J.bl O.bl,O.ll.trans J.ll⟩
theorem Stp.wide {T I:List Nat}{dst:Option Nat}(h:Stp T T dst st st')(J:∀ k∈T,k∈I):Stp I I dst st st':=
 ⟨λi p hi V O=>h.sl i p hi V λk U=>O k (J k U),λk B O Y Z=>h.bx k B O (λhc=>Y (J k hc)) λj hj=>Z j (J j hj),h.bl,h.ll⟩
theorem DQ {k z:Nat}{s p:PV}(h:k∉p.refs):GB k s z p=p:=by
 cases p<;>simp only[GB]<;>first
  | exact p6 h
  | (simp[PV.refs]at h;rw[if_neg (Ne.symm h)])
theorem I1 {k z:Nat}{s p:PV}(h:k∉p.refs):Proofs.YtldbmnklnpfpfaaGreatDoor.clo k s z p=p:=by
 cases p
 case pg cs=>simp only[Proofs.YtldbmnklnpfpfaaGreatDoor.clo];rw[if_neg];simpa [PV.refs]using h
 all_goals exact @DQ _ k z s _ h
theorem stp_clo {k z N:Nat}{s:PV}:Stp [k] [k] none st (st.clo k s z N):=by
 refine⟨λi p _ I J=>?_,λj B O U V=>?_,by simp[St.clo],by simp[St.clo]⟩
 ·simp only[St.clo,oE,I,oU,I1 (J k (by simp))]
 ·simp only[St.clo];rw[nf (by simp at U;omega),oE,O];simp only[oU];congr 1;cases B with
  | var cs=>
    simp only[Bx.clo];congr 1
    conv=>rhs;rw[<-List.map_id cs]
    refine o7 λp I=>DQ λhc=>V k (by simp) ?_;simp only[Bx.refs];exact PV.refsL_mem.2 ⟨p,I,hc⟩
  | _=>rfl
theorem uD {N0:Option Nat} (I:NOk N0 w0) {fs V:List Nat} {K:St->Prop} (J:∀ i∈fs,i∉pS) (O:∀ i∈V,i∉pB) :
  ∀(ks:List Nat) (st:St),Rel av w0 e0 pS pB a w e st->(∀ k∈ks,k∉pB)->DS N0 fs V ks st K->∃ st',K st'/\Stp ks ks none st st'/\Rel av w0 e0 pS pB a w e st'
 | [],st,h,_,hs=>⟨st,hs,Stp.rfl',h⟩
 | k::ks,st,h,U,hs=>by simp only[DS]at hs;obtain⟨s,z,N,Y,Z,_⟩:=DR h I (U k (by simp)) J O hs;obtain⟨st',h3,h4,h5⟩:=uD I J O ks _ Z (λj hj=>U j (by simp[hj])) Y;exact⟨st',h3,(stp_clo.wide (by simp)).trans (h4.wide λk U=>by simp[U]),h5⟩
theorem Hm {ops:Array Oper}{pf:Pend}{t:Nat}(h:Nr ops pf t=true):∀ x∈pf,tE ops x.1≠some t:=by
 intro x I hc
 have:=oc.1 h x I
 rw[hc]at this;simp at this
theorem xi (h:Rel av w0 e0 pS pB a w e st) {N0:Option Nat} (Y:NOk N0 w0) {ops:Array Oper} {pf:Pend} (Z:∀ t∈pS,∃ x∈pf,tE ops x.1=some t) {cl fs:List Nat} {K:St->Prop} (hs:um N0 ops pf cl fs st K) :
  ∃ st' T,K st'/\Stp T T none st st'/\Jr ops T st pf=true/\Rel av w0 e0 pS pB a w e st':=by
 unfold um at hs;split at hs
 ·exact⟨st,[],hs,Stp.rfl',rfl,h⟩
 ·rename_i t cl;split at hs
  ·exact⟨st,[],hs,Stp.rfl',rfl,h⟩
  ·rename_i k ks aa;split at hs
   ·rename_i U;simp only[oM]at U;obtain⟨h1,h2⟩:=U;have J:∀ i∈(t::cl)++fs,i∉pS:=λi hi hc=>by obtain⟨x,hx,hd⟩:=Z i hc;exact Hm (oc.1 h2 i hi) x hx hd
    have V:∀ i,i∈(t::cl)++fs->∀ j∈(st.sl.getD i .any).refs,j∉pB:=λi hi j I=>by
     rw[oA]at I;cases hp:st.sl[i]? with
     | none=>rw[hp]at I;simp[PV.refs]at I
     | some p=>rw[hp]at I;exact(h.sr i p hp (J i hi) j I).1
    have O:∀ l:List Nat,(∀ i∈l,i∈(t::cl)++fs)->∀ j∈sg st.bx 200 (l.flatMap λt=>(st.sl.getD t .any).refs) [],j∉pB:=λl hl=>by
     refine si (A:=λj=>j∉pB) (λk hk j I=>?_) _ _ _ (λj I=>?_) (by simp)
     ·rw[oA]at I;cases hB:st.bx[k]? with
      | none=>rw[hB]at I;simp[Bx.refs]at I
      | some B=>rw[hB]at I;exact(h.bf k B hB hk j I).1
     ·obtain⟨i,hi,I⟩:=nj.1 I;exact V i (hl i hi) j I
    obtain⟨st',g1,g2,g3⟩  :=uD Y (λi hi=>J i (oZ _ hi)) (O fs λi hi=>oZ _ hi) (k::ks) st h (λj I=>by rw[<-aa]at I;exact O (t::cl) (λi hi=>oe _ hi) j (mJ.1 I).1) hs;exact⟨st',_,g1,g2,h1,g3⟩
   ·exact hs.elim
def J9 (ops:Array Oper)(i j:Nat):Bool:=match ops[j]? with
 | some o=>o.after.any λe=>e.on==i&&Region.binds .any e
 | none=>false
def BA (ops:Array Oper)(j:Nat):List Nat:=match ops[j]? with
 | some o=>(o.after.toList.filter (Region.binds .any)).map (·.on)
 | none=>[]
def Kf (ops:Array Oper):Nat->List Nat->List Nat->List Nat
 | 0,_,I=>I
 | _+1,[],I=>I
 | n+1,k::J,I=>match I.contains k with
   | true=>Kf ops n J I
   | false=>Kf ops n (BA ops k++J) (k::I)
theorem CD {ops:Array Oper}{A:Nat->Prop}(U:∀ k,A k->∀ j∈BA ops k,A j):∀(n:Nat)(J I:List Nat),(∀ k∈J,A k)->(∀ k∈I,A k)->∀ k∈Kf ops n J I,A k
 | 0,_,I,_,h=>h
 | _+1,[],I,_,h=>h
 | n + 1,k::J,I,O,V=>by
   simp only[Kf];split
   ·exact CD U n J I (λj hj=>O j (by simp[hj])) V
   ·refine CD U n _ _ (λj hj=>?_) λj hj=>?_
    ·rcases oO.1 hj with hj | hj
     ·exact U k (O k (by simp)) j hj
     ·exact O j (by simp[hj])
    ·rcases oH.1 hj with rfl | hj
     ·exact O j (by simp)
     ·exact V j hj
def Jz (I:List Nat)(nv:Pend):Pend:=nv.filter λx=>!I.contains x.1
def Cm (ops:Array Oper)(j:Nat)(nv:Pend):Pend:=match nv with
 | []=>[]
 | nv=>Jz (Kf ops 1000 (BA ops j) []) nv
def K2 (P:Program)(sh:FuncId->List Sh)(N0:Option Nat)(ops:Array Oper)(pf:Pend)(en:Ent)(o:Oper)(st:St)(K:St->Prop):Prop:=
 match en.mh with
 | none=>match en.tr with
   | false=>um N0 ops pf en.cl en.fs st λst=>match NW ops (Fu P sh o st) st pf with
     | true=>JE P sh o st K
     | false=>False
   | true=>match pf with
     | []=>JE P sh o st λst=>IR st o.dst K
     | _=>False
 | some mh=>match pf with
   | []=>K7 P N0 mh o st K
   | _=>False
def NL (o:Oper)(st:St):Bool:=o.op.operands.toList.all λy=>(opd st.sl y).refs.all λk=>decide (k<st.bx.length)
def Res.bk (r:Res)(n:Nat):Option Nat:=match r with
 | .v _=>none
 | .b ..=>some n
def Fk (P:Program)(sh:FuncId->List Sh)(N0:Option Nat)(ops:Array Oper):List Ent->Pend->St->(St->Prop)->Prop
 | [],_,st,K=>K st
 | en :: l,nv,st,K=>match ops[en.i]? with
   | none=>False
   | some o=>match en.hard with
     | true=>IU ops o st (λst=>K2 P sh N0 ops (Cm ops en.i nv) en o st λst=>Fk P sh N0 ops l nv st K) (λst=>Fk P sh N0 ops l nv (st.put o.dst (.tp [])) K)
     | false=>IU ops o st (λst=>match K4 o.op&&NL o st with
      | true=>nev P (opd st.sl) (λk=>st.bx[k]?) o.op o.type λr=>Fk P sh N0 ops l ((en.i,r.bk st.bx.length)::nv) (st.push o.dst r) K
      | false=>False) (λst=>Fk P sh N0 ops l ((en.i,none)::nv) (st.put o.dst (.tp [])) K)
theorem Ai {bx:List Bx}:ValOk av w e pB bx undef (.tp []):=⟨.inr rfl,by simp[PV.Ok,PV.OkL],by simp[PV.refs,PV.refsL]⟩
theorem wj {ops:Array Oper}{o:Oper}{y:Operand}{t:Nat}(I:y∈o.op.operands)(J:y=.tmp t):t∈o.looksAt ops:=by subst J;exact oe _ (nT.2 ⟨.tmp t,oq.2 I,rfl⟩)
theorem Da (h:Rel av w0 e0 pS pB a w e st) {N0:Option Nat} (hN0:NOk N0 w0) (hpl:∀ k∈pB,k<st.bx.length) {sh:FuncId->List Sh} {ops:Array Oper} {pf:Pend} (hpf:∀ t∈pS,∃ x∈pf,tE ops x.1=some t) (hpb:∀ k∈pB,∃ x∈pf,x.2=some k)
  {en:Ent} {o:Oper} (ho:ops[en.i]?=some o) (hl:∀ t∈o.looksAt ops,t∉pS) {K:St->Prop}
  (hs:IU ops o st (fun st=>K2 P sh N0 ops pf en o st K) (fun st=>K (st.put o.dst (.tp [])))) {next:Act->World->Prop} {Q:Exit->Act->World->Prop}
  (hn:∀ v w' e' st',K st'->st.bx.length<=st'.bx.length->(∀ x∈pf,∀ ox,ops[x.1]?=some ox->Ld ops P st ox x.2->(∀ d,o.dst=some d->d∉ox.looksAt ops/\ox.dst≠some d)->Ld ops P st' ox x.2) ->
   Rel av w0 e0 pS pB (a.put o.dst v) w' e' st'->next (a.put o.dst v) w'):wpOp P ops Q en.i next a w:=by
 unfold wpOp;rw[ho];simp only;rcases By hs with⟨hw,hs⟩ | ⟨hw,hs⟩
 ·rw[if_pos (EH h hw hl)];refine .inl ?_;unfold K2 at hs;split at hs
  rotate_left
  ·split at hs
   rotate_left
   ·exact hs.elim
   have e1:pS=[]:=nM.2 fun t ht=>by obtain⟨x,hx,_⟩:=hpf t ht;simp at hx
   have e2:pB=[]:=nM.2 fun t ht=>by obtain⟨x,hx,_⟩:=hpb t ht;simp at hx
   subst e1;subst e2;have hn':=fun v w' e' st' g1 g2 g3=>hn v w' e' st' g1 g2 (fun x hx=>by simp at hx) g3;exact GR h hN0 hs hn'
  split at hs
  rotate_left
  ·split at hs
   rotate_left
   ·exact hs.elim
   have e1:pS=[]:=nM.2 fun t ht=>by obtain⟨x,hx,_⟩:=hpf t ht;simp at hx
   have e2:pB=[]:=nM.2 fun t ht=>by obtain⟨x,hx,_⟩:=hpb t ht;simp at hx
   subst e1;subst e2;refine DZ h hpl (fun y hy t ht=>hl t (wj hy ht)) hs fun v w' e' st' g1 g2 g3=>?_;obtain⟨st2,k1,k2,k3⟩:=E6 g3 g1;exact hn v w' e' st2 k1 (by rw[k3];exact g2.bl) (fun x hx=>by simp at hx) k2
  obtain⟨st1,T,h1,h2,h3,h4⟩:=xi h hN0 hpf hs;split at h1
  ·rename_i hsf;refine DZ h4 (fun k hk=>om (hpl k hk) h2.bl) (fun y hy t ht=>hl t (wj hy ht)) h1 fun v w' e' st' g1 g2 g3=>hn v w' e' st' g1 (o8 h2.bl g2.bl) (fun x hx ox hox hk hd=>?_) g3;exact q9 (q9 hk h2 (fun _ h=>h) (.inl (Gi h3 hx hox)) fun d hd=>by cases hd) g2 Ig (IH hsf hx hox) hd
  ·exact h1.elim
 ·rw[if_neg (by rw[Dy h hw hl];simp)];exact hn undef w e _ hs (by cases o.dst<;>exact oG _) (fun x hx ox hox hk hd=>q9 hk (Stp.put (T:=[]) (TA:=[]) Stp.rfl' _) (fun _ h=>h) (.inl pD) hd) (yP h Ai fun i hi _=>hi)
theorem Du {N0:Option Nat} (I:NOk N0 w0) {sh:FuncId->List Sh} {ops:Array Oper} {K:St->Prop} {Q:Exit->Act->World->Prop} (O:∀ a w e st,K st->Rel av w0 e0 [] [] a w e st->Q .normal a w) :
  ∀(l:List Ent) (a:Act) (w:World) (e:Env) (st:St),(∀ en∈l,en.hard=true)->Rel av w0 e0 [] [] a w e st->Fk P sh N0 ops l [] st K->wpOps P ops Q (l.map (·.i)) a w
 | [],a,w,e,st,_,h,hs=>O a w e st hs h
 | en::l,a,w,e,st,U,h,hs=>by
   rw[nE,wpOps_cons];simp only[Fk]at hs;cases J:ops[en.i]? with
   | none=>rw[J]at hs;exact hs.elim
   | some o=>rw[J]at hs;simp only[U en (by simp)]at hs;exact Da h I (by simp) (by simp) (by simp) J (by simp) hs λv w' e' st' V _ _ Y=>Du I O l _ _ _ _ (λx Z=>U x (by simp[Z])) Y V
def Ef (n:Nat)(l:List Ent):Bool:=(l.map (·.i))==List.range n&&l.all (·.hard)
theorem Gd {N0:Option Nat} (I:NOk N0 w0) {sh:FuncId->List Sh} {id:Nat} {ops:Array Oper} {l:List Ent} {K:St->Prop} {Q:Exit->Act->World->Prop} (J:Ef ops.size l=true) (h:Rel av w0 e0 [] [] a w e st)
  (hs:Fk P sh N0 ops l [] st K) (O:∀ a w e st,K st->Rel av w0 e0 [] [] a w e st->Q .normal a w):(Code.region id ops false).wp P Q a w:=by
 simp only[Ef,oM,mW,oc]at J;refine wp_region ?_;rw[<-J.1];exact Du I O l a w e st J.2 h hs
variable {av:Nat->Prop} {P:Program} {w0 w w':World} {e0 e:Env} {pS pS' pB pB':List Nat} {a:Act} {st st':St}
def sk (ops:Array Oper)(i:Nat):List Ent->Bool
 | []=>true
 | b::bs=>J9 ops b.i i||(!b.hard&&sk ops i bs)
def M9 (ops:Array Oper) (bf:List Ent) (en:Ent) (aft:List Ent):Bool:=
 match ops[en.i]? with
 | none=>false
 | some o=>
   (o.after.toList.all fun e=>!Region.binds .any e||bf.any fun b=>b.i==e.on) &&
   sk ops en.i bf &&
   (bf.all fun b=>match tE ops b.i with
    | none=>true
    | some d=>!(o.looksAt ops).contains d||J9 ops b.i en.i) &&
   (aft.all fun r=>match tE ops r.i with
    | none=>true
    | some d=>!((o.looksAt ops).contains d||o.dst==some d)||(r.hard&&J9 ops en.i r.i)) &&
   (en.hard||match o.dst with
    | none=>true
    | some d=>!(o.looksAt ops).contains d)
def Iz (ops:Array Oper):List Ent->List Ent->Bool
 | _,[]=>true
 | bf,en::l=>M9 ops bf en l&&Iz ops (en::bf) l
def FZ:List Nat->Bool
 | []=>true
 | k::ks=>!ks.contains k&&FZ ks
def chk (ops:Array Oper)(ord:List Ent):Bool:=
 ord.length==ops.size&&FZ (ord.map (·.i))&&((List.range ops.size).all λi=>ord.any λb=>b.i==i)&&Iz ops [] ord
structure Spot (ops:Array Oper) (l1:List Ent) (en:Ent) (l2:List Ent) (o:Oper):Prop where
 op:ops[en.i]?=some o
 ed:∀ e∈o.after,Region.binds .any e=true->∃ b∈l1,b.i=e.on
 hd:sk ops en.i l1.reverse=true
 pr:∀ b∈l1,∀ d,tE ops b.i=some d->d∈o.looksAt ops->J9 ops b.i en.i=true
 af:∀ r∈l2,∀ d,tE ops r.i=some d->(d∈o.looksAt ops\/o.dst=some d)->r.hard=true/\J9 ops en.i r.i=true
 se:en.hard=false->∀ d,o.dst=some d->d∉o.looksAt ops
theorem HF {ops:Array Oper}{l1:List Ent}{en:Ent}{l2:List Ent}(h:M9 ops l1.reverse en l2=true):∃ o,Spot ops l1 en l2 o:=by
 unfold M9 at h;split at h
 ·cases h
 ·rename_i o V;simp only[oM,oc]at h;obtain⟨⟨⟨⟨Y,Z⟩,h3⟩,h4⟩,U⟩:=h;refine⟨o,V,λe he I=>?_,Z,λb I d hd hm=>?_,λr hr d hd hm=>?_,λhh d hd hm=>?_⟩
  ·have:=Y e (oq.2 he)
   rw[I]at this;simp only[Bool.not_true,Bool.false_or,List.any_eq_true,mW]at this;obtain⟨b,J,O⟩:=this;exact⟨b,mL.1 J,O⟩
  ·have:=h3 b (mL.2 I)
   rw[hd]at this;simpa [hm]using this
  ·have:=h4 r hr
   rw[hd]at this;rcases hm with hm | hm
   ·simpa [hm]using this
   ·simpa [hm]using this
  ·rw[hh,hd]at U;simp[hm]at U
theorem BS {ops:Array Oper}:∀(l bf:List Ent),Iz ops bf.reverse l=true->∀ l1 en l2,l=l1++en::l2->∃ o,Spot ops (bf++l1) en l2 o
 | [],bf,_,l1,en,l2,h=>by cases l1<;>cases h
 | x :: l,bf,hc,l1,en,l2,h=>by
   simp only[Iz,oM]at hc;cases l1 with
   | nil=>cases h;simpa using HF hc.1
   | cons y l1=>
     cases h
     have:=BS _ (bf++[x]) (by simpa using hc.2) l1 en l2 rfl
     simpa using this
theorem sn {ops:Array Oper}{i:Nat}:∀(l m:List Ent),sk ops i (l++m)=true->(∃ b∈l,b.hard=true)->∃ b∈l,J9 ops b.i i=true
 | [],m,_,h=>by simp at h
 | b :: l,m,h,O=>by
   simp only[nJ,sk,mC,oM,nC]at h;rcases h with h | ⟨U,V⟩
   ·exact⟨b,by simp,h⟩
   ·obtain⟨x,hx,I⟩:=O;rcases oH.1 hx with rfl | hx
    ·rw[U]at I;cases I
    ·obtain⟨y,Y,J⟩:=sn l m V ⟨x,hx,I⟩;exact⟨y,by simp[Y],J⟩
theorem AD:∀ {l:List Nat},FZ l=true->l.Nodup
 | [],_=>mZ
 | k::ks,h=>by
   simp only[FZ,oM,nC]at h;refine nV.2 ⟨λhc=>?_,AD h.2⟩
   have:=h.1
   simp[hc]at this
structure Chk (ops:Array Oper) (ord:List Ent):Prop where
 len:ord.length=ops.size
 nd:(ord.map (·.i)).Nodup
 all:∀ i,i<ops.size->∃ b∈ord,b.i=i
 at_:∀ l1 en l2,ord=l1++en::l2->∃ o,Spot ops l1 en l2 o
theorem I0 {ops:Array Oper}{ord:List Ent}(h:chk ops ord=true):Chk ops ord:=by
 simp only[chk,oM,mW,oc]at h;obtain⟨⟨⟨I,J⟩,O⟩,U⟩:=h;refine⟨I,AD J,λi hi=>?_,λl1 en l2 V=>by simpa using BS ord [] (by simpa using U) l1 en l2 V⟩
 have:=O i (List.mem_range.2 hi)
 simpa using this
def IY (ops:Array Oper)(pend:Pend):List Nat:=pend.filterMap λx=>tE ops x.1
def Jb (pend:Pend):List Nat:=pend.filterMap (·.2)
theorem FW {ops:Array Oper}{pend:Pend}{t:Nat}:t∈IY ops pend↔∃ x∈pend,tE ops x.1=some t:=nT
theorem y4 {pend:Pend}{k:Nat}:k∈Jb pend↔∃ x∈pend,x.2=some k:=nT
structure RI (P:Program) (sh:FuncId->List Sh) (ops:Array Oper) (ord:List Ent) (K:St->Prop) (av:Nat->Prop) (w0:World) (e0:Env) (N0:Option Nat)
  (done rest:List Ent) (nv pend:Pend) (listed:Array Bool) (a:Act) (w:World) (e:Env) (st:St):Prop where
 ord:ord=done++rest
 rel:Rel av w0 e0 (IY ops pend) (Jb pend) a w e st
 pb:∀ k∈Jb pend,k<st.bx.length
 pd:∀ x∈pend,∃ en∈done,en.i=x.1/\en.hard=false
 nd:pend.Nodup
 un:∀ x∈pend,∀ y∈pend,x.1=y.1->x=y
 bu:∀ x∈pend,∀ y∈pend,∀ k,x.2=some k->y.2=some k->x=y
 pr:∀ x∈pend,Ny ops P st x
 ls:listed.size=ops.size
 li:∀ i,i<ops.size->(listed.getD i false=true↔(∃ en∈done,en.i=i)/\∀ x∈pend,x.1≠i)
 nvs:∀ x∈pend,x∈nv
 lc:∀ m,listed.getD m false=true->∀ i∈BA ops m,listed.getD i false=true
 f:Fk P sh N0 ops rest nv st K
section
variable {N0:Option Nat} {sh:FuncId->List Sh} {ops:Array Oper} {ord:List Ent} {K:St->Prop} {done rest:List Ent} {nv pend:Pend} {listed:Array Bool}
theorem ri {i j:Nat}(O:j∈Region.ready .any ops listed)(J:J9 ops i j=true):listed.getD i false=true:=by obtain⟨_,o,U,I⟩:=mem_ready.1 O;unfold J9 at J;rw[U]at J;simp only[Array.any_eq_true,oM,mW]at J;obtain⟨n,V,Y,Z⟩:=J;rw[<-Y];exact I _ (Array.getElem_mem V) Z
theorem AJ {j:Nat}(J:j∈Region.ready .any ops listed):∀ i∈BA ops j,listed.getD i false=true:=by obtain⟨_,o,O,I⟩:=mem_ready.1 J;intro i hi;simp only[BA,O,oP,mJ]at hi;obtain⟨e,⟨U,V⟩,rfl⟩:=hi;exact I e (oq.1 U) V
theorem HZ {j:Nat} (O:j∈Region.ready .any ops listed) (h:∀ m,listed.getD m false=true->∀ i∈BA ops m,listed.getD i false=true) :
  ∀ m,(listed.setIfInBounds j true).getD m false=true->∀ i∈BA ops m,(listed.setIfInBounds j true).getD i false=true:=λm J i hi=>by
 refine getD_set_true ?_;by_cases I:j=m
 ·subst I;exact AJ O i hi
 ·rw[getD_set_ne false I]at J;exact h m J i hi
theorem LS (hc:Chk ops ord)(h:RI P sh ops ord K av w0 e0 N0 done rest nv pend listed a w e st){en:Ent}(I:en∈ord):en.i<ops.size:=by obtain⟨l1,l2,J⟩:=mM I;obtain⟨o,O⟩:=hc.at_ l1 en l2 J;exact(oN.1 O.op).1
theorem vS (hc:Chk ops ord)(h:RI P sh ops ord K av w0 e0 N0 done rest nv pend listed a w e st){x:Nat × Option Nat}(J:x∈pend):listed.getD x.1 false≠true:=by obtain⟨en,O,U,_⟩:=h.pd x J;have I:=LS hc h (en:=en) (by rw[h.ord];simp[O]);rw[U]at I;intro V;exact((h.li x.1 I).1 V).2 x J rfl
theorem AM (hc:Chk ops ord) (h:RI P sh ops ord K av w0 e0 N0 done rest nv pend listed a w e st) {l1 l2:List Ent} {en:Ent} {o:Oper} (hl:ord=l1++en::l2) (J:Spot ops l1 en l2 o)
  (hr:en.i∈Region.ready .any ops listed) (hp:en.hard=true->∀ x∈pend,x.1≠en.i):∀ t∈o.looksAt ops,t∉IY ops pend:=by
 intro t O U;obtain⟨x,V,hd⟩:=FW.1 U;obtain⟨ex,h1,Y,Z⟩:=h.pd x V;have I:ex∈l1++en::l2:=by rw[<-hl,h.ord];simp[h1]
 rw[<-Y]at hd;rcases oO.1 I with hm | hm
 ·have he:=ri hr (J.pr ex hm t hd O);rw[Y]at he;exact vS hc h V he
 ·rcases oH.1 hm with rfl | hm
  ·refine J.se Z t ?_ O;simpa [tE,J.op]using hd
  ·have:=(J.af ex hm t hd (.inl O)).1
   rw[Z]at this;cases this
theorem Dg {j:Nat}{d:Bool}(I:j<listed.size)(i:Nat):(listed.setIfInBounds j true).getD i false=true↔i=j\/listed.getD i false=true:=by
 by_cases h:j=i
 ·subst h;simp[I]
 ·rw[getD_set_ne false h];constructor
  ·exact .inr
  ·rintro(h1 | h1)
   ·exact absurd h1.symm h
   ·exact h1
theorem D0 (hc:Chk ops ord) (h:RI P sh ops ord K av w0 e0 N0 done rest nv pend listed a w e st) {x:Nat × Option Nat} (hx:x∈pend) (hr:x.1∈Region.ready .any ops listed)
  {next:Act->World->Prop} {Q:Exit->Act->World->Prop}
  (hn:∀ a' w' e',RI P sh ops ord K av w0 e0 N0 done rest nv (pend.erase x) (listed.setIfInBounds x.1 true) a' w' e' st->next a' w'):wpOp P ops Q x.1 next a w:=by
 obtain⟨en,aj,hi,hh⟩:=h.pd x hx;obtain⟨l1,l2,hl⟩:=mM (show en∈ord by rw[h.ord];simp[aj]);obtain⟨o,ho⟩:=hc.at_ l1 en l2 hl;have V:=AM hc h hl ho (by rw[hi];exact hr) (by rw[hh];intro hc;cases hc);have aa:=ho.op;rw[hi]at aa;have hd:tE ops x.1=o.dst:=by simp[tE,aa]
 have J:∀ y,y∈pend.erase x↔y≠x/\y∈pend:=λy=>List.Nodup.mem_erase_iff h.nd;have ax:x.1<listed.size:=by rw[h.ls];exact(oN.1 aa).1
 have ak:∀ i,i∈IY ops pend->some i≠o.dst->i∈IY ops (pend.erase x):=λi ac ay=>by obtain⟨y,O,al⟩:=FW.1 ac;refine FW.2 ⟨y,(J y).2 ⟨λZ=>ay ?_,O⟩,al⟩;subst Z;rw[<-al,hd]
 have ab:∀ a' w' e',Rel av w0 e0 (IY ops (pend.erase x)) (Jb (pend.erase x)) a' w' e' st->next a' w':=λa' w' e' hR=>hn a' w' e' {
  ord:=h.ord
  rel:=hR
  pb:=λk U=>by obtain⟨y,O,I⟩:=y4.1 U;exact h.pb k (y4.2 ⟨y,((J y).1 O).2,I⟩)
  pd:=λy O=>h.pd y ((J y).1 O).2
  nd:=h.nd.erase x
  un:=λy O z hz=>h.un y ((J y).1 O).2 z ((J z).1 hz).2
  bu:=λy O z hz=>h.bu y ((J y).1 O).2 z ((J z).1 hz).2
  pr:=λy O=>h.pr y ((J y).1 O).2
  ls:=by simp[h.ls]
  li := λi ac=>by
   rw[Dg (d:=false) ax i];constructor
   ·rintro(rfl | h1)
    ·refine⟨⟨en,aj,hi⟩,λy O Z=>?_⟩
     have:=(J y).1 O
     exact this.1 (h.un y this.2 x hx Z)
    ·have:=(h.li i ac).1 h1
     exact⟨this.1,λy O=>this.2 y ((J y).1 O).2⟩
   ·rintro⟨h1,h2⟩
    by_cases ao:i=x.1
    ·exact .inl ao
    ·refine .inr ((h.li i ac).2 ⟨h1,λy O aq=>?_⟩);by_cases Z:y=x
     ·subst Z;exact ao aq.symm
     ·exact h2 y ((J y).2 ⟨Z,O⟩) aq
  nvs:=λy O=>h.nvs y ((J y).1 O).2
  lc:=HZ hr h.lc
  f:=h.f }
 obtain⟨o',au,U⟩:=h.pr x hx;rw[aa]at au;cases au;unfold wpOp;rw[aa];simp only;rcases U with⟨hw,_,r,q,h2,h3,h4,h5⟩ | ⟨hw,hb,h3⟩
 ·rw [if_pos (EH h.rel hw V)];refine .inl ?_;have ae:∀ B f,r=.b B f->∃ k,x.2=some k:=λB f hr=>by
   subst hr;cases Y:x.2 with
   | none=>rw[Y]at h3;cases h3
   | some k=>exact⟨k,rfl⟩
  obtain⟨v,w',e',g1,g2⟩:=Jk h.rel (o:=o) (r:=r) (k:=x.2.getD 0) (λy O t ht=>V t (wj O ht)) h2 (λd az a1=>by
   rw[h4 d az a1];cases r with
   | v p=>cases Y:x.2<;>rw[Y]at h3<;>simp[Jo]at h3;simp[h3]
   | b B f=>obtain⟨k,U⟩:=ae B f rfl;rw[U]at h3;simp[Jo]at h3;simp[U,h3]) (λB f aw=>by
   obtain⟨k,U⟩:=ae B f aw;rw[U];exact⟨h5 B f k aw U,y4.2 ⟨x,hx,U⟩⟩) ak
  unfold Oper.wp;rw[g1,Oper.upon_value];refine ab _ _ _ (ud g2 (λk=>?_) λ_=>id);cases r with
  | v p=>
    have Y:x.2=none:=by cases Y:x.2<;>rw[Y]at h3<;>simp[Jo]at h3<;>rfl
    simp only[Res.isB,nh,nO];constructor
    ·intro U;obtain⟨y,O,I⟩:=y4.1 U;exact y4.2 ⟨y,((J y).1 O).2,I⟩
    ·intro U;obtain⟨y,O,I⟩:=y4.1 U;exact y4.2 ⟨y,(J y).2 ⟨λhc=>(by rw[hc,Y]at I;cases I),O⟩,I⟩
  | b B f=>
    obtain⟨k0,ah⟩:=ae B f rfl;simp only[Res.isB,nu,ah,nA,mJ,oi,ne_eq];constructor
    ·intro U;obtain⟨y,O,I⟩:=y4.1 U
     have:=(J y).1 O
     exact⟨y4.2 ⟨y,this.2,I⟩,λai=>this.1 (h.bu y this.2 x hx k I (by rw[ah,ai]))⟩
    ·rintro⟨U,ai⟩
     obtain⟨y,O,I⟩:=y4.1 U;exact y4.2 ⟨y,(J y).2 ⟨λhc=>(by rw[hc,ah]at I;cases I;exact ai rfl),O⟩,I⟩
 ·rw[if_neg (by rw[Dy h.rel hw V];simp)];have h4:=yP h.rel (dst:=o.dst) Ai ak;rw[St.put_same h3]at h4;refine ab _ _ _ (ud h4 (λk=>?_) λ_=>id);constructor
  ·intro U;obtain⟨y,O,I⟩:=y4.1 U;exact y4.2 ⟨y,((J y).1 O).2,I⟩
  ·intro U;obtain⟨y,O,I⟩:=y4.1 U;exact y4.2 ⟨y,(J y).2 ⟨λhc=>(by rw[hc,hb]at I;cases I),O⟩,I⟩
theorem wN {l1 l2:List Ent}{en:Ent}(h:((l1++en::l2).map (·.i)).Nodup):∀ x∈l1,x.i≠en.i:=by intro x I hc;rw[mP,o9]at h;exact h.2.2 x.i (oP.2 ⟨x,I,rfl⟩) en.i (by simp) hc
theorem AL (hc:Chk ops ord) {en:Ent} (hh:en.hard=false) (h:RI P sh ops ord K av w0 e0 N0 done (en::rest) nv pend listed a w e st) :
  ∃ b nv' e' st',RI P sh ops ord K av w0 e0 N0 (done++[en]) rest nv' ((en.i,b)::pend) listed a w e' st':=by
 obtain⟨o,ho⟩:=hc.at_ done en rest h.ord;have ae:=hc.nd;rw[h.ord]at ae;have O:∀ x∈pend,x.1≠en.i:=λx hx=>by obtain⟨ex,h1,V,_⟩:=h.pd x hx;rw[<-V];exact wN ae ex h1
 have hf:=h.f;simp only[Fk,ho.op,hh]at hf;have fin:∀(b:Option Nat) (nv':Pend) (e':Env) (st':St),nv'=(en.i,b)::nv->Rel av w0 e0 (IY ops ((en.i,b)::pend)) (Jb ((en.i,b)::pend)) a w e' st'->(∀ k,b=some k->st.bx.length<=k/\k<st'.bx.length)->Stp [] [] o.dst st st' ->
   Ld ops P st' o b->Fk P sh N0 ops rest nv' st' K->RI P sh ops ord K av w0 e0 N0 (done++[en]) rest nv' ((en.i,b)::pend) listed a w e' st':=λb nv' e' st' ax hR hb I hK hF=>{
  ord:=by rw[h.ord];simp
  rel:=hR
  pb:=λk J=>by
   obtain⟨y,hy,Y⟩:=y4.1 J;rcases oH.1 hy with rfl | hy
   ·exact(hb k Y).2
   ·exact om (h.pb k (y4.2 ⟨y,hy,Y⟩)) I.bl
  pd:=λx hx=>by
   rcases oH.1 hx with rfl | hx
   ·exact⟨en,by simp,rfl,hh⟩
   ·obtain⟨ex,h1,V⟩:=h.pd x hx;exact⟨ex,by simp[h1],V⟩
  nd:=nV.2 ⟨λhm=>O _ hm rfl,h.nd⟩
  un:=λx hx y hy ah=>by
   rcases oH.1 hx with rfl | hx<;>rcases oH.1 hy with rfl | hy
   ·rfl
   ·exact absurd ah.symm (O y hy)
   ·exact absurd ah (O x hx)
   ·exact h.un x hx y hy ah
  bu:=λx hx y hy k ai Y=>by
   rcases oH.1 hx with rfl | hx<;>rcases oH.1 hy with rfl | hy
   ·rfl
   ·have:=(hb k ai).1;have:=h.pb k (y4.2 ⟨y,hy,Y⟩);omega
   ·have:=(hb k Y).1;have:=h.pb k (y4.2 ⟨x,hx,ai⟩);omega
   ·exact h.bu x hx y hy k ai Y
  pr:=λx hx=>by
   rcases oH.1 hx with rfl | hx
   ·exact⟨o,ho.op,hK⟩
   ·obtain⟨ox,ao,ay⟩:=h.pr x hx;refine⟨ox,ao,q9 ay I (λ_ h=>h) (.inl pD) λd hd=>?_⟩;obtain⟨ex,h1,V,h3⟩:=h.pd x hx;obtain⟨m1,m2,hm⟩:=mM h1;obtain⟨az,aq⟩:=hc.at_ m1 ex (m2++en::rest) (by rw[h.ord,hm];simp);have:az=ox:=by have:=aq.op;rw[V,ao]at this;exact(nD this).symm
    subst this;have au:=aq.af en (by simp) d (by simp[tE,ho.op,hd]);refine⟨λhc=>?_,λhc=>?_⟩
    ·have:=(au (.inl hc)).1;rw[hh]at this;cases this
    ·have:=(au (.inr hc)).1;rw[hh]at this;cases this
  ls:=h.ls
  li:=λi hi=>by
   rw[h.li i hi];constructor
   ·rintro⟨⟨x,h1,V⟩,h3⟩
    refine⟨⟨x,by simp[h1],V⟩,λy hy=>?_⟩;rcases oH.1 hy with rfl | hy
    ·simp only;rw[<-V];exact(wN ae x h1).symm
    ·exact h3 y hy
   ·rintro⟨⟨x,h1,V⟩,h3⟩
    refine⟨⟨x,?_,V⟩,λy hy=>h3 y (by simp[hy])⟩;rcases oO.1 h1 with h1 | h1
    ·exact h1
    ·simp at h1;subst h1;exact absurd V (h3 (x.i,b) (by simp))
  nvs:=λx hx=>by
   subst ax;rcases oH.1 hx with rfl | hx
   ·simp
   ·simp[h.nvs x hx]
  lc:=h.lc
  f:=hF }
 have Z:∀ b,IY ops ((en.i,b)::pend)=o.dst.toList++IY ops pend:=λb=>by simp only[IY,na,tE,ho.op,oI];cases o.dst<;>rfl
 have aj:=ho.se hh;rcases By hf with⟨hw,hf⟩ | ⟨hw,hf⟩
 ·split at hf
  rotate_left
  ·exact hf.elim
  rename_i hb;simp only[oM]at hb;obtain⟨a8,a1⟩:=hb;obtain⟨r,hK,hr⟩:=Hc _ hf;have hr:=hr (λq=>q=r) rfl;have hR:=Jl h.rel o.dst r;have I:Stp [] [] o.dst st (st.push o.dst r):=Fs;have aw:∀ y∈o.op.operands,∀ k∈(opd st.sl y).refs,k<st.bx.length:=λy hy k J=>by
   have:=oc.1 (oc.1 a1 y (oq.2 hy)) k J
   simpa using this
  have ac:∀ y∈o.op.operands,opd (st.push o.dst r).sl y=opd st.sl y:=λy hy=>by
   cases y with
   | tmp t=>
     have ab:o.dst≠some t:=λhc=>aj t hc (wj hy rfl);simp only[opd];rw[oA,oA];cases hp:st.sl[t]? with
     | none=>have:(st.push o.dst r).sl[t]?=none:=oh (by rw[I.ll];exact np.1 hp);rw[this]
     | some p=>rw[I.sl t p (λhc=>ab hc.symm) hp (by simp)]
   | _=>rfl
  have ak:Le ops o (st.push o.dst r):=λg aa hg=>by obtain⟨og,d,h1,V,h3⟩:=hw g aa hg;exact⟨og,d,h1,V,I.sl d _ (λhc=>aj d hc.symm (by simp[Oper.looksAt,hg,h1,V])) h3 (by simp)⟩
  have a6:∀ k,k<st.bx.length->(st.push o.dst r).bx[k]?=st.bx[k]?:=λk J=>by rw[I.bx k _ (oF J) (by simp) (by simp),oF J]
  have al:∀ d q,o.dst=some d->d<(st.push o.dst r).sl.length->Jo r (r.bk st.bx.length)=some q->(st.push o.dst r).sl[d]?=some q:=λd q hd U hq=>by
   rw[I.ll]at U;cases r with
   | v p=>simp[Res.bk,Jo]at hq;subst hq;simp[St.push,St.put,hd,U]
   | b B f=>simp[Res.bk,Jo]at hq;subst hq;simp[St.push,St.put,hd,U]
  refine⟨r.bk st.bx.length,(en.i,r.bk st.bx.length)::nv,(if r.isB then e++[none]else e),_,fin _ _ _ _ rfl ?_ ?_ I (.inl ⟨ak,?_,r,?_⟩) hK⟩
  ·rw[Z];refine ud hR (λk=>?_) λ_=>id;cases r with
   | v p=>simp[Res.isB,Res.bk,Jb]
   | b B f=>simp[Res.isB,Res.bk,Jb]
  ·intro k J;cases r with
   | v p=>cases J
   | b B f=>simp[Res.bk]at J;subst J;refine⟨oG _,?_⟩;cases o.dst<;>simp[St.push,St.put]
  ·intro y hy k J;rw[ac y hy]at J
   have:=aw y hy k J
   exact om this I.bl
  ·have hq:∃ q,Jo r (r.bk st.bx.length)=some q:=by cases r<;>simp[Res.bk,Jo]
   obtain⟨q,hq⟩:=hq;refine⟨q,?_,hq,λd hd U=>al d q hd U hq,λB f k a7 J=>?_⟩
   ·rw[AC (ρ:=opd st.sl) (rb:=λk=>st.bx[k]?) ac λy hy k J=>a6 k (aw y hy k J)];exact hr
   ·subst a7;simp[Res.bk]at J;subst J;cases o.dst<;>simp[St.push,St.put]
 ·have I:Stp [] [] o.dst st (st.put o.dst (.tp [])):=Stp.put Stp.rfl' _;refine⟨none,(en.i,none)::nv,e,st.put o.dst (.tp []),fin _ _ _ _ rfl ?_ (λk J=>by cases J) I (.inr ⟨?_,rfl,λd hd U=>?_⟩) hf⟩
  ·rw[Z];exact ud (Cf h.rel) (λk=>by simp[Jb]) λ_=>id
  ·obtain⟨g,aa,og,d,g1,g2,g3,g4⟩:=hw;have ab:some d≠o.dst:=λhc=>aj d hc.symm (by simp[Oper.looksAt,g1,g2,g3]);refine⟨g,aa,og,d,g1,g2,g3,?_⟩;rcases g4 with g4 | g4
   ·exact .inl (I.sl d _ ab g4 (by simp))
   ·exact .inr (I.sl d _ ab g4 (by simp))
  ·rw[I.ll]at U;simp[St.put,hd,U]
theorem AK (hc:Chk ops ord):∀(pre rest done:List Ent) (nv pend:Pend) (e:Env) (st:St),(∀ en∈pre,en.hard=false)->RI P sh ops ord K av w0 e0 N0 done (pre++rest) nv pend listed a w e st ->
  ∃ nv' I e' st',RI P sh ops ord K av w0 e0 N0 (done++pre) rest nv' I listed a w e' st'/\I.length=pend.length+pre.length
 | [],rest,done,nv,pend,e,st,_,h=>⟨nv,pend,e,st,by simpa using h,rfl⟩
 | en::pre,rest,done,nv,pend,e,st,U,h=>by obtain⟨b,J,e1,O,V⟩:=AL hc (U en (by simp)) h;obtain⟨nv',I,e',st',Y,Z⟩:=AK hc pre rest (done++[en]) J _ e1 O (λx hx=>U x (by simp[hx])) V;exact⟨nv',I,e',st',by simpa using Y,by rw[Z];simp;omega⟩
theorem Gu (bb:NOk N0 w0) (hc:Chk ops ord) {Q:Exit->Act->World->Prop} (hQ:∀ a w e st,K st->Rel av w0 e0 [] [] a w e st->Q .normal a w) :
  ∀ (fuel:Nat) (done rest:List Ent) (nv pend:Pend) (listed:Array Bool) (a:Act) (w:World) (e:Env) (st:St),RI P sh ops ord K av w0 e0 N0 done rest nv pend listed a w e st->fuel=rest.length+pend.length ->
    wpAny P .any ops Q fuel listed a w:=by
 have fin:∀(done rest:List Ent) (nv pend:Pend) (listed:Array Bool) (a:Act) (w:World) (e:Env) (st:St),RI P sh ops ord K av w0 e0 N0 done rest nv pend listed a w e st->rest=[]->pend=[]->Q .normal a w:=by intro done rest nv pend listed a w e st h hr hp;subst hr;subst hp;exact hQ a w e st h.f h.rel
 have prog:∀(done rest:List Ent) (nv pend:Pend) (listed:Array Bool) (a:Act) (w:World) (e:Env) (st:St),RI P sh ops ord K av w0 e0 N0 done rest nv pend listed a w e st->Region.ready .any ops listed=[]->rest=[]/\pend=[]:=by
  intro done rest nv pend listed a w e st h hr
  have key:∀(l1 l2:List Ent),ord=l1++l2->∀ en∈l1,listed.getD en.i false=true:=by
   intro l1
   suffices ∀ n,∀ l1 l2:List Ent,l1.length=n->ord=l1++l2->∀ en∈l1,listed.getD en.i false=true from λl2=>this l1.length l1 l2 rfl
   intro n
   induction n with
   | zero=>intro l1 l2 hl _ en O;simp at hl;subst hl;simp at O
   | succ n ih=>
     intro l1 l2 hl ho en O;rcases List.eq_nil_or_concat l1 with rfl | ⟨m,x,rfl⟩
     ·simp at hl
     ·rw [List.concat_eq_append]at hl ho O;simp only[oK,oR,o5]at hl;have hm:=ih m (x::l2) (by omega) (by rw[ho];simp);rcases oO.1 O with h1 | h1
      ·exact hm en h1
      ·simp at h1;subst h1;obtain⟨o,hs⟩:=hc.at_ m en l2 (by rw[ho];simp);cases ah:listed.getD en.i false with
       | true=>rfl
       | false=>
         exfalso;have U:=(oN.1 hs.op).1;have:en.i∈Region.ready .any ops listed:=mem_ready.2 ⟨by
          rw[o3]at ah ⊢;rw[ol (by rw[h.ls];exact U)]at ah ⊢;exact ah,o,hs.op,λe he hb=>by
          obtain⟨b,bc,bd⟩:=hs.ed e he hb;rw[<-bd];exact hm b bc⟩
         rw[hr]at this;simp at this
  have au:=key ord [] (by simp);have aw:∀ en∈ord,(∃ x∈done,x.i=en.i)/\∀ x∈pend,x.1≠en.i:=λen O=>(h.li en.i (LS hc h O)).1 (au en O);constructor
  ·cases ai:rest with
   | nil=>rfl
   | cons en l=>exfalso;have ho:=h.ord;rw[ai]at ho;obtain⟨⟨x,J,bg⟩,_⟩:=aw en (by rw[ho];simp);have ac:=hc.nd;rw[ho]at ac;exact wN ac x J bg
  ·cases aa:pend with
   | nil=>rfl
   | cons x l=>exfalso;obtain⟨en,h1,h2,_⟩:=h.pd x (by rw[aa];simp);exact(aw en (by rw[h.ord];simp[h1])).2 x (by rw[aa];simp) h2.symm
 intro fuel
 induction fuel with
 | zero=>
   intro done rest nv pend listed a w e st h hf;have h1:rest=[]:=oV (by omega);have h2:pend=[]:=oV (by omega);refine⟨?_,fin _ _ _ _ _ _ _ _ _ h h1 h2⟩;subst h1;subst h2;cases hr:Region.ready .any ops listed with
   | nil=>rfl
   | cons j l=>
     exfalso;have hj:j∈Region.ready .any ops listed:=by rw[hr];simp
     obtain⟨g1,o,g2,_⟩:=mem_ready.1 hj;have U:=(oN.1 g2).1;obtain⟨b,hb,bh⟩:=hc.all j U;have ho:=h.ord;rw[nH]at ho
     have:=(h.li j U).2 ⟨⟨b,by rw[<-ho];exact hb,bh⟩,by simp⟩
     rw[o3]at this g1;rw[ol (by rw[h.ls];exact U)]at this g1;simp only[nA]at this g1;rw[this]at g1;cases g1
 | succ fuel ih=>
   intro done rest nv pend listed a w e st h hf;refine⟨λhr=>by obtain⟨h1,h2⟩:=prog _ _ _ _ _ _ _ _ _ h hr;exact fin _ _ _ _ _ _ _ _ _ h h1 h2,λj hj=>?_⟩;by_cases ax:∃ x∈pend,x.1=j
   ·obtain⟨x,J,rfl⟩:=ax;refine D0 hc h J hj λa' w' e' I=>ih _ _ _ _ _ _ _ _ _ I ?_
    have:=List.length_erase_of_mem J
    have:=List.length_pos_of_mem J
    omega
   ·have bi:∀ x∈pend,x.1≠j:=λx J hc=>ax ⟨x,J,hc⟩;obtain⟨g1,oj,g2,g3⟩:=mem_ready.1 hj;have U:=(oN.1 g2).1;obtain⟨en,O,hi⟩:=hc.all j U;have bj:listed.getD j false=false:=by rw[o3]at g1 ⊢;rw[ol (by rw[h.ls];exact U)]at g1 ⊢;exact g1
    have ac:∀ x∈done,x.i≠j:=λx J bm=>by
     have:=(h.li j U).2 ⟨⟨x,J,bm⟩,bi⟩
     rw[bj]at this;cases this
    have bn:en∈rest:=by
     rw[h.ord]at O;rcases oO.1 O with h1 | h1
     ·exact absurd hi (ac en h1)
     ·exact h1
    obtain⟨pre,post,ab⟩:=mM bn;obtain⟨o,hs⟩:=hc.at_ (done++pre) en post (by rw[h.ord,ab];simp);have ay:∀ b∈pre,b.hard=false:=by
     intro b hb;cases bp:b.hard with
     | false=>rfl
     | true=>
       exfalso;have az:=hs.hd;rw[List.reverse_append]at az;obtain⟨x,J,aj⟩:=sn pre.reverse done.reverse az ⟨b,mL.2 hb,bp⟩;have bq:=ri (by rw[hi];exact hj) aj;have bt:x∈ord:=by rw[h.ord,ab];simp[mL.1 J]
       obtain⟨⟨y,hy,bv⟩,_⟩:=(h.li x.i (LS hc h bt)).1 bq;have V:=hc.nd;obtain⟨q1,q2,hq⟩:=mM (mL.1 J);have ho:ord=(done++q1)++x::(q2++en::post):=by rw[h.ord,ab,hq];simp
       rw[ho]at V;exact wN V y (by simp[hy]) bv
    rw[ab]at h;obtain⟨nv',Y,e',st',I,b9⟩:=AK hc pre (en::post) done nv pend e st ay h;have ca:rest.length=pre.length+(post.length+1):=by rw[ab];simp
    cases hh:en.hard with
    | false=>
      obtain⟨b,cc,e2,st2,h2⟩:=AL hc hh I;have bw:(en.i,b).1∈Region.ready .any ops listed:=by rw[<-hi]at hj;exact hj
      rw[<-hi];refine D0 hc h2 (x:=(en.i,b)) (by simp) bw λa' w' e' h3=>ih _ _ _ _ _ _ _ _ _ h3 ?_;rw[List.length_erase_of_mem (by simp)];simp only[oR];omega
    | true=>
      have ae:∀ x∈Y,x.1≠en.i:=λx J aj=>by obtain⟨ex,k1,k2,_⟩:=I.pd x J;have V:=hc.nd;rw[I.ord]at V;exact wN V ex k1 (by rw[k2,aj])
      have ak:=AM hc I I.ord hs (by rw[hi];exact hj) (λ_=>ae);have a1:=I.f;simp only[Fk,hs.op,hh]at a1;rw[<-hi];have al:∀ x∈Y,x∈Cm ops en.i nv':=λx J=>by
       have a6:=I.nvs x J;unfold Cm;split
       ·simp at a6
       ·refine mJ.2 ⟨a6,?_⟩;cases bz:(Kf ops 1000 (BA ops en.i) []).contains x.1 with
        | false=>rfl
        | true=>
          have hm:x.1∈Kf ops 1000 (BA ops en.i) []:=by simpa using bz
          exact absurd (CD (A:=λk=>listed.getD k false=true) I.lc 1000 _ [] (AJ (by rw[hi];exact hj)) (by simp) x.1 hm) (vS hc I J)
      refine Da I.rel bb I.pb (pf:=Cm ops en.i nv') (λt ht=>by
       obtain⟨x,J,hd⟩:=FW.1 ht;exact⟨x,al x J,hd⟩) (λk hk=>by
       obtain⟨x,J,hd⟩:=y4.1 hk;exact⟨x,al x J,hd⟩) hs.op ak a1 λv w' e2 st2 k1 k0 k2 k3=>?_
      refine ih (done++pre++[en]) post nv' Y _ _ _ e2 st2 {
       ord:=by rw[I.ord];simp
       rel:=k3
       pb:=λk hk=>om (I.pb k hk) k0
       pd:=λx J=>by obtain⟨ex,m1,m2⟩:=I.pd x J;exact⟨ex,by simp at m1 ⊢;rcases m1 with m1 | m1<;>simp[m1],m2⟩
       nd:=I.nd
       un:=I.un
       bu:=I.bu
       pr:=λx J=>by
        obtain⟨ox,ao,b3⟩:=I.pr x J;refine⟨ox,ao,k2 x (al x J) ox ao b3 λd hd=>?_⟩;obtain⟨ex,m1,m2,m3⟩:=I.pd x J;obtain⟨q1,q2,hq⟩:=mM m1;obtain⟨aq,a7⟩:=hc.at_ q1 ex (q2++en::post) (by rw[I.ord,hq];simp);have:aq=ox:=by have:=a7.op;rw[m2,ao]at this;exact(nD this).symm
        subst this;have b7:=a7.af en (by simp) d (by simp[tE,hs.op,hd]);have a8:∀ Z:(d∈aq.looksAt ops\/aq.dst=some d),False:=λZ=>by have he:=(b7 Z).2;rw[m2]at he;exact vS hc I J (ri (by rw[hi];exact hj) he)
        exact⟨λZ=>a8 (.inl Z),λZ=>a8 (.inr Z)⟩
       ls:=by simp[I.ls]
       li := λi ba=>by
        have b8:en.i<listed.size:=by rw[I.ls,hi];exact U
        rw[Dg (d:=false) b8 i];constructor
        ·rintro(rfl | m1)
         ·exact⟨⟨en,by simp,rfl⟩,ae⟩
         ·obtain⟨⟨x,m2,m3⟩,m4⟩:=(I.li i ba).1 m1;exact⟨⟨x,by simp at m2 ⊢;rcases m2 with m2 | m2<;>simp[m2],m3⟩,m4⟩
        ·rintro⟨⟨x,m1,m2⟩,m3⟩
         rcases oO.1 m1 with m1 | m1
         ·exact .inr ((I.li i ba).2 ⟨⟨x,m1,m2⟩,m3⟩)
         ·simp at m1;subst m1;exact .inl m2.symm
       nvs:=I.nvs
       lc:=HZ (by rw[hi];exact hj) I.lc
       f:=k1 } ?_
      omega
end
theorem Gc {N0:Option Nat} (J:NOk N0 w0) {sh:FuncId->List Sh} {id:Nat} {ops:Array Oper} {ord:List Ent} {K:St->Prop} {Q:Exit->Act->World->Prop} (I:P.follows .mixedOrders=true) (hc:chk ops ord=true)
  (h:Rel av w0 e0 [] [] a w e st) (hs:Fk P sh N0 ops ord [] st K) (U:∀ a w e st,K st->Rel av w0 e0 [] [] a w e st->Q .normal a w):(Code.region id ops true).wp P Q a w:=by
 have O:=I0 hc;refine wp_region_any I ?_;have V:Rel av w0 e0 [] [] a { w with drawn:=w.drawn+1 } e st:=MX (Fm h (w':={ w with drawn:=w.drawn+1 }) (oG _) (λ_ _=>rfl) λb c t z Y hc=>by have:=(oN.1 hc).1;simp at this;omega) h.hN;refine Gu J O U ops.size [] ord [] [] _ a _ e st {
  ord:=rfl
  rel:=V
  pb:=by simp[Jb]
  pd:=by simp
  nd:=mZ
  un:=by simp
  bu:=by simp
  pr:=by simp
  ls:=by simp
  li:=λi hi=>by simp[hi]
  nvs:=by simp
  lc:=λm I=>by exfalso;rw[o3,Array.getElem?_replicate]at I;split at I<;>simp at I
  f:=hs } (by simp[O.len])
variable {av:Nat->Prop} {P:Program} {w0 w w':World} {e0 e:Env} {pS pS' pB pB':List Nat} {a:Act} {st st':St}
def My (w:World)(e:Env)(live:Nat->Prop)(p q:PV):Prop:=q=.any\/(p≠.any/\p.val e=q.val e/\(p.Ok w live->q.Ok w live)/\∀ k∈q.refs,k∈p.refs)
theorem IA (h:Rel av w0 e0 pS pB a w e st) {O:List PV} (hl:O.length<=st.sl.length)
  (hs:∀(i:Nat) (q:PV),O[i]?=some q->q=.any\/∃ p,st.sl[i]?=some p/\My w e (zF av pB e st.bx) p q):Rel av w0 e0 pS pB a w e { st with sl:=O }:={
 h with
 nd:=h.nd
 sz:=o8 hl h.sz
 hs:=λi q hi U=>by
  rcases hs i q hi with I | ⟨p,I,J | ⟨J,V,Y,Z⟩⟩
  ·exact .inl I
  ·exact .inl J
  ·exact .inr (((h.hs i p I U).resolve_left J).trans V)
 so:=λi q hi U=>by
  rcases hs i q hi with I | ⟨p,I,J | ⟨J,V,Y,Z⟩⟩
  ·subst I;trivial
  ·subst J;trivial
  ·exact Y (h.so i p I U)
 sr:=λi q hi U k hk=>by
  rcases hs i q hi with I | ⟨p,I,J | ⟨J,V,Y,Z⟩⟩
  ·subst I;simp[PV.refs]at hk
  ·subst J;simp[PV.refs]at hk
  ·exact h.sr i p I U k (Z k hk) }
def Dk (p:PV):PV:=match p with
 | .pg cs=>match Cj cs with
   | some ds=>.dg cs.length (.ag ds)
   | none=>.pg cs
 | p=>p
theorem rt {live:Nat->Prop}{p:PV}(I:p.Ok w live):My w e live p (Dk p):=by
 have same:∀ p:PV,My w e live p p:=λp=>by
  by_cases O:p=.any
  ·exact .inl O
  ·exact .inr ⟨O,rfl,id,λ_=>id⟩
 cases p
 case pg cs=>
  simp only[Dk];split
  ·rename_i ds J;simp only[PV.Ok]at I;have U:=vF (e:=e) J I.1;exact .inr ⟨by simp,by rw[show(PV.pg cs).val e=(PV.pg cs).val1 e from rfl];exact((IQ J I.1 (e:=e)).symm.trans rfl),λ_=>⟨Good.ag λd hd=>(U.1 d hd).1,ds,rfl,wP J,λd hd=>(U.1 d hd).2⟩,by simp[PV.refs]⟩
  ·exact same _
 all_goals exact same _
def Dd (ks:List Nat):Nat->List PV->List PV
 | _,[]=>[]
 | i,p::ps=>(match ks.contains i with
   | true=>Dk p
   | false=>.any)::Dd ks (i+1) ps
theorem qO {ks:List Nat}:∀(l:List PV)(i:Nat),(Dd ks i l).length=l.length
 | [],i=>rfl
 | p::l,i=>by simp[Dd,qO l]
theorem De {ks:List Nat}:∀(l:List PV)(i j:Nat)(q:PV),(Dd ks i l)[j]?=some q->∃ p,l[j]?=some p/\(q=.any\/q=Dk p)
 | [],i,j,q,h=>by simp[Dd]at h
 | p :: l,i,j,q,h=>by
   cases j with
   | zero=>
     simp only[Dd,mU,od]at h;refine⟨p,rfl,?_⟩;split at h
     ·exact .inr h.symm
     ·exact .inl h.symm
   | succ j=>simp only[Dd,nQ]at h ⊢;exact De l (i+1) j q h
def St.keep (st:St)(ks:List Nat):St:={ st with sl:=Dd ks 0 st.sl }
theorem H8 (h:Rel av w0 e0 [] pB a w e st)(ks:List Nat):Rel av w0 e0 [] pB a w e (st.keep ks):=
 IA h (by rw[qO];exact oG _) λi q hi=>by
  obtain⟨p,I,h2 | h2⟩:=De _ _ _ _ hi
  ·exact .inl h2
  ·subst h2;exact .inr ⟨p,I,rt (h.so i p I (by simp))⟩
def St.nils (st:St):List (Nat × TypeId × Nat)->St
 | []=>st
 | (t,ty,z)::l=>match st.sl[t]? with
   | some (.sv none _ [] 0)=>St.nils { st with sl:=st.sl.set t (.sb st.bx.length z 0 0 0),bx:=st.bx++[.arr ty z [] 0] } l
   | _=>St.nils st l
theorem Cg:∀(l:List (Nat × TypeId × Nat)) (e:Env) (st:St),Rel av w0 e0 [] [] a w e st->∃ e',Rel av w0 e0 [] [] a w e' (st.nils l)
 | [],e,st,h=>⟨e,h⟩
 | (t, ty,z)::l,e,st,h=>by
   simp only[St.nils];split
   ·rename_i zz Y;have I:=u6 h (el:=ty) (z:=z) (by simp);have O:Env.at (e++[none]) st.bx.length=none:=by rw[<-h.el];exact Env.at_append_eq
    have Z:Rel av w0 e0 [] [] a w (e++[none]) { st with sl:=st.sl.set t (.sb st.bx.length z 0 0 0),bx:=st.bx++[.arr ty z [] 0] }:={
     I with
     nd:=I.nd
     sz:=by simp;exact I.sz
     hs := λi q hi J=>by
      simp only[nS]at hi;split at hi
      ·rename_i U;subst U;split at hi
       ·simp at hi;subst hi
        have:=(I.hs t _ Y (by simp)).resolve_left (by simp)
        right;rw[this];simp[PV.val,PV.val1,PV.cv,O]
       ·cases hi
      ·exact I.hs i q hi J
     so:=λi q hi J=>by
      simp only[nS]at hi;split at hi
      ·split at hi
       ·simp at hi;subst hi;trivial
       ·cases hi
      ·exact I.so i q hi J
     sr:=λi q hi J k V=>by
      simp only[nS]at hi;split at hi
      ·split at hi
       ·simp at hi;subst hi;simp[PV.refs]at V;subst V;simp
       ·cases hi
      ·exact I.sr i q hi J k V }
    exact Cg l _ _ Z
   ·exact Cg l e st h
theorem H5 (h:Rel av w0 e0 [] [] a w e st) {k:Nat} {cs cs':List PV} (hk:st.bx[k]?=some (.var cs)) (hl:cs'.length=cs.length)
  (hc:∀(i:Nat) (p:PV),cs'[i]?=some p->cs[i]?=some p\/∃ q,cs[i]?=some q/\q≠.any/\p.cv e=q.cv e/\(∀ live,p.Ok w live)/\p.isC/\∀ r∈p.refs,r<st.bx.length) :
  Rel av w0 e0 [] [] a w e { st with bx:=st.bx.set k (.var cs') }:=by
 have hkl:=(oC.1 hk).1;have hget:∀(j:Nat) (B:Bx),(st.bx.set k (.var cs'))[j]?=some B->(j=k/\B=.var cs')\/(j≠k/\st.bx[j]?=some B):=fun j B hj=>by
  rw[nS]at hj;split at hj
  ·rename_i hkj
   first
    | (cases hj;exact .inl ⟨hkj.symm,rfl⟩)
    | (split at hj
       ·cases hj;exact .inl ⟨hkj.symm,rfl⟩
       ·cases hj)
  ·rename_i hkj;exact .inr ⟨fun hc=>hkj hc.symm,hj⟩
 have hlv:∀ j b,Lives [] e (st.bx.set k (.var cs')) j b↔Lives [] e st.bx j b:=fun j b=>by
  constructor
  ·rintro⟨h1,h2,B,h3,h4⟩
   rcases hget j B h3 with⟨rfl,rfl⟩ | ⟨h5,h6⟩
   ·exact⟨h1,h2,_,hk,by simp⟩
   ·exact⟨h1,h2,B,h6,h4⟩
  ·rintro⟨h1,h2,B,h3,h4⟩
   by_cases hjk:j=k
   ·subst hjk;exact⟨h1,h2,.var cs',by rw[List.getElem?_set_self hkl],by simp⟩
   ·exact⟨h1,h2,B,by rw[nf (Ne.symm hjk)];exact h3,h4⟩
 have hlive:∀ b,zF av [] e (st.bx.set k (.var cs')) b->zF av [] e st.bx b:=fun b hb=>hb.imp id fun⟨j,hj⟩=>⟨j,(hlv j b).1 hj⟩
 have hok:=h.bo k _ hk (by simp);obtain⟨ho1,ho2⟩:=hok;rw[PV.OkL_iff]at ho1;exact { h with
  el:=by simp;exact h.el
  br := fun j B hj hn=>by
   rcases hget j B hj with⟨rfl,rfl⟩ | ⟨_,h6⟩
   ·obtain⟨b,c,t,g1,g2,g3,g4⟩:=h.br _ _ hk (by simp);refine⟨b,c,t,g1,g2,by rw[g3,hl],fun i p hp=>?_⟩;rcases hc i p hp with h7 | ⟨q,h7,h8,h9,_⟩
    ·exact g4 i p h7
    ·rcases g4 i q h7 with h10 | h10
     ·exact absurd h10 h8
     ·exact .inr (by rw[h9];exact h10)
   ·exact h.br j B h6 hn
  bo := fun j B hj hn=>by
   rcases hget j B hj with⟨rfl,rfl⟩ | ⟨_,h6⟩
   ·refine⟨PV.OkL_iff.2 fun p hp=>?_,fun p hp=>?_⟩
    ·obtain⟨i,hi⟩:=oS.1 hp;rcases hc i p hi with h7 | ⟨q,_,_,_,h9,_⟩
     ·exact PV.Ok.mono (fun _ _ _=>rfl) (oG _) (fun b _=>hlive b) p (ho1 p (oB h7))
     ·exact h9 _
    ·obtain⟨i,hi⟩:=oS.1 hp;rcases hc i p hi with h7 | ⟨q,_,_,_,_,h9,_⟩
     ·exact ho2 p (oB h7)
     ·exact .inr h9
   ·exact(h.bo j B h6 hn).mono (fun _ _ _=>rfl) (oG _) fun b _=>hlive b
  bf:=fun j B hj hn i hi=>by
   refine⟨by simp,?_⟩;rw[mj];rcases hget j B hj with⟨rfl,rfl⟩ | ⟨_,h6⟩
   ·simp only[Bx.refs]at hi;obtain⟨p,hp,hip⟩:=PV.refsL_mem.1 hi;obtain⟨n,hn⟩:=oS.1 hp;rcases hc n p hn with h7 | ⟨q,_,_,_,_,_,h9⟩
    ·exact(h.bf _ _ hk (by simp) i (by simp only[Bx.refs];exact PV.refsL_mem.2 ⟨p,oB h7,hip⟩)).2
    ·exact h9 i hip
   ·exact(h.bf j B h6 hn i hi).2
  inj:=fun i j b hi hj=>h.inj i j b ((hlv i b).1 hi) ((hlv j b).1 hj)
  so:=fun i p hp hn=>PV.Ok.mono (fun _ _ _=>rfl) (oG _) (fun b _=>hlive b) p (h.so i p hp hn)
  sr:=fun i p hp hn r hr=>by rw[mj];exact h.sr i p hp hn r hr
  own:=fun j b hj=>h.own j b ((hlv j b).1 hj)
  avn:=fun j b hj=>h.avn j b ((hlv j b).1 hj) }
def St.bnils (st:St):List (Nat × Nat × TypeId × Nat)->St
 | []=>st
 | (t, j,ty,z)::l=>match st.sl[t]? with
   | some (.pb k _ _ _)=>match st.bx[k]? with
     | some (.var cs)=>match cs[j]? with
       | some (.sv none _ [] 0)=>St.bnils { st with bx:=List.set (st.bx++[Bx.arr ty z [] 0]) k (Bx.var (cs.set j (PV.sb st.bx.length z 0 0 0))) } l
       | _=>St.bnils st l
     | _=>St.bnils st l
   | _=>St.bnils st l
theorem uc:∀(l:List (Nat × Nat × TypeId × Nat)) (e:Env) (st:St),Rel av w0 e0 [] [] a w e st->∃ e',Rel av w0 e0 [] [] a w e' (st.bnils l)
 | [],e,st,h=>⟨e,h⟩
 | (t, j,ty,z)::l,e,st,h=>by
   simp only[St.bnils];split
   ·split
    ·split
     ·rename_i k _ _ _ _ _ cs Y _ zz hj;have h1:=u6 h (el:=ty) (z:=z) (by simp);have J:Env.at (e++[none]) st.bx.length=none:=by rw[<-h.el];exact Env.at_append_eq
      have O:=(oC.1 Y).1;have U:(st.bx++[Bx.arr ty z [] 0])[k]?=some (.var cs):=by rw[oJ O];exact Y
      exact uc l _ _ (H5 h1 U (cs':=cs.set j (.sb st.bx.length z 0 0 0)) (by simp) λi p I=>by
       rw[nS]at I;split at I
       ·rename_i V;subst V;split at I
        ·cases I;exact .inr ⟨_,hj,by simp,by simp[PV.cv,J],λ_=>trivial,trivial,λr Z=>by simp[PV.refs]at Z;subst Z;simp⟩
        ·cases I
       ·exact .inl I)
     ·exact uc l e st h
    ·exact uc l e st h
   ·exact uc l e st h
def St.sel (st:St)(ks:List Nat):St:={ st with sl:=st.sl.map (IZ ks),bx:=ks.map λk=>(st.bx.getD k .gone).ren ks }
theorem H9 (h:Rel av w0 e0 [] [] a w e st) {ks:List Nat} (hn:ks.Nodup) (aq:∃ l,ks=List.range st.pins.length++l):Rel av w0 e0 [] [] a w (tF e ks) (st.sel ks):=by
 have ai:∀ j,j<st.pins.length->ks[j]?=some j:=λj J=>by obtain⟨l,rfl⟩:=aq;rw[oJ (by simpa using J)];simp[J]
 have al:∀ j k,ks[j]?=some k->k<st.pins.length->j=k:=λj k J V=>by have U:=ai k V;obtain⟨a1,a2⟩:=oC.1 U;obtain⟨b1,b2⟩:=oC.1 J;exact(List.getElem_inj hn).1 (b2.trans a2.symm)
 have aa:∀(j:Nat) (B':Bx),(ks.map λk=>(st.bx.getD k .gone).ren ks)[j]?=some B'->∃ k,ks[j]?=some k/\B'=(st.bx.getD k .gone).ren ks/\(tF e ks).at j=e.at k:=λj B' J=>by
  rw[oE]at J;cases V:ks[j]? with
  | none=>simp[V]at J
  | some k=>simp[V]at J;exact⟨k,rfl,by simp[J],by simp[tF,Env.at,oA,V]⟩
 have au:∀ k,(st.bx.getD k .gone).ren ks≠.gone->∃ B,st.bx[k]?=some B/\B≠.gone/\(st.bx.getD k .gone)=B:=λk V=>by
  rw[oA]at V ⊢;cases hB:st.bx[k]? with
  | none=>rw[hB]at V;exact absurd rfl V
  | some B=>rw[hB]at V;refine⟨B,rfl,λhc=>V ?_,rfl⟩;simp only[nA];rw[hc];rfl
 have I:∀ j b,Lives [] (tF e ks) (ks.map λk=>(st.bx.getD k .gone).ren ks) j b->∃ k,ks[j]?=some k/\Lives [] e st.bx k b:=λj b ⟨_,O,B',h3,h4⟩=>by obtain⟨k,h5,rfl,h6⟩:=aa j B' h3;obtain⟨B,h7,h8,_⟩:=au k h4;exact⟨k,h5,by simp,by rw[<-h6];exact O,B,h7,h8⟩
 have ab:∀ b,zF av [] (tF e ks) (ks.map λk=>(st.bx.getD k .gone).ren ks) b->zF av [] e st.bx b:=λb hb=>hb.imp id λ⟨j,J⟩=>by obtain⟨k,_,O⟩:=I j b J;exact⟨k,O⟩
 have aj:∀ p:PV,p.Ok w (zF av [] e st.bx)->p.Ok w (zF av [] (tF e ks) (ks.map λk=>(st.bx.getD k .gone).ren ks)):=λp=>PV.Ok.mono (λ_ _ _=>rfl) (oG _) (λb _=>ab b) p;have Y:∀(i:Nat) (q:PV),(st.sl.map (IZ ks))[i]?=some q->q=.any\/∃ p,st.sl[i]?=some p/\PV.ren ks p=some q:=λi q hi=>by
  rw[oE]at hi;cases Z:st.sl[i]? with
  | none=>simp[Z]at hi
  | some p=>
    simp[Z,IZ]at hi;split at hi
    ·rename_i q' hq;subst hi;exact .inr ⟨p,rfl,hq⟩
    ·exact .inl hi.symm
 exact {
  el:=by simp[tF,St.sel]
  br := λj B' J _=>by
   obtain⟨k,U,rfl,O⟩:=aa j B' J;rw[O];rw[oA];cases hB:st.bx[k]? with
   | none=>exact True.intro
   | some B=>
     have h3:=h.br k B hB (by simp);simp only[nA];cases B with
     | var cs=>
       obtain⟨b,c,t,g1,g2,g3,g4⟩:=h3;refine⟨b,c,t,g1,g2,by simpa using g3,λi p Z=>?_⟩;rw[oE]at Z;cases ak:cs[i]? with
       | none=>simp[ak]at Z
       | some q=>
         simp[ak,IZ]at Z;split at Z
         ·rename_i q' hq;subst Z;have h5:=yr (e:=e) hq;rcases g4 i q ak with g5 | g5
          ·exact .inl (h5.an.1 g5)
          ·exact .inr (by rw[<-h5.cv];exact g5)
         ·exact .inl Z.symm
     | _=>exact h3
  bo := λj B' J _=>by
   obtain⟨k,U,rfl,O⟩:=aa j B' J;rw[oA];cases hB:st.bx[k]? with
   | none=>exact True.intro
   | some B=>
     have h3:=(h.bo k B hB (by simp)).mono (w':=w) (live':=zF av [] (tF e ks) (ks.map λk=>(st.bx.getD k .gone).ren ks)) (λ_ _ _=>rfl) (oG _) λb _=>ab b;simp only[nA];cases B with
     | var cs=>
       obtain⟨g1,g2⟩:=h3;rw[PV.OkL_iff]at g1;refine⟨PV.OkL_iff.2 λp Z=>?_,λp Z=>?_⟩
       ·obtain⟨q,hq,rfl⟩:=oP.1 Z;unfold IZ;split
        ·rename_i q' ac;exact(yr (e:=e) ac).ok _ _ (g1 q hq)
        ·trivial
       ·obtain⟨q,hq,rfl⟩:=oP.1 Z;unfold IZ;split
        ·rename_i q' ac;have h5:=yr (e:=e) ac;rcases g2 q hq with g3 | g3
         ·exact .inl (h5.an.1 g3)
         ·exact .inr (h5.ic g3)
        ·exact .inl rfl
     | _=>exact h3
  bf := λj B' J _ i hi=>by
   refine⟨by simp,?_⟩;obtain⟨k,U,rfl,O⟩:=aa j B' J;simp only[St.sel,nZ];rw[oA]at hi;cases hB:st.bx[k]? with
   | none=>rw[hB]at hi;simp[Bx.ren,Bx.refs]at hi
   | some B=>
     rw[hB]at hi;simp only[nA]at hi;cases B with
     | var cs=>
       simp only[Bx.ren,Bx.refs]at hi;obtain⟨p,Z,ae⟩:=PV.refsL_mem.1 hi;obtain⟨q,hq,rfl⟩:=oP.1 Z;unfold IZ at ae;split at ae
       ·rename_i q' ac;exact(yr (e:=e) ac).rf i ae
       ·simp[PV.refs]at ae
     | _=>simp[Bx.ren,Bx.refs]at hi
  inj:=λi j b hi J=>by
   obtain⟨k,U,O⟩:=I i b hi;obtain⟨l,h3,h4⟩:=I j b J;have aw:=h.inj k l b O h4;subst aw;have ax:=(oC.1 U)
   have ay:=(oC.1 h3)
   obtain⟨a7,az⟩:=ax;obtain⟨a8,a6⟩:=ay;exact(List.getElem_inj hn).1 (az.trans a6.symm)
  ku:=h.ku
  size:=h.size
  old:=h.old
  fz:=h.fz
  nd:=h.nd
  sz:=by simp[St.sel];exact h.sz
  hN:=h.hN
  hs:=λi q hi ah=>by
   rcases Y i q hi with U | ⟨p,U,O⟩
   ·exact .inl U
   ·rcases h.hs i p U ah with h3 | h3
    ·exact .inl ((yr (e:=e) O).an.1 h3)
    ·exact .inr (h3.trans (IB O))
  so:=λi q hi ah=>by
   rcases Y i q hi with U | ⟨p,U,O⟩
   ·subst U;trivial
   ·exact(yr (e:=e) O).ok _ _ (aj p (h.so i p U ah))
  sr:=λi q hi ah k V=>by
   rcases Y i q hi with U | ⟨p,U,O⟩
   ·subst U;simp[PV.refs]at V
   ·exact⟨by simp,by simp only[St.sel,nZ];exact(yr (e:=e) O).rf k V⟩
  own:=λj b J=>by
   obtain⟨k,U,O⟩:=I j b J;rcases h.own k b O with h3 | ⟨h3,h4⟩
   ·exact .inl h3
   ·exact .inr ⟨h3,by rw[al j k U h4];exact h4⟩
  avl:=h.avl
  avn:=λj b J=>by obtain⟨k,_,O⟩:=I j b J;exact h.avn k b O
  pin:=λk b hb=>by have ao:st.pins[k]?=some (some b):=hb;have V:=ai k (oC.1 ao).1;exact⟨by have:=(h.pin k b ao).1;simpa [tF,Env.at,oA,V]using this,by simp⟩
  pit:=h.pit }
def St.canon (st:St)(K:St->Prop):Prop:=match st.pins with
 | []=>K (st.sel (sg st.bx 200 (PV.refsL st.sl) []))
 | L=>K (st.sel (List.range L.length++(sg st.bx 200 (List.range L.length++PV.refsL st.sl) []).filter (Nat.ble L.length)))
theorem H6 (h:Rel av w0 e0 [] [] a w e st){K:St->Prop}(hs:st.canon K):∃ e' st',K st'/\Rel av w0 e0 [] [] a w e' st':=by
 have J:=wO (bx:=st.bx) 200 (PV.refsL st.sl) [] mZ;unfold St.canon at hs;split at hs
 ·rename_i I;exact⟨_,_,hs,H9 h J ⟨_,by rw[I];rfl⟩⟩
 ·rename_i I;refine⟨_,_,hs,H9 h ?_ ⟨_,rfl⟩⟩;refine o9.2 ⟨List.nodup_range,(wO 200 _ [] mZ).filter _,λx O y U V=>?_⟩;have Y:=List.mem_range.1 O;have Z:=mN (mJ.1 U).2;omega
structure Cut where
 id:Nat
 keep:List Nat
 nils:List (Nat × TypeId × Nat):=[]
 cl:List Nat:=[]
 bnils:List (Nat × Nat × TypeId × Nat):=[]
def NB (N0:Option Nat)(c:Cut)(st:St)(K:St->Prop):Prop:=um N0 #[] [] c.cl c.keep st λst=>St.canon (St.bnils (St.nils (St.keep st c.keep) c.nils) c.bnils) K
theorem BV (h:Rel av w0 e0 [] [] a w e st){N0:Option Nat}(I:NOk N0 w0){c:Cut}{K:St->Prop}(hs:NB N0 c st K):∃ e' st',K st'/\Rel av w0 e0 [] [] a w e' st':=by obtain⟨J,T,O,_,_,U⟩:=xi h I (by simp) hs;obtain⟨e1,V⟩:=Cg c.nils _ _ (H8 U c.keep);obtain⟨Z,Y⟩:=uc c.bnils _ _ V;exact H6 Y O
mutual
def DY (p:PV) (K:PV->Prop):Prop:=match p with
 | .any=>K .any
 | .int k n=>K (.int k n)
 | .bool v=>K (.bool v)
 | .str v=>K (.str v)
 | .lit x=>K (.lit x)
 | .sv a z es c=>K (.sv a z es c)
 | .d x=>K (.d x)
 | .dc x=>K (.dc x)
 | .dg n x=>K (.dg n x)
 | .pb k z i o=>K (.pb k z i o)
 | .pd ad z x=>K (.pd ad z x)
 | .sb k z lo n c=>K (.sb k z lo n c)
 | .fn f caps=>qN caps λl=>K (.fn f l)
 | .pg cs=>qN cs λl=>K (.pg l)
 | .tp cs=>qN cs λl=>K (.tp l)
def qN (l:List PV) (K:List PV->Prop):Prop:=match l with
 | []=>K []
 | p::ps=>DY p λp=>qN ps λps=>K (p::ps)
end
mutual
theorem HT:∀(p:PV) (K:PV->Prop),DY p K=K p
 | .fn f caps,K=>by simp only[DY];exact w8 caps _
 | .pg cs,K=>by simp only[DY];exact w8 cs _
 | .tp cs,K=>by simp only[DY];exact w8 cs _
 | .any,K=>rfl
 | .int ..,K=>rfl
 | .bool ..,K=>rfl
 | .str ..,K=>rfl
 | .lit ..,K=>rfl
 | .sv ..,K=>rfl
 | .d ..,K=>rfl
 | .dc ..,K=>rfl
 | .dg ..,K=>rfl
 | .pd ..,K=>rfl
 | .pb ..,K=>rfl
 | .sb ..,K=>rfl
theorem w8:∀(l:List PV) (K:List PV->Prop),qN l K=K l
 | [],K=>rfl
 | p::ps,K=>by simp only[qN];rw[HT,w8]
end
def HR (B:Bx)(K:Bx->Prop):Prop:=match B with
 | .var cs=>qN cs λcs=>K (.var cs)
 | .vd x n=>K (.vd x n)
 | .arr t z es c=>K (.arr t z es c)
 | .gone=>K .gone
theorem HS (B:Bx)(K:Bx->Prop):HR B K=K B:=by
 cases B<;>simp only[HR]
 exact w8 _ _
def CR (l:List Bx)(K:List Bx->Prop):Prop:=match l with
 | []=>K []
 | B::bs=>HR B λB=>CR bs λbs=>K (B::bs)
theorem Ba:∀(l:List Bx)(K:List Bx->Prop),CR l K=K l
 | [],K=>rfl
 | B::bs,K=>by simp only[CR];rw[HS,Ba]
def qc (st:St)(K:St->Prop):Prop:=qN st.sl λsl=>CR st.bx λbx=>K { st with sl:=sl,bx:=bx }
theorem wf (st:St)(K:St->Prop):qc st K=K st:=by simp only[qc];rw[w8,Ba]
end Go.Proofs.YtldbmnklnpfpfaaGreatDoor
