/- A row is closed: it becomes a snapshot. -/
import Derived.Test.YtlaniepnglheoaaGreatDoorJe
set_option linter.unusedVariables false
set_option linter.unusedSimpArgs false
set_option linter.unusedSectionVars false
namespace Go.Proofs.YtlaniepnglheoaaGreatDoor
open Go
variable [Dfs] {av:Nat->Prop} {P:Program} {w0 w w':World} {e0 e:Env} {pS pS' pB:List Nat} {a:Act} {st st':St}
def OZ (k:Nat)(s:PV)(z:Nat)(p:PV):PV:=
 match p with
 | .sb I z' lo n c=>if I=k then(if z'=z/\lo=0 then s else .any)else p
 | _=>p.kill k
def P4 (k z len c:Nat)(p:PV)(K:Prop):Prop:=
 match p with
 | .sb I z' lo n J=>if I=k/\z'=z/\lo=0 then(n=len/\J=c)/\K else K
 | _=>K
def P5 (k z len c:Nat):List PV->Prop->Prop
 | [],K=>K
 | p::ps,K=>P4 k z len c p (P5 k z len c ps K)
def clo (k:Nat)(s:PV)(z:Nat)(p:PV):PV:=
 match p with
 | .pg cs=>if(PV.refsL cs).contains k then(if(cs.map (OZ k s z)).all PV.notAny=true then .pg (cs.map (OZ k s z))else .any)else .pg cs
 | p=>OZ k s z p
def Ob (k z len c:Nat):List PV->Prop->Prop
 | [],K=>K
 | p::ps,K=>match p with
   | .pg cs=>P5 k z len c cs (Ob k z len c ps K)
   | p=>P4 k z len c p (Ob k z len c ps K)
def Bx.clo (k:Nat)(s:PV)(z:Nat):Bx->Bx
 | .var cs=>.var (cs.map (OZ k s z))
 | B=>B
def Oa (k z len c:Nat):List Bx->Prop->Prop
 | [],K=>K
 | B::bs,K=>match B with
   | .var cs=>P5 k z len c cs (Oa k z len c bs K)
   | _=>Oa k z len c bs K
def PV.ds1:PV->List D
 | .sv a z es c=>[.sl a z es c]
 | .d x=>[x]
 | .dc x=>[x]
 | .dg _ x=>[x]
 | _=>[]
def PV.ds:PV->List D
 | .pg cs=>cs.flatMap PV.ds1
 | p=>p.ds1
def Bx.ds:Bx->List D
 | .var cs=>cs.flatMap PV.ds1
 | .vd x _=>[x]
 | .arr _ _ es _=>[.ag es]
 | .gone=>[]
structure Fresh (N0 N:Nat) (a:Option Addr) (ds:List D):Prop where
 lo:∀ ad,a=some ad->N0<=ad.block
 hi:∀ ad,a=some ad->ad.block<N
 off:∀ ad,a=some ad->ad.off=0
 ap:∀ ad,a=some ad->∀ d∈ds,ad.block∉d.foot
def St.clo (st:St)(k:Nat)(s:PV)(z:Nat)(N:Nat):St:={ st with sl:=st.sl.map (Proofs.YtlaniepnglheoaaGreatDoor.clo k s z),bx:=(st.bx.map (Bx.clo k s z)).set k .gone,N:=N }
def P2 (N0:Option Nat)(st:St)(k:Nat)(fs fb:List Nat)(K:St->Prop):Prop:=
 match N0,st.bx[k]?,Nat.ble st.pins.length k with
 | some N0,some (.arr _ z es c),true=>Ob k z es.length c st.sl (Oa k z es.length c st.bx (∀ a N,st.N<=N ->
  Fresh N0 N a (.ag es::(fs.flatMap λi=>(st.sl.getD i .any).ds)++fb.flatMap λj=>if j=k then []else(st.bx.getD j .gone).ds)->K (st.clo k (.sv a z es c) z N)))
 | _,_,_=>False
def NOk (N0:Option Nat)(w0:World):Prop:=∀ n,N0=some n->n=w0.heap.size
def Lm (k z len c:Nat)(p:PV):Prop:=∀ n I,p=.sb k z 0 n I->n=len/\I=c
theorem Hh {k z len c:Nat}{p:PV}{K:Prop}(h:P4 k z len c p K):Lm k z len c p/\K:=by
 cases p<;>simp only[P4]at h<;>try exact⟨λ_ _ h=>(by cases h),h⟩
 split at h
 ·rename_i hc;exact⟨λn J I=>by cases I;exact h.1,h.2⟩
 ·rename_i hc;exact⟨λn J I=>by cases I;exact absurd ⟨rfl,rfl,rfl⟩ hc,h⟩
theorem Ck {k z len c:Nat}:∀ {ps:List PV}{K:Prop},P5 k z len c ps K->(∀ p∈ps,Lm k z len c p)/\K
 | [],K,h=>⟨by simp,h⟩
 | p::ps,K,h=>by simp only[P5]at h;obtain⟨I,J⟩:=Hh h;obtain⟨O,U⟩:=Ck J;exact⟨λq hq=>by rcases oL.1 hq with rfl | hq;exact I;exact O q hq,U⟩
def V0 (k z len c:Nat)(p:PV):Prop:=Lm k z len c p/\∀ cs,p=.pg cs->∀ q∈cs,Lm k z len c q
theorem Cl {k z len c:Nat}:∀ {ps:List PV}{K:Prop},Ob k z len c ps K->(∀ p∈ps,V0 k z len c p)/\K
 | [],K,h=>⟨by simp,h⟩
 | p :: ps,K,h=>by
   have go:P4 k z len c p (Ob k z len c ps K)->(∀ cs,p≠.pg cs)->(∀ q∈p::ps,V0 k z len c q)/\K:=λh Y=>by
    obtain⟨I,J⟩:=Hh h;obtain⟨O,U⟩:=Cl J;exact⟨λq hq=>by
     rcases oL.1 hq with rfl | hq
     ·exact⟨I,λcs hc=>absurd hc (Y cs)⟩
     ·exact O q hq,U⟩
   cases p
   case pg cs=>
    simp only[Ob]at h;obtain⟨I,J⟩:=Ck h;obtain⟨O,U⟩:=Cl J;exact⟨λq hq=>by
     rcases oL.1 hq with rfl | hq
     ·exact⟨λ_ _ h=>(by cases h),λcs' hc=>by cases hc;exact I⟩
     ·exact O q hq,U⟩
   all_goals exact go h (λ_ h=>by cases h)
theorem Cj {k z len c:Nat}:∀ {bs:List Bx}{K:Prop},Oa k z len c bs K->(∀ cs,Bx.var cs∈bs->∀ q∈cs,Lm k z len c q)/\K
 | [],K,h=>⟨by simp,h⟩
 | B :: bs,K,h=>by
   cases B
   case var cs=>
    simp only[Oa]at h;obtain⟨O,U⟩:=Ck h;obtain⟨I,J⟩:=Cj U;exact⟨λcs' hq=>by
     rcases oL.1 hq with hq | hq
     ·cases hq;exact O
     ·exact I cs' hq,J⟩
   all_goals
    simp only[Oa]at h;obtain⟨I,J⟩:=Cj h;exact⟨λcs' hq=>by
     rcases oL.1 hq with hq | hq
     ·cases hq
     ·exact I cs' hq,J⟩
structure Clo (k:Nat) (w:World) (e:Env) (live:Nat->Prop) (p q:PV):Prop where
 v:q=.any\/p.val e=q.val e
 v1:q=.any\/p.cv e=q.cv e
 ok:p.Ok w live->q.Ok w live
 rf:∀ j∈q.refs,j∈p.refs/\j≠k
 c:p.isC->q=.any\/q.isC
theorem SM {k:Nat}{live:Nat->Prop}{p:PV}:Clo k w e live p (p.kill k):=by
 rcases PV.kill_cases k p with h | ⟨h,J⟩
 ·rw[h];exact⟨.inl rfl,.inl rfl,λ_=>trivial,by simp[PV.refs],λ_=>.inl rfl⟩
 ·rw[h];exact⟨.inr rfl,.inr rfl,id,λj I=>⟨I,λhc=>J (hc ▸ I)⟩,λh=>.inr h⟩
theorem FG {k z c:Nat} {es:List D} {live:Nat->Prop} (hg:Good w live (.sl ((e.at k).map λb=>⟨b,0,none⟩) z es c)) {p:PV} (hc:Lm k z es.length c p) :
  Clo k w e live p (OZ k (.sv ((e.at k).map λb=>⟨b,0,none⟩) z es c) z p):=by
 cases p
 case sb I z' lo n J=>
  simp only[OZ];split
  ·rename_i O;subst O;split
   ·rename_i hz;obtain⟨rfl,rfl⟩:=hz;obtain⟨rfl,rfl⟩:=hc n J rfl;have hv:(PV.sb I z' 0 es.length J).cv e=(PV.sv ((e.at I).map λb=>⟨b,0,none⟩) z' es J).cv e:=by cases U:e.at I<;>simp[PV.cv,U]
    exact⟨.inr hv,.inr hv,λ_=>hg,by simp[PV.refs],λ_=>.inr trivial⟩
   ·exact⟨.inl rfl,.inl rfl,λ_=>trivial,by simp[PV.refs],λ_=>.inl rfl⟩
  ·rename_i O;exact⟨.inr rfl,.inr rfl,id,λj Y=>⟨Y,λhc=>by simp[PV.refs]at Y;exact O (Y ▸ hc)⟩,λh=>.inr h⟩
 all_goals exact SM
theorem Iv {k z c:Nat} {es:List D} {live:Nat->Prop} (hg:Good w live (.sl ((e.at k).map λb=>⟨b,0,none⟩) z es c)) {p:PV} (hc:V0 k z es.length c p) (J:p.Ok w live) :
  (clo k (.sv ((e.at k).map λb=>⟨b,0,none⟩) z es c) z p=.any\/p.val e=(clo k (.sv ((e.at k).map λb=>⟨b,0,none⟩) z es c) z p).val e) /\
  (clo k (.sv ((e.at k).map λb=>⟨b,0,none⟩) z es c) z p).Ok w live/\∀ j∈(clo k (.sv ((e.at k).map λb=>⟨b,0,none⟩) z es c) z p).refs,j∈p.refs/\j≠k:=by
 generalize hs:PV.sv ((e.at k).map λb=>⟨b,0,none⟩) z es c=s;cases p
 case pg cs=>
  simp only[clo];split
  ·split
   ·rename_i aa;have O:∀ q∈cs,Clo k w e live q (OZ k s z q):=λq I=>by rw[<-hs];exact FG hg (hc.2 cs rfl q I)
    have ab:∀ q∈cs,OZ k s z q≠.any:=λq I he=>by
     have:=oc.1 aa (OZ k s z q) (oU.2 ⟨q,I,rfl⟩)
     rw[he]at this;simp[PV.notAny]at this
    simp only[PV.Ok,PV.OkL_iff]at J;refine⟨.inr ?_,?_,?_⟩
    ·simp only[PV.val,PV.val1,PV.cvs_eq,mL];congr 2;exact nC λq I=>(O q I).v1.resolve_left (ab q I)
    ·simp only[PV.Ok,PV.OkL_iff];refine⟨λq I=>?_,λq I=>?_⟩
     ·obtain⟨r,U,rfl⟩:=oU.1 I;exact(O r U).ok (J.1 r U)
     ·obtain⟨r,U,rfl⟩:=oU.1 I;exact((O r U).c (J.2 r U)).resolve_left (ab r U)
    ·intro j Y;simp only[PV.refs]at Y ⊢;obtain⟨q,I,ac⟩:=PV.refsL_mem.1 Y;obtain⟨r,U,rfl⟩:=oU.1 I
     have:=(O r U).rf j ac
     exact⟨PV.refsL_mem.2 ⟨r,U,this.1⟩,this.2⟩
   ·exact⟨.inl rfl,trivial,by simp[PV.refs]⟩
  ·rename_i hk;refine⟨.inr rfl,J,λj Y=>⟨Y,λae=>hk ?_⟩⟩;simp only[PV.refs]at Y;simpa using ae ▸ Y
 all_goals
  have:=FG hg hc.1
  rw[hs]at this;exact⟨this.v,this.ok J,this.rf⟩
theorem RE (h:Rel av w0 e0 pS pB a w e st) {k z c:Nat} {t:TypeId} {es:List D} (hk:st.bx[k]?=some (.arr t z es c)) (ah:k∉pB)
  (hS:∀ p∈st.sl,V0 k z es.length c p) (hB:∀ cs,Bx.var cs∈st.bx->∀ q∈cs,Lm k z es.length c q) :
  Rel av w0 e0 pS pB a w e (st.clo k (.sv ((e.at k).map λb=>⟨b,0,none⟩) z es c) z w.heap.size):=by
 have aq:k<st.bx.length:=(oD.1 hk).1;generalize hs:PV.sv ((e.at k).map λb=>(⟨b,0,none⟩:Addr)) z es c=s;have ab:∀(j:Nat) (B':Bx),((st.bx.map (Bx.clo k s z)).set k .gone)[j]?=some B'->(j=k/\B'=.gone)\/(j≠k/\∃ B,st.bx[j]?=some B/\B'=B.clo k s z):=λj B' hj=>by
  rw[nR]at hj;split at hj
  ·rename_i hh;subst hh;split at hj
   ·simp at hj;exact .inl ⟨rfl,hj.symm⟩
   ·cases hj
  ·rename_i hh;rw[oF]at hj;cases hB:st.bx[j]? with
   | none=>simp[hB]at hj
   | some B=>simp[hB]at hj;exact .inr ⟨λhc=>hh hc.symm,B,rfl,hj.symm⟩
 have I:∀ j b,Lives pB e ((st.bx.map (Bx.clo k s z)).set k .gone) j b->j≠k/\Lives pB e st.bx j b:=λj b ⟨h1,h2,B',h3,h4⟩=>by
  rcases ab j B' h3 with⟨_,rfl⟩ | ⟨hj,B,J,rfl⟩
  ·exact absurd rfl h4
  ·refine⟨hj,h1,h2,B,J,λhg=>h4 ?_⟩;subst hg;rfl
 have U:∀ b,zY av pB e ((st.bx.map (Bx.clo k s z)).set k .gone) b->zY av pB e st.bx b:=λb hb=>hb.imp id λ⟨j,hj⟩=>⟨j,(I j b hj).2⟩
 have Y:∀ p:PV,p.Ok w (zY av pB e st.bx)->p.Ok w (zY av pB e ((st.bx.map (Bx.clo k s z)).set k .gone)):=λp=>PV.Ok.mono (λ_ _ _=>rfl) (oC _) (λb _=>U b) p;have hg:Good w (zY av pB e ((st.bx.map (Bx.clo k s z)).set k .gone)) (.sl ((e.at k).map λb=>⟨b,0,none⟩) z es c):=by
  have hr:=h.br k _ hk ah;have ho:=h.bo k _ hk ah;have ai:∀ x∈es,Good w (zY av pB e ((st.bx.map (Bx.clo k s z)).set k .gone)) x:=λx hx=>(ho x hx).mono (λ_ _ _=>rfl) λb _=>U b;rcases hr with⟨g1,g2,g3⟩ | ⟨b,cc,g1,g2,g3,g4,g5,g6,g7⟩
  ·subst g2;subst g3;rw[g1];exact⟨.nil,by simp[D.foot,zC]⟩
  ·rw[g1];refine⟨.sl (λ_=>rfl) g4 g6 (λx hx=>(ai x hx).1) (.inr ⟨cc,t,z00,g2,λi u hu=>by simpa using g7 i u hu⟩),λj hj ac=>?_⟩;simp only[oZ,D.foot]at hj;split at hj
   ·simp at hj
   ·rcases oL.1 hj with rfl | hj
    ·have aj:Lives pB e st.bx k j:=⟨ah,g1,_,hk,by simp⟩
     rcases ac with ac | ⟨i,hi⟩
     ·exact h.avn k j aj ac
     ·obtain⟨h1,h2⟩:=I i _ hi;exact h1 (h.inj i k _ h2 aj)
    ·obtain⟨x,hx,al⟩:=zJ.1 hj;exact(ai x hx).2 j al ac
 have aa:∀(i:Nat) (q:PV),(st.sl.map (clo k s z))[i]?=some q->∃ p,st.sl[i]?=some p/\q=clo k s z p/\V0 k z es.length c p:=λi q hi=>by
  rw[oF]at hi;cases hp:st.sl[i]? with
  | none=>simp[hp]at hi
  | some p=>simp[hp]at hi;exact⟨p,rfl,hi.symm,hS p (oB hp)⟩
 have O:∀(j:Nat) (cs:List PV),st.bx[j]?=some (.var cs)->∀ q∈cs,Clo k w e (zY av pB e ((st.bx.map (Bx.clo k s z)).set k .gone)) q (OZ k s z q):=λj cs hj q hq=>by rw[<-hs];rw[<-hs]at hg;exact FG hg (hB cs (oB hj) q hq)
 exact {
  el:=by simp[St.clo,h.el]
  br := λj B' hj hn=>by
   rcases ab j B' hj with⟨_,rfl⟩ | ⟨ak,B,J,rfl⟩
   ·exact True.intro
   ·have h6:=h.br j B J hn;cases B with
    | var cs=>
      obtain⟨b,cc,tt,h1,h2,h3,h4⟩:=h6;refine⟨b,cc,tt,h1,h2,by simpa using h3,λi p hp=>?_⟩;rw[oF]at hp;cases ae:cs[i]? with
      | none=>simp[ae]at hp
      | some q=>
        simp[ae]at hp;subst hp;rcases h4 i q ae with h7 | h7
        ·subst h7;exact .inl rfl
        ·rcases(O j cs J q (oB ae)).v1 with h8 | h8
         ·exact .inl h8
         ·exact .inr (by rw[<-h8];exact h7)
    | _=>exact h6
  bo:=λj B' hj hn=>by
   rcases ab j B' hj with⟨_,rfl⟩ | ⟨ak,B,J,rfl⟩
   ·exact True.intro
   ·have h6:=(h.bo j B J hn).mono (w':=w) (live':=zY av pB e ((st.bx.map (Bx.clo k s z)).set k .gone)) (λ_ _ _=>rfl) (oC _) (λb _=>U b);cases B with
    | var cs=>
      obtain⟨h7,h8⟩:=h6;rw[PV.OkL_iff]at h7;refine⟨PV.OkL_iff.2 λp hp=>?_,λp hp=>?_⟩
      ·obtain⟨q,hq,rfl⟩:=oU.1 hp;exact(O j cs J q hq).ok (h7 q hq)
      ·obtain⟨q,hq,rfl⟩:=oU.1 hp;rcases h8 q hq with h9 | h9
       ·subst h9;exact .inl rfl
       ·exact(O j cs J q hq).c h9
    | _=>exact h6
  bf:=λj B' hj hn i hi=>by
   simp only[St.clo,nX,nF];rcases ab j B' hj with⟨_,rfl⟩ | ⟨ak,B,J,rfl⟩
   ·simp[Bx.refs]at hi
   ·cases B with
    | var cs=>simp only[Bx.clo,Bx.refs]at hi;obtain⟨p,hp,ao⟩:=PV.refsL_mem.1 hi;obtain⟨q,hq,rfl⟩:=oU.1 hp;exact h.bf j _ J hn i (by simp only[Bx.refs];exact PV.refsL_mem.2 ⟨q,hq,((O j cs J q hq).rf i ao).1⟩)
    | _=>exact h.bf j _ J hn i hi
  inj:=λi j b hi hj=>h.inj i j b (I i b hi).2 (I j b hj).2
  ku:=h.ku
  size:=h.size
  old:=h.old
  fz:=h.fz
  nd:=h.nd
  sz:=by simp[St.clo];exact h.sz
  hN:=oC _
  hs:=λi q hi hn=>by
   obtain⟨p,h1,rfl,h3⟩:=aa i q hi;have h4:=Y p (h.so i p h1 hn);rw[<-hs]at hg h4;have J:=Iv hg h3 h4;rw[hs]at J;rcases J.1 with h6 | h6
   ·exact .inl h6
   ·rcases h.hs i p h1 hn with h7 | h7
    ·subst h7;left;simp[clo,OZ,PV.kill,PV.refs]
    ·exact .inr (h7.trans h6)
  so:=λi q hi hn=>by obtain⟨p,h1,rfl,h3⟩:=aa i q hi;have h4:=Y p (h.so i p h1 hn);rw[<-hs]at hg h4;have J:=Iv hg h3 h4;rw[hs]at J;exact J.2.1
  sr:=λi q hi hn j hj=>by
   obtain⟨p,h1,rfl,h3⟩:=aa i q hi;have h4:=Y p (h.so i p h1 hn);rw[<-hs]at hg h4;have J:=Iv hg h3 h4;rw[hs]at J
   have:=h.sr i p h1 hn j (J.2.2 j hj).1
   exact⟨this.1,by simp[St.clo];exact this.2⟩
  own:=λj b hj=>h.own j b (I j b hj).2
  avl:=h.avl
  avn:=λj b hj=>h.avn j b (I j b hj).2
  pin:=h.pin
  pit:=h.pit }
theorem Iz {live:Nat->Prop}{p:PV}(h:p.Ok w live):∀ d∈p.ds1,Good w live d:=by
 cases p<;>simp[PV.ds1]<;>simp only[PV.Ok]at h
 ·exact h
 ·exact h
 ·exact h.1
 ·exact h.1
theorem Uo {live:Nat->Prop}{p:PV}(h:p.Ok w live):∀ d∈p.ds,Good w live d:=by
 cases p
 case pg cs=>simp only[PV.Ok,PV.OkL_iff]at h;intro d hd;simp only[PV.ds]at hd;obtain⟨q,I,hd⟩:=mG.1 hd;exact Iz (h.1 q I) d hd
 all_goals exact Iz h
theorem R8 {live:Nat->Prop}{B:Bx}(h:B.Ok w live):∀ d∈B.ds,Good w live d:=by
 cases B with
 | var cs=>have I:=h.1;rw[PV.OkL_iff]at I;intro d hd;simp only[Bx.ds]at hd;obtain⟨q,J,hd⟩:=mG.1 hd;exact Iz (I q J) d hd
 | vd x n=>simp only[Bx.ds];intro d hd;simp at hd;subst hd;exact h
 | arr t z es c=>simp only[Bx.ds];intro d hd;simp at hd;subst hd;exact Good.ag h
 | gone=>simp[Bx.ds]
theorem KY (h:Rel av w0 e0 pS pB a w e st) {N0:Option Nat} (ab:NOk N0 w0) {k:Nat} (U:k∉pB) {fs fb:List Nat} (ac:∀ i∈fs,i∉pS) (ae:∀ i∈fb,i∉pB) {K:St->Prop} (hs:P2 N0 st k fs fb K) :
  ∃ s z N,K (st.clo k s z N)/\Rel av w0 e0 pS pB a w e (st.clo k s z N)/\s.refs=[]:=by
 unfold P2 at hs;split at hs
 rotate_left
 ·exact hs.elim
 rename_i n0 t z es c hk aa;have aa:=me aa;obtain rfl:=ab _ rfl;obtain⟨h1,hs⟩:=Cl hs;obtain⟨h2,hs⟩:=Cj hs;refine⟨_,_,_,hs ((e.at k).map λb=>⟨b,0,none⟩) w.heap.size h.hN ?_,RE h hk U h1 h2,rfl⟩;have O:∀ ad,((e.at k).map λb=>(⟨b,0,none⟩:Addr))=some ad->ad.off=0/\Lives pB e st.bx k ad.block:=λad I=>by
  cases Y:e.at k with
  | none=>simp[Y]at I
  | some b=>simp[Y]at I;subst I;exact⟨rfl,U,Y,_,hk,by simp⟩
 have J:∀ b,Lives pB e st.bx k b->∀ d,Good w (zY av pB e st.bx) d->b∉d.foot:=λb hl d hd hc=>hd.2 b hc (.inr ⟨k,hl⟩);refine⟨λad I=>?_,λad I=>Lives.lt h.toMem (O ad I).2,λad I=>(O ad I).1,λad I d hd=>?_⟩
 ·rcases h.own k _ (O ad I).2 with h3 | h3
  ·exact h3
  ·omega
 ·have J:=J _ (O ad I).2;simp only[o3]at hd;rcases oL.1 hd with rfl | hd
  ·exact J _ (Good.ag (h.bo k _ hk U))
  ·rcases oM.1 hd with hd | hd
   ·obtain⟨i,hi,hd⟩:=mG.1 hd;cases hp:st.sl[i]? with
    | none=>rw[oA,hp]at hd;simp[PV.ds,PV.ds1]at hd
    | some p=>rw[oA,hp]at hd;exact J d (Uo (h.so i p hp (ac i hi)) d hd)
   ·obtain⟨j,hj,hd⟩:=mG.1 hd;split at hd
    ·simp at hd
    ·cases hB:st.bx[j]? with
     | none=>rw[oA,hB]at hd;simp[Bx.ds]at hd
     | some B=>rw[oA,hB]at hd;exact J d (R8 (h.bo j B hB (ae j hj)) d hd)
variable {av:Nat->Prop} {P:Program} {w0 w w':World} {e0 e:Env} {pS pS' pB:List Nat} {a:Act} {st st':St}
def zx (P:Program):List TypeId->List PV->List PV
 | t::ts,p::ps=>retag P t p::zx P ts ps
 | _,ps=>ps
def Vv (P:Program)(p:PV):List TypeId:=
 match p with
 | .fn f _=>match P.funcs[f]? with
   | some fn=>fn.params.toList
   | none=>[]
 | _=>[]
theorem wD:∀(ts:List TypeId)(ps:List PV),(zx P ts ps).length=ps.length
 | [],ps=>rfl
 | t::ts,[]=>rfl
 | t::ts,p::ps=>by simp[zx,wD ts ps]
theorem rD:∀(ts:List TypeId)(ps:List PV)(i:Nat)(q:PV),(zx P ts ps)[i]?=some q->∃ p,ps[i]?=some p/\(q=p\/∃ t,q=retag P t p)
 | [],ps,i,q,h=>⟨q,h,.inl rfl⟩
 | t::ts,[],i,q,h=>by simp[zx]at h
 | t::ts,p::ps,i,q,h=>by
   cases i with
   | zero=>simp[zx]at h;exact⟨p,rfl,.inr ⟨t,h.symm⟩⟩
   | succ i=>simp[zx]at h;simpa using rD ts ps i q h
def YJ:List Sh->Option (List Sh)
 | .row _ z::l=>match Nat.beq z 1000007 with
   | true=>some l
   | false=>none
 | _=>none
def WO (P:Program)(sh:FuncId->List Sh)(st:St)(dst:Option Nat)(x:Operand)(args:List PV)(K:St->Prop):Prop:=
 match Uu (opd st.sl x)with
 | some (f,_)=>match YJ (sh f)with
   | some rs=>WN P rs st dst x args K
   | none=>Ui P sh st dst x args K
 | none=>False
def Uj (sh:FuncId->List Sh)(st:St)(x:Operand)(args:List PV):List Nat:=
 match Uu (opd st.sl x)with
 | some (f,caps)=>match YJ (sh f)with
   | some _=>Bm st.bx 200 (PV.refsL (args++caps)) []
   | none=>[]
 | none=>[]
def Xh (P:Program) (sh:FuncId->List Sh) (o:Oper) (st:St) (K:St->Prop):Prop:=
 match o.op with
 | .store t x y=>stF P (opd st.sl) (λk=>st.bx[k]?) t x y λk B=>K (St.put { st with bx:=st.bx.set k B } o.dst (.tp []))
 | .call c=>match c.callee with
   | .builtin .append=>match c.args.toList,c.argTypes.toList with
     | [x,y],[t,t']=>if t=t' then apF false P st o.dst t x y K else match P.underlying t' with
       | some .string=>Rb P st o.dst t t' x y K
       | _=>U7 P st o.dst t t' x y K
     | _,_=>False
   | .builtin .clear=>match c.args.toList,c.argTypes.toList with
     | [x],[t]=>P1 P st o.dst t x K
     | _,_=>False
   | .builtin .cap=>match c.args.toList,c.argTypes.toList with
     | [x],[t]=>match P.underlying t,YC (opd st.sl x)with
       | some (.slice _),some n=>K (st.put o.dst (.int .i64 n))
       | _,_=>False
     | _,_=>False
   | .value x=>WO P sh st o.dst x (zx P (Vv P (opd st.sl x)) (c.args.toList.map (opd st.sl))) K
   | _=>False
 | _=>False
def C9 (P:Program) (sh:FuncId->List Sh) (o:Oper) (st:St):List Nat:=
 match o.op with
 | .store t x y=>match opd st.sl x with
   | .pb k _ _ _=>[k]
   | _=>[]
 | .call c=>match c.callee with
   | .builtin .append=>match c.args.toList,c.argTypes.toList with
     | [x,y],[t,t']=>match retag P t (opd st.sl x)with
       | .sb k _ _ _ _=>[k]
       | _=>[]
     | _,_=>[]
   | .builtin .clear=>match c.args.toList with
     | [x]=>match opd st.sl x with
       | .sb k _ _ _ _=>[k]
       | _=>[]
     | _=>[]
   | .value x=>Uj sh st x (zx P (Vv P (opd st.sl x)) (c.args.toList.map (opd st.sl)))
   | _=>[]
 | _=>[]
def R3 (st:St)(T:List Nat):List Nat:=T.filter λk=>(st.bx.getD k .gone).isArr
theorem R4 {T:List Nat}:∀ k∈R3 st T,k∈T:=λk h=>(mJ.1 h).1
structure Stp (T TA:List Nat) (dst:Option Nat) (st st':St):Prop where
 sl:∀(i:Nat) (p:PV),some i≠dst->st.sl[i]?=some p->(∀ k∈TA,k∉p.refs)->st'.sl[i]?=some p
 bx:∀(k:Nat) (B:Bx),st.bx[k]?=some B->k∉T->(∀ j∈T,j∉B.refs)->st'.bx[k]?=some B
 bl:st.bx.length<=st'.bx.length
 ll:st'.sl.length=st.sl.length
theorem Stp.rfl' {T TA:List Nat}{dst:Option Nat}:Stp T TA dst st st:=⟨λ_ _ _ h _=>h,λ_ _ h _ _=>h,oC _,rfl⟩
theorem Stp.put {T TA:List Nat}{dst:Option Nat}(h:Stp T TA dst st st')(p:PV):Stp T TA dst st (st'.put dst p):=by
 cases dst with
 | none=>exact h
 | some d=>refine⟨λi q hi I J=>?_,λk B O U Y=>h.bx k B O U Y,h.bl,by simp[St.put,h.ll]⟩;simp only[St.put];rw[nE (λhc=>hi (by rw[hc]))];exact h.sl i q hi I J
theorem Stp.app {T TA:List Nat}{dst:Option Nat}(h:Stp T TA dst st st')(rows:List Bx)(N:Nat):Stp T TA dst st { st' with bx:=st'.bx++rows,N:=N }:=by
 refine⟨h.sl,λk B I J O=>?_,by simp;have:=h.bl;omega,h.ll⟩
 have:=h.bx k B I J O
 simp only;rw[oQ (oD.1 this).1];exact this
theorem Stp.set {T TA:List Nat}{dst:Option Nat}(h:Stp T TA dst st st'){k:Nat}(J:k∈T)(B:Bx):Stp T TA dst st { st' with bx:=st'.bx.set k B }:=by refine⟨h.sl,λj C O I U=>?_,by simp;exact h.bl,h.ll⟩;simp only;rw[nE (λhc=>I (by rw[<-hc];exact J))];exact h.bx j C O I U
theorem FY {k:Nat}{p:PV}(h:k∉p.refs):p.kill k=p:=by simp[PV.kill,h]
theorem Stp.kill {T TA:List Nat}{dst:Option Nat}(h:Stp T TA dst st st'){k:Nat}(U:k∈T)(Y:k∈TA):Stp T TA dst st (st'.kill k):=by
 refine⟨λi p hi I J=>?_,λj C hj h1 O=>?_,by simp[St.kill];exact h.bl,by simp[St.kill,h.ll]⟩
 ·simp only[St.kill,oF,h.sl i p hi I J,oZ,FY (J k Y)]
 ·simp only[St.kill,oF,h.bx j C hj h1 O,oZ];congr 1;cases C with
  | var cs=>
    simp only[Bx.kill];congr 1
    conv=>rhs;rw[<-lQ cs]
    refine nC λp I=>FY λhc=>O k U ?_;simp only[Bx.refs];exact PV.refsL_mem.2 ⟨p,I,hc⟩
  | _=>rfl
theorem F0 {T TA:List Nat}{dst:Option Nat}{bx:List Bx}:∀(ks:List Nat)(st':St),(∀ k∈ks,k∈T)->(∀ k∈ks,(bx.getD k .gone).isArr=true->k∈TA)->Stp T TA dst st st'->Stp T TA dst st (wP bx ks st')
 | [],st',_,_,h=>h
 | k::ks,st',J,O,h=>by
   simp only[wP];split
   ·rename_i hc;exact F0 ks _ (λj I=>J j (by simp[I])) (λj I=>O j (by simp[I])) (h.kill (J k (by simp)) (O k (by simp) hc))
   ·exact F0 ks _ (λj I=>J j (by simp[I])) (λj I=>O j (by simp[I])) h
theorem XD {dst:Option Nat}(ks:List Nat)(nb rows:List Bx)(N:Nat):Stp ks (R3 st ks) dst st (Xj st ks nb rows N):=by
 have I:=F0 (dst:=dst) (bx:=st.bx) ks st (λ_ h=>h) (λk J hc=>mJ.2 ⟨J,hc⟩) Stp.rfl';refine Stp.app (st':={ wP st.bx ks st with bx:=bxN ks (nb.map (Bx.mapR λj=>ks.getD j 0)) 0 (wP st.bx ks st).bx }) ⟨I.sl,λk B J O U=>?_,by simp only[xa];exact I.bl,I.ll⟩ rows N;have Y:=I.bx k B J O U;simp only[Ls,Y,oZ,nG];cases hp:pos ks k with
 | none=>rfl
 | some j=>exact absurd (oB (pR hp)) O
theorem RX {ρ:Operand->PV}{rb:Nat->Option Bx}{t:TypeId}{x y:Operand}{K:Nat->Bx->Prop}(h:stF P ρ rb t x y K):stF P ρ rb t x y λk B=>(∃ z i o,ρ x=.pb k z i o)/\K k B:=by
 unfold stF at h ⊢;split at h
 ·rename_i z k zz i o J I;split at h
  ·rename_i B O;have:(λB=>(∃ z i o,ρ x=.pb k z i o)/\K k B)=K k:=by funext B;exact propext ⟨λh=>h.2,λh=>⟨⟨_,_,_,I⟩,h⟩⟩
   show O9 z zz B i o (retag P t (ρ y)) (λB=>(∃ z i o,ρ x=.pb k z i o)/\K k B);rw[this];exact h
  ·exact h.elim
 ·exact h.elim
theorem PP {g:Bool} {dst:Option Nat} {t:TypeId} {x y:Operand} {K:St->Prop} {T:List Nat} (I:T=match retag P t (opd st.sl x)with | .sb k _ _ _ _=>[k] | _=>[]) (h:apF g P st dst t x y K) :
  apF g P st dst t x y λst'=>Stp T (R3 st T) dst st st'/\K st':=by
 have mono:∀(q:PV) (R R':Nat->List D->Prop),(∀ z l,R z l->R' z l)->OM g (λk=>st.bx[k]?) q R->OM g (λk=>st.bx[k]?) q R':=λq R R' U h=>by
  unfold OM at h ⊢;split at h
  ·rename_i k z lo n c;simp only;split at h
   ·rename_i J;simp only[J];split at h
    ·split at h
     ·rename_i hc;rw[if_pos hc];exact U _ _ h
     ·exact h.elim
    ·split at h
     ·rename_i hc;rw[if_pos hc];exact⟨h.1,U _ _ h.2⟩
     ·exact h.elim
   ·exact h.elim
  ·exact U _ _ h
  ·exact h.elim
 unfold apF at h ⊢;split at h
 rotate_left
 ·exact h.elim
 rename_i el Y
 try simp only[Y]
 split at h
 rotate_left
 ·exact h.elim
 rename_i z i hz hi
 try simp only[hz,hi]
 split at h
 ·exact h.elim
 rename_i hb;rw[if_neg hb];refine mono _ _ _ (λz2 new h=>?_) h;split at h
 rotate_left
 ·exact h.elim
 rename_i aa;rw[if_pos aa];split at h
 ·rename_i k z1 lo n c O;rw[O]at I;simp only at I
  try simp only[O]
  split at h
  ·exact h.elim
  rename_i ab
  try simp only[ab]
  split at h
  ·rename_i t' z' es c' J
   try simp only[J]
   split at h
   ·rename_i hc;rw[if_pos hc];refine⟨h.1,h.2.1,λc2=>(h.2.2 c2).mono λh=>⟨?_,h⟩⟩;refine Stp.put (Stp.set (st':=st.kill k) (Stp.kill Stp.rfl' (by rw[I];simp) (by rw[I];simp[R3,oA,J,Bx.isArr])) (by rw[I];simp) _) _
   ·exact h.elim
  ·exact h.elim
 ·rename_i ad z1 es c O
  try simp only[O]
  split at h
  ·rename_i hc;rw[if_pos hc];refine⟨h.1,h.2.1,λc2=>⟨?_,h.2.2 c2⟩⟩;exact Stp.put (Stp.app Stp.rfl' _ _) _
  ·exact h.elim
 ·exact h.elim
theorem Sa (h:Rel av w0 e0 pS pB a w e st) (ac:∀ k∈pB,k<st.bx.length) {sh:FuncId->List Sh} {o:Oper} {K:St->Prop}
  (hx:∀ x∈o.op.operands,∀ t,x=.tmp t->t∉pS) (aa:∀ i,i∈pS->some i≠o.dst->i∈pS') (hs:Xh P sh o st K)
  {next:Act->World->Prop} {Q:Exit->Act->World->Prop}
  (hn:∀ v w' e' st',K st'->Stp (C9 P sh o st) (R3 st (C9 P sh o st)) o.dst st st'->Rel av w0 e0 pS' pB (a.put o.dst v) w' e' st'->next (a.put o.dst v) w'):o.wp P a w next Q:=by
 unfold Xh at hs;split at hs
 ·rename_i t x y J;have Y:C9 P sh o st=match opd st.sl x with | .pb k _ _ _=>[k] | _=>[]:=by simp only[C9,J]
  rw[J]at hx;simp only[Op.operands]at hx;obtain⟨w',k,B',h1,⟨⟨z,i,oo,hk⟩,h2⟩,h3⟩:=RW h (hx x (by simp)) (hx y (by simp)) (RX hs);have O:(execOp a.eval o).run P w=.ok .skip w':=by obtain⟨dst,op,ty,pos,after,guard⟩:=o;simp only at J;subst J;simp[execOp,h1]
  unfold Oper.wp;rw[O,Oper.upon_skip];refine hn undef w' e _ h2 ?_ (xm h3 ⟨.inr rfl,by simp[PV.Ok,PV.OkL],by simp[PV.refs,PV.refsL]⟩ aa);rw[Y,hk];exact Stp.put (Stp.set Stp.rfl' (by simp) _) _
 ·rename_i c J;rw[J]at hx;simp only[Op.operands,Call.operands]at hx;split at hs
  ·rename_i hc;split at hs
   ·rename_i x y t t' I U;split at hs
    rotate_left
    ·have hm:∀ z,z∈[x,y]->z∈c.args:=λz hz=>by rw[<-I]at hz;exact o8.1 hz
     split at hs
     ·skip
      obtain⟨v,w',e',st',h1,h3,h4,k,z,lo,n,cc,B,q,hq,⟨t1,z1,ay,c1,hk⟩,h2⟩:=Mi h (ty:=o.type) (hx x (by simp[hm])) (hx y (by simp[hm])) aa hs;have ea:c.args=#[x,y]:=by rw[<-nZ,I]
      have et:c.argTypes=#[t,t']:=by rw[<-nZ,U]
      have O:(execOp a.eval o).run P w=.ok (.value v) w':=by obtain⟨dst,op,ty,pos,after,guard⟩:=o;simp only at J h1;subst J;simp[execOp,resolve,hc,invoke,builtin,ea,et,h1]
      unfold Oper.wp;rw[O,Oper.upon_value];refine hn v w' e' st' h3 ?_ h4;rw[h2];have Y:C9 P sh o st=[k]:=by simp only[C9,J,hc,I,U,hq]
      rw[Y];exact Stp.put (Stp.set (st':=st.kill k) (Stp.kill Stp.rfl' (by simp) (by simp[R3,oA,hk,Bx.isArr])) (by simp) _) _
     ·skip
      obtain⟨v,w',e',st',h1,h3,h4,rows,q,h2⟩:=Oq h ac (ty:=o.type) (hx x (by simp[hm])) (hx y (by simp[hm])) aa hs;have ea:c.args=#[x,y]:=by rw[<-nZ,I]
      have et:c.argTypes=#[t,t']:=by rw[<-nZ,U]
      have O:(execOp a.eval o).run P w=.ok (.value v) w':=by obtain⟨dst,op,ty,pos,after,guard⟩:=o;simp only at J h1;subst J;simp[execOp,resolve,hc,invoke,builtin,ea,et,h1]
      unfold Oper.wp;rw[O,Oper.upon_value];refine hn v w' e' st' h3 ?_ h4;rw[h2];exact Stp.put (Stp.app (N:=st.N) Stp.rfl' rows) q
    rename_i ao;subst ao;have hm:∀ z,z∈[x,y]->z∈c.args:=λz hz=>by rw[<-I]at hz;exact o8.1 hz
    have Y:C9 P sh o st=match retag P t (opd st.sl x)with | .sb k _ _ _ _=>[k] | _=>[]:=by simp only[C9,J,hc,I,U]
    obtain⟨v,w',e',st',h1,⟨h2,h3⟩,h4⟩:=PO h ac (ty:=o.type) (hx x (by simp[hm])) (hx y (by simp[hm])) aa (PP Y hs);have ea:c.args=#[x,y]:=by rw[<-nZ,I]
    have et:c.argTypes=#[t,t]:=by rw[<-nZ,U]
    have O:(execOp a.eval o).run P w=.ok (.value v) w':=by obtain⟨dst,op,ty,pos,after,guard⟩:=o;simp only at J h1;subst J;simp[execOp,resolve,hc,invoke,builtin,ea,et,h1]
    unfold Oper.wp;rw[O,Oper.upon_value];exact hn v w' e' st' h3 h2 h4
   ·exact hs.elim
  ·rename_i hc;split at hs
   ·rename_i x t I U;have hm:∀ z,z∈[x]->z∈c.args:=λz hz=>by rw[<-I]at hz;exact o8.1 hz
    obtain⟨v,w',st',h1,h3,h4,k,B,⟨z,lo,n,cc,hk⟩,h2⟩:=L6 h (ty:=o.type) (hx x (by simp[hm])) aa hs;have Y:C9 P sh o st=[k]:=by simp only[C9,J,hc,I,hk]
    have ea:c.args=#[x]:=by rw[<-nZ,I]
    have et:c.argTypes=#[t]:=by rw[<-nZ,U]
    have O:(execOp a.eval o).run P w=.ok (.value v) w':=by obtain⟨dst,op,ty,pos,after,guard⟩:=o;simp only at J h1;subst J;simp[execOp,resolve,hc,invoke,builtin,ea,et,h1]
    unfold Oper.wp;rw[O,Oper.upon_value];refine hn v w' e st' h3 ?_ h4;rw[Y,h2];exact Stp.put (Stp.set Stp.rfl' (by simp) _) _
   ·exact hs.elim
  ·rename_i hc;split at hs
   ·rename_i x t I U;split at hs
    ·rename_i el n aq ae;have hm:∀ z,z∈[x]->z∈c.args:=λz hz=>by rw[<-I]at hz;exact o8.1 hz
     have ox:=(vC h (hx x (by simp[hm]))).valOk;have ea:c.args=#[x]:=by rw[<-nZ,I]
     have et:c.argTypes=#[t]:=by rw[<-nZ,U]
     have hv:∃(b:Option Addr) (m:Nat),a.eval x=.slice b m n:=by
      cases au:opd st.sl x<;>rw[au]at ae ox<;>simp[YC]at ae
      ·subst ae
       have:=ox.1.resolve_left (by simp)
       exact⟨_,_,this⟩
      ·subst ae
       have:=ox.1.resolve_left (by simp)
       rw[this];simp only[PV.val,PV.val1,PV.cv];split<;>exact⟨_,_,rfl⟩
     obtain⟨b,m,hv⟩:=hv;have O:(execOp a.eval o).run P w=.ok (.value (.int .i64 n)) w:=by obtain⟨dst,op,ty,pos,after,guard⟩:=o;simp only at J;subst J;simp[execOp,resolve,hc,invoke,builtin,ea,et,Builtin.cap_,run_underlying aq,hv,goInt]
     unfold Oper.wp;rw[O,Oper.upon_value];exact hn _ w e _ hs (Stp.put Stp.rfl' _) (xm h zq aa)
    ·exact hs.elim
   ·exact hs.elim
  ·rename_i x hc;have Y:C9 P sh o st=Uj sh st x (zx P (Vv P (opd st.sl x)) (c.args.toList.map (opd st.sl))):=by simp only[C9,J,hc]
   rw[Y]at hn;have ah:∀(i:Nat) (p:PV) (y:Operand),(zx P (Vv P (opd st.sl x)) (c.args.toList.map (opd st.sl)))[i]?=some p->c.args[i]?=some y->ValOk av w e pB st.bx (a.eval y) p:=λi p y hp hy=>by
    obtain⟨q,hq,aw⟩:=rD _ _ _ _ hp;rw[oF]at hq;simp only[nN,hy,oZ,oh]at hq;subst hq
    have:=(vC h (hx y (by simp[Array.mem_of_getElem? hy]))).valOk
    rcases aw with rfl | ⟨t,rfl⟩
    ·exact this
    ·exact this.retag t
   have ai:(zx P (Vv P (opd st.sl x)) (c.args.toList.map (opd st.sl))).length=c.args.size:=by rw[wD];simp
   generalize zx P (Vv P (opd st.sl x)) (c.args.toList.map (opd st.sl))=args at hs hn ah ai;unfold WO at hs;unfold Uj at hn;split at hs
   ·rename_i f caps hf;simp only[hf]at hn;split at hs
    ·rename_i rs aj;simp only[aj]at hn;unfold WN at hs;rw[hf]at hs;simp only at hs;split at hs
     ·rename_i ab;rw[oc]at ab;have ak:∀ k∈PV.refsL (args++caps),k∉pB:=λk hk=>by
       obtain⟨p,hp,al⟩:=PV.refsL_mem.1 hk;rcases oM.1 hp with hp | hp
       ·obtain⟨i,hi⟩:=oS.1 hp;have ax:i<c.args.size:=by rw[<-ai];exact(oD.1 hi).1
        exact((ah i p _ hi (ou ax)).2.2 k al).1
       ·have ox:=Cu (vC h (hx x (by simp[hc]))).valOk hf;exact(ox.2.2 k (by simp only[PV.refs];exact PV.refsL_mem.2 ⟨p,hp,al⟩)).1
      refine L4 h ac J hc (hx x (by simp[hc])) ai ah hf ab (uz 200 _ [] mO) (Bn (A:=λk=>k∉pB) (λk hk j hj=>?_) 200 _ [] ak (by simp)) aa hs λv w' e' st' h1 h2 h3=>?_
      ·rw[oA]at hj;cases hB:st.bx[k]? with
       | none=>rw[hB]at hj;simp[Bx.refs]at hj
       | some B=>rw[hB]at hj;exact(h.bf k B hB hk j hj).1
      ·obtain⟨nb,rows,N,q,rfl⟩:=h2;exact hn v w' e' _ h1 (Stp.put (XD _ _ _ _) _) h3
     ·exact hs.elim
    ·rename_i aj;simp only[aj]at hn;refine L5 h ac J hc (hx x (by simp[hc])) ai ah aa hs λv w' e' st' h1 h2 h3=>?_;obtain⟨rows,q,N,rfl⟩:=h2;exact hn v w' e' _ h1 (Stp.put (Stp.app Stp.rfl' _ _) _) h3
   ·exact hs.elim
  ·exact hs.elim
 ·exact hs.elim
variable {av:Nat->Prop} {P:Program} {w0 w w':World} {e0 e:Env} {pS pS' pB pB':List Nat} {a:Act} {st st':St}
structure MkH where
 place:Option Nat:=none
 keep:List Nat:=[]
 same:Option Nat:=none
structure Ent where
 i:Nat
 hard:Bool:=false
 cl:List Nat:=[]
 fs:List Nat:=[]
 mh:Option MkH:=none
 tr:Bool:=false
def Br (v:Bool)(A B:Prop):Prop:=match v with
 | true=>A
 | false=>B
theorem Br.spec {v:Bool}{A B:Prop}(h:Br v A B):(v=true/\A)\/(v=false/\B):=by
 cases v
 ·exact .inr ⟨rfl,h⟩
 ·exact .inl ⟨rfl,h⟩
def Rp (ops:Array Oper) (o:Oper) (st:St) (A B:St->Prop):Prop:=
 match o.guard with
 | none=>A st
 | some (g,I)=>match ops[g]? with
   | some J=>match J.dst with
     | some d=>match st.sl[d]? with
       | some (.bool v)=>Br v (match I with
         | true=>A (st.put (some d) (.bool true))
         | false=>B (st.put (some d) (.bool true))) (match I with
         | true=>B (st.put (some d) (.bool false))
         | false=>A (st.put (some d) (.bool false)))
       | some (.tp [])=>B st
       | _=>False
     | none=>False
   | none=>False
def Vq (ops:Array Oper)(o:Oper)(st:St):Prop:=∀ g I,o.guard=some (g,I)->∃ J d,ops[g]?=some J/\J.dst=some d/\st.sl[d]?=some (.bool I)
def XQ (ops:Array Oper)(o:Oper)(st:St):Prop:=∃ g I J d,o.guard=some (g,I)/\ops[g]?=some J/\J.dst=some d/\(st.sl[d]?=some (.bool (!I))\/st.sl[d]?=some (.tp []))
theorem JF {d:Nat}{p:PV}(h:st.sl[d]?=some p):st.put (some d) p=st:=
 St.put_same λd' hd I=>by cases hd;exact h
theorem IE {ops:Array Oper}{o:Oper}{A B:St->Prop}(h:Rp ops o st A B):(Vq ops o st/\A st)\/(XQ ops o st/\B st):=by
 unfold Rp at h;split at h
 ·rename_i U;exact .inl ⟨λg I hc=>(by rw[U]at hc;cases hc),h⟩
 ·rename_i g I U;split at h
  ·rename_i og J;split at h
   ·rename_i d hd;split at h
    ·rename_i v O;rcases h.spec with⟨rfl,h⟩ | ⟨rfl,h⟩
     ·rw[JF O]at h;cases I
      ·exact .inr ⟨⟨g,false,og,d,U,J,hd,.inl O⟩,h⟩
      ·exact .inl ⟨λg' Y hc=>(by rw[U]at hc;cases hc;exact⟨og,d,J,hd,O⟩),h⟩
     ·rw[JF O]at h;cases I
      ·exact .inl ⟨λg' Y hc=>(by rw[U]at hc;cases hc;exact⟨og,d,J,hd,O⟩),h⟩
      ·exact .inr ⟨⟨g,true,og,d,U,J,hd,.inl O⟩,h⟩
    ·rename_i O;exact .inr ⟨⟨g,I,og,d,U,J,hd,.inr O⟩,h⟩
    ·exact h.elim
   ·exact h.elim
  ·exact h.elim
theorem Li (h:Rel av w0 e0 pS pB a w e st){ops:Array Oper}{o:Oper}(hw:Vq ops o st)(hl:∀ t∈o.looksAt ops,t∉pS):Region.wanted o (yielded ops a.tmps)=true:=by
 unfold Region.wanted;cases hg:o.guard with
 | none=>rfl
 | some gw=>
   obtain⟨g,I⟩:=gw;obtain⟨og,d,h1,h2,h3⟩:=hw g I hg;have U:d∉pS:=hl d (by simp[Oper.looksAt,hg,h1,h2]);have Y:=(h.hs d _ h3 U).resolve_left (by simp);have J:d<a.tmps.size:=o6 (oD.1 h3).1 h.sz;have O:a.tmps[d]?=some (.bool I):=by rw[o9,ou J]at Y;rw[ou J];simp only[nB]at Y;rw[Y];rfl
   simp[yielded,h1,h2,O]
theorem K8 (h:Rel av w0 e0 pS pB a w e st){ops:Array Oper}{o:Oper}(hw:XQ ops o st)(hl:∀ t∈o.looksAt ops,t∉pS):Region.wanted o (yielded ops a.tmps)=false:=by
 obtain⟨g,U,og,d,hg,h1,h2,h3⟩:=hw;have Y:d∉pS:=hl d (by simp[Oper.looksAt,hg,h1,h2]);unfold Region.wanted;rw[hg];rcases h3 with h3 | h3
 ·have O:=(h.hs d _ h3 Y).resolve_left (by simp);have J:d<a.tmps.size:=o6 (oD.1 h3).1 h.sz;have I:a.tmps[d]?=some (.bool (!U)):=by rw[o9,ou J]at O;rw[ou J];simp only[nB]at O;rw[O];rfl
  simp[yielded,h1,h2,I]
 ·have O:=(h.hs d _ h3 Y).resolve_left (by simp);have J:d<a.tmps.size:=o6 (oD.1 h3).1 h.sz;have I:∃ l',a.tmps[d]?=some (.tuple l'):=by rw[o9,ou J]at O;rw[ou J];simp only[nB]at O;rw[O];exact⟨_,rfl⟩
  obtain⟨l',I⟩:=I;simp[yielded,h1,h2,I]
theorem qr (h:Rel av w0 e0 pS pB a w e st)(hp:∀ k,k∈pB'↔k∈pB)(hs:∀ i,i∈pS->i∈pS'):Rel av w0 e0 pS' pB' a w e st:=by
 have U:∀ k,k∉pB'↔k∉pB:=λk=>not_congr (hp k);have hL:∀ k b,Lives pB' e st.bx k b↔Lives pB e st.bx k b:=λk b=>by unfold Lives;rw[U]
 have aa:zY av pB' e st.bx=zY av pB e st.bx:=by funext b;unfold zY;exact propext (or_congr lF (exists_congr λk=>hL k b))
 have Y:∀ i,i∉pS'->i∉pS:=λi hi hc=>hi (hs i hc);exact {
  el:=h.el
  br:=λk B I J=>h.br k B I ((U k).1 J)
  bo:=λk B I J=>by rw[aa];exact h.bo k B I ((U k).1 J)
  bf:=λk B I J j hj=>by have:=h.bf k B I ((U k).1 J) j hj;exact⟨(U j).2 this.1,this.2⟩
  inj:=λk j b h1 h2=>h.inj k j b ((hL k b).1 h1) ((hL j b).1 h2)
  ku:=h.ku
  size:=h.size
  old:=h.old
  fz:=h.fz
  nd:=h.nd
  sz:=h.sz
  hN:=h.hN
  hs:=λi p hi O=>h.hs i p hi (Y i O)
  so:=λi p hi O=>by rw[aa];exact h.so i p hi (Y i O)
  sr:=λi p hi O k I=>by have:=h.sr i p hi (Y i O) k I;exact⟨(U k).2 this.1,this.2⟩
  own:=λk b I=>h.own k b ((hL k b).1 I)
  avl:=h.avl
  avn:=λk b I=>h.avn k b ((hL k b).1 I)
  pin:=λk b hb=>by have:=h.pin k b hb;exact⟨this.1,(U k).2 this.2⟩
  pit:=h.pit }
theorem U8 (h:Rel av w0 e0 pS pB a w e st) (aa:∀ k∈pB,k<st.bx.length) {o:Oper} (hx:∀ x∈o.op.operands,∀ t,x=.tmp t->t∉pS) {K:Res->Prop}
  (hs:nev P (opd st.sl) (λk=>st.bx[k]?) o.op o.type K) :
  ∃ v w' e' r,(execOp a.eval o).run P w=.ok (.value v) w'/\K r/\Rel av w0 e0 pS pB (a.put o.dst v) w' e' (st.push o.dst r):=by
 obtain⟨r,hK,Y⟩:=Qc _ hs;have Y:=Y (λq=>q=r) rfl;cases r with
 | v p=>
   rcases Ed h hx Y with⟨v,q,O,J,I⟩ | ⟨v,c,t,B,f,O,J,I⟩
   ·cases J;exact⟨v,w,e,.v p,O,hK,xm h I λi hi _=>hi⟩
   ·cases J
 | b B f=>
   have O:=rC h (B:=B);have ab:nev P (opd st.sl) (λk=>(st.bx++[B])[k]?) o.op o.type (λq=>q=.b B f):=by
    rw[Fc (ρ:=opd st.sl) (rb:=λk=>st.bx[k]?) (λ_ _=>rfl) λx ac k hk=>?_]
    ·exact Y
    ·have:=(vC h (hx x ac)).rf k hk
     exact oQ this.2
   rcases Ed O hx ab with⟨v,q,O,J,I⟩ | ⟨v,c,t,B',f',h4,J,I⟩
   ·cases J
   ·cases J;have h5:=Aa O (k:=st.bx.length) (B:=B) (by simp) (by simp) I;have U:st.bx.length<(e++[none]).length:=by simp[h.el]
    have h6:ValOk av (w.alloc (.cells c t)) ((e++[none]).set st.bx.length (some w.heap.size)) ((st.bx.length::pB).filter (·≠st.bx.length)) (st.bx++[B]) v (f st.bx.length):=
     ⟨.inr (I.val _ _ (Env.at_set_eq U)),I.fok _ _ _,by rw[I.fr];simp⟩
    refine⟨v,_,_,.b B f,h4,hK,qr (pS:=pS) (xm h5 h6 λi hi _=>hi) (λk=>?_) λ_=>id⟩;simp only[mJ,oL,ne_eq,oe];constructor
    ·intro hk;have:=aa k hk;exact⟨.inr hk,by omega⟩
    ·rintro⟨h7 | h7,h8⟩
     ·exact absurd h7 h8
     ·exact h7
def SZ (P:Program)(sh:FuncId->List Sh)(o:Oper)(st:St)(K:St->Prop):Prop:=
 match U1 o.op with
 | true=>nev P (opd st.sl) (λk=>st.bx[k]?) o.op o.type λr=>K (st.push o.dst r)
 | false=>Xh P sh o st K
def Nz (P:Program)(sh:FuncId->List Sh)(o:Oper)(st:St):List Nat:=
 match U1 o.op with
 | true=>[]
 | false=>C9 P sh o st
theorem Nt {dst:Option Nat}{r:Res}:Stp [] [] dst st (st.push dst r):=by
 cases r with
 | v p=>exact Stp.put Stp.rfl' p
 | b B f=>exact Stp.put (Stp.app Stp.rfl' [B] st.N) _
theorem Kk (h:Rel av w0 e0 pS pB a w e st) (J:∀ k∈pB,k<st.bx.length) {sh:FuncId->List Sh} {o:Oper} {K:St->Prop}
  (U:∀ x∈o.op.operands,∀ t,x=.tmp t->t∉pS) (hs:SZ P sh o st K)
  {next:Act->World->Prop} {Q:Exit->Act->World->Prop}
  (O:∀ v w' e' st',K st'->Stp (Nz P sh o st) (R3 st (Nz P sh o st)) o.dst st st'->Rel av w0 e0 pS pB (a.put o.dst v) w' e' st'->next (a.put o.dst v) w'):o.wp P a w next Q:=by
 unfold SZ at hs;unfold Nz at O;split at hs
 ·rename_i I;simp only[I]at O;obtain⟨v,w',e',r,Y,h2,h3⟩:=U8 h J U hs;unfold Oper.wp;rw[Y,Oper.upon_value];exact O v w' e' _ h2 Nt h3
 ·rename_i I;simp only[I]at O;exact Sa h J U (λi hi _=>hi) hs O
abbrev Pend:=List (Nat × Option Nat)
def pi (ops:Array Oper)(i:Nat):Option Nat:=(ops[i]?).bind (·.dst)
def TL (T:List Nat)(st:St)(p:PV):Bool:=
 p.refs.all λk=>!T.contains k&&match st.bx[k]? with
  | some B=>B.refs.all λj=>!T.contains j
  | none=>true
def RS (ops:Array Oper)(T:List Nat)(st:St)(x:Nat × Option Nat):Bool:=
 match ops[x.1]? with
 | some o=>(match x.2 with
   | some k=>!T.contains k&&(match st.bx[k]? with
     | some B=>B.refs.all λj=>!T.contains j
     | none=>true)
   | none=>true)&&(o.op.operands.toList.all λy=>TL T st (opd st.sl y))&&(match o.dst with
   | some d=>TL T st (st.sl.getD d .any)
   | none=>true)
 | none=>false
def mvP (ops:Array Oper)(x:Nat × Option Nat):Bool:=match x.2,ops[x.1]? with
 | none,some o=>match o.op with
   | .move _=>true
   | _=>false
 | _,_=>false
def TK (ops:Array Oper)(T:List Nat)(st:St)(pf:Pend):Bool:=
 match T with
 | []=>true
 | T=>pf.all (RS ops T st)
def X2 (ops:Array Oper)(T:List Nat)(st:St)(pf:Pend):Bool:=
 match T with
 | []=>true
 | T=>pf.all λx=>RS ops T st x||(mvP ops x&&RS ops (R3 st T) st x)
def TF:Res->Option Nat->Option PV
 | .v p,none=>some p
 | .b _ f,some k=>some (f k)
 | _,_=>none
def Vn (ops:Array Oper)(P:Program)(st:St)(o:Oper)(b:Option Nat):Prop:=
 (Vq ops o st/\(∀ y∈o.op.operands,∀ k∈(opd st.sl y).refs,k<st.bx.length)/\∃ r q,nev P (opd st.sl) (fun k=>st.bx[k]?) o.op o.type (fun q=>q=r)/\TF r b=some q /\
  (∀ d,o.dst=some d->d<st.sl.length->st.sl[d]?=some q)/\∀ B f k,r=.b B f->b=some k->st.bx[k]?=some B) \/
 (XQ ops o st/\b=none/\∀ d,o.dst=some d->d<st.sl.length->st.sl[d]?=some (.tp []))
def YP (ops:Array Oper)(P:Program)(st:St)(x:Nat × Option Nat):Prop:=∃ o,ops[x.1]?=some o/\Vn ops P st o x.2
structure SafeP (T:List Nat) (st:St) (p:PV):Prop where
 r:∀ k∈T,k∉p.refs
 b:∀ k∈p.refs,k∉T/\∀ B,st.bx[k]?=some B->∀ j∈T,j∉B.refs
theorem H8 {T:List Nat}{p:PV}(h:TL T st p=true):SafeP T st p:=by
 simp only[TL,oc,oK,nK]at h;have O:∀ k∈p.refs,k∉T:=λk I=>by have:=(h k I).1;simpa using this
 refine⟨λk I hc=>O k hc I,λk I=>⟨O k I,λB U j Y J=>?_⟩⟩
 have:=(h k I).2
 rw[U]at this;simp only[oc,nK]at this
 have:=this j J
 simp at this;exact this Y
structure Safe1 (T:List Nat) (st:St) (o:Oper) (b:Option Nat):Prop where
 op:∀ y∈o.op.operands,SafeP T st (opd st.sl y)
 ds:∀ d,o.dst=some d->SafeP T st (st.sl.getD d .any)
 bx:∀ k,b=some k->k∉T/\∀ B,st.bx[k]?=some B->∀ j∈T,j∉B.refs
theorem Eg {o:Oper}{b:Option Nat}:Safe1 [] st o b:=⟨λ_ _=>⟨by simp,by simp⟩,λ_ _=>⟨by simp,by simp⟩,by simp⟩
theorem C3 {ops:Array Oper}{T:List Nat}{x:Nat × Option Nat}{o:Oper}(U:ops[x.1]?=some o)(h:RS ops T st x=true):Safe1 T st o x.2:=by
 unfold RS at h;rw[U]at h;simp only[oK]at h;obtain⟨⟨I,Y⟩,O⟩:=h;refine⟨λy hy=>H8 (oc.1 Y y (o8.2 hy)),λd hd=>?_,λk hk=>?_⟩
 ·rw[hd]at O;exact H8 O
 ·rw[hk]at I;simp only[oK,nK]at I;refine⟨by have:=I.1;simpa using this,λB hB j hj J=>?_⟩
  have:=I.2
  rw[hB]at this;simp only[oc,nK]at this
  have:=this j J
  simp at this;exact this hj
def X9 (T TA:List Nat)(st:St)(o:Oper)(b:Option Nat):Prop:=Safe1 T st o b\/((∃ y,o.op=.move y)/\b=none/\Safe1 TA st o b)
theorem O8 {ops:Array Oper}{T:List Nat}{pf:Pend}(h:TK ops T st pf=true){x:Nat × Option Nat}(I:x∈pf){o:Oper}(J:ops[x.1]?=some o):Safe1 T st o x.2:=by
 unfold TK at h;split at h
 ·exact Eg
 ·exact C3 J (oc.1 h x I)
theorem RT {ops:Array Oper}{T:List Nat}{pf:Pend}(h:X2 ops T st pf=true){x:Nat × Option Nat}(U:x∈pf){o:Oper}(J:ops[x.1]?=some o):X9 T (R3 st T) st o x.2:=by
 unfold X2 at h;split at h
 ·exact .inl Eg
 ·have:=oc.1 h x U
  rw[ny,oK]at this;rcases this with I | ⟨I,Y⟩
  ·exact .inl (C3 J I)
  ·refine .inr ⟨?_,?_,C3 J Y⟩<;>unfold mvP at I<;>split at I
   ·rename_i o2 e1 O;rw[J]at O;cases O;split at I
    ·exact⟨_,by assumption⟩
    ·cases I
   ·cases I
   ·assumption
   ·cases I
theorem Ec {ops:Array Oper}{o:Oper}{b:Option Nat}{T TA:List Nat}{dst:Option Nat}(h:Vn ops P st o b)(U:Stp T TA dst st st')(hA:∀ k∈TA,k∈T)(hs:X9 T TA st o b)(hd:∀ d,dst=some d->d∉o.looksAt ops/\o.dst≠some d):Vn ops P st' o b:=by
 have aj:∀ y∈o.op.operands,∀ k∈TA,k∉(opd st.sl y).refs:=λy hy k J=>by
  rcases hs with hs | ⟨_,_,hs⟩
  ·exact(hs.op y hy).r k (hA k J)
  ·exact(hs.op y hy).r k J
 have ak:∀ d,o.dst=some d->∀ k∈TA,k∉(st.sl.getD d .any).refs:=λd I k J=>by
  rcases hs with hs | ⟨_,_,hs⟩
  ·exact(hs.ds d I).r k (hA k J)
  ·exact(hs.ds d I).r k J
 have O:∀ t p,t∈o.looksAt ops->st.sl[t]?=some p->(∀ k∈TA,k∉p.refs)->st'.sl[t]?=some p:=λt p ht hp J=>U.sl t p (λhc=>(hd t hc.symm).1 ht) hp J;have aa:∀ y∈o.op.operands,opd st'.sl y=opd st.sl y:=λy hy=>by
  cases y with
  | tmp t=>
    have Y:=aj _ hy;simp only[opd]at Y ⊢;rw[oA]at Y;rw[oA,oA];cases hp:st.sl[t]? with
    | none=>have:st'.sl[t]?=none:=ob (by rw[U.ll];exact mH.1 hp);rw[this]
    | some p=>rw[hp]at Y;rw[O t p (by unfold Oper.looksAt;exact oq _ (nf.2 ⟨.tmp t,o8.2 hy,rfl⟩)) hp Y]
  | _=>rfl
 have ah:Vq ops o st->Vq ops o st':=λhw g ab hg=>by obtain⟨og,d,h1,h2,h3⟩:=hw g ab hg;exact⟨og,d,h1,h2,O d _ (by simp[Oper.looksAt,hg,h1,h2]) h3 (by simp[PV.refs])⟩
 have ae:∀ d q,o.dst=some d->st.sl[d]?=some q->(∀ k∈TA,k∉q.refs)->st'.sl[d]?=some q:=λd q I hq J=>U.sl d q (λhc=>(hd d hc.symm).2 I) hq J;rcases h with⟨h1,h0,r,q,h2,h3,h4,h5⟩ | ⟨⟨g,ab,og,d,g1,g2,g3,g4⟩,h2,h3⟩
 ·refine .inl ⟨ah h1,λy hy k J=>?_,r,q,?_,h3,λd I ac=>?_,λB f k hr J=>?_⟩
  ·rw[aa y hy]at J;have:=h0 y hy k J;have:=U.bl;omega
  ·rcases hs with hs | ⟨⟨z,hz⟩,_,_⟩
   ·rw[Fc (ρ:=opd st.sl) (rb:=λk=>st.bx[k]?) aa λy hy k J=>?_]
    ·exact h2
    ·have al:=h0 y hy k J;have ai:=(hs.op y hy).b k J;have hB:st.bx[k]?=some st.bx[k]:=oI al;show st'.bx[k]?=st.bx[k]?;rw[U.bx k _ hB ai.1 (ai.2 _ hB),hB]
   ·have aa:=aa z (by rw[hz];simp[Op.operands]);rw[hz]at h2 ⊢;simp only[nev,Bi]at h2 ⊢;rw[aa];exact h2
  ·rw[U.ll]at ac;have hq:=h4 d I ac;have Y:=ak d I;rw[oA,hq]at Y;exact ae d q I hq Y
  ·rcases hs with hs | ⟨_,hb,_⟩
   ·have hB:=h5 B f k hr J
    have:=hs.bx k J
    exact U.bx k B hB this.1 (this.2 B hB)
   ·rw[hb]at J;cases J
 ·refine .inr ⟨⟨g,ab,og,d,g1,g2,g3,?_⟩,h2,λd' I ac=>?_⟩
  ·have hm:d∈o.looksAt ops:=by simp[Oper.looksAt,g1,g2,g3]
   rcases g4 with g4 | g4
   ·exact .inl (O d _ hm g4 (by simp[PV.refs]))
   ·exact .inr (O d _ hm g4 (by simp[PV.refs,PV.refsL]))
  ·rw[U.ll]at ac;exact ae d' _ I (h3 d' I ac) (by simp[PV.refs,PV.refsL])
variable {av:Nat->Prop} {P:Program} {w0 w w':World} {e0 e:Env} {pS pS' pB pB':List Nat} {a:Act} {st st':St}
mutual
def D.Flat0:D->Prop
 | .lit _=>True
 | .ag cs=>xr cs
 | .sl a _ es _=>(∀ ad,a=some ad->ad.off=0)/\xr es
 | .pt ..=>False
 | .fn ..=>False
 | .mp ..=>False
def xr:List D->Prop
 | []=>True
 | d::ds=>d.Flat0/\xr ds
end
theorem Good.apart {F:List Nat}{live:Nat->Prop}(hold:∀ b,b<w.heap.size->b∉F->w'.heap[b]?=w.heap[b]?){x:D}(h:Good w live x)(J:∀ b∈x.foot,b∉F):Good w' live x:=
 ⟨h.1.mono λb I=>hold b (h.1.lt b I) (J b I),h.2⟩
variable {av:Nat->Prop} {P:Program} {w0 w w':World} {e0 e:Env} {pS pS' pB pB':List Nat} {a:Act} {st st':St}
variable {av:Nat->Prop} {P:Program} {w0 w w':World} {e0 e:Env} {pS pS' pB pB':List Nat} {a:Act} {st st':St}
def KZ (N0:Option Nat)(fs fb:List Nat):List Nat->St->(St->Prop)->Prop
 | [],st,K=>K st
 | k::ks,st,K=>P2 N0 st k fs fb λst'=>KZ N0 fs fb ks st' K
def YK (ops:Array Oper)(pf:Pend)(t:Nat):Bool:=pf.all λx=>match pi ops x.1 with
 | some d=>!(d==t)
 | none=>true
def pE (N0:Option Nat)(ops:Array Oper)(pf:Pend)(cl fs:List Nat)(st:St)(K:St->Prop):Prop:=
 match cl with
 | []=>K st
 | t :: cl=>match(Bm st.bx 200 ((t::cl).flatMap λt=>(st.sl.getD t .any).refs) []).filter (Wj st)with
   | []=>K st
   | k::ks=>match TK ops (k::ks) st pf&&((t::cl)++fs).all (YK ops pf)with
     | true=>KZ N0 fs (Bm st.bx 200 (fs.flatMap λt=>(st.sl.getD t .any).refs) []) (k::ks) st K
     | false=>False
theorem Stp.trans {T:List Nat}{st I st2:St}(J:Stp T T none st I)(O:Stp T T none I st2):Stp T T none st st2:=
 ⟨λi p hi hp U=>O.sl i p hi (J.sl i p hi hp U) U,λk B hk Y h4=>O.bx k B (J.bx k B hk Y h4) Y h4,oR J.bl O.bl,O.ll.trans J.ll⟩
theorem Stp.wide {T I:List Nat}{dst:Option Nat}(h:Stp T T dst st st')(J:∀ k∈T,k∈I):Stp I I dst st st':=
 ⟨λi p hi Y O=>h.sl i p hi Y λk U=>O k (J k U),λk B O h3 h4=>h.bx k B O (λhc=>h3 (J k hc)) λj hj=>h4 j (J j hj),h.bl,h.ll⟩
theorem KX {k z:Nat}{s p:PV}(h:k∉p.refs):OZ k s z p=p:=by
 cases p<;>simp only[OZ]<;>first
  | exact FY h
  | (simp[PV.refs]at h;rw[if_neg (Ne.symm h)])
theorem SL {k z:Nat}{s p:PV}(h:k∉p.refs):Proofs.YtlaniepnglheoaaGreatDoor.clo k s z p=p:=by
 cases p
 case pg cs=>simp only[Proofs.YtlaniepnglheoaaGreatDoor.clo];rw[if_neg];simpa [PV.refs]using h
 all_goals exact @KX _ k z s _ h
theorem stp_clo {k z N:Nat}{s:PV}:Stp [k] [k] none st (st.clo k s z N):=by
 refine⟨λi p _ I J=>?_,λj B O U Y=>?_,by simp[St.clo],by simp[St.clo]⟩
 ·simp only[St.clo,oF,I,oZ,SL (J k (by simp))]
 ·simp only[St.clo];rw[nE (by simp at U;omega),oF,O];simp only[oZ];congr 1;cases B with
  | var cs=>
    simp only[Bx.clo];congr 1
    conv=>rhs;rw[<-lQ cs]
    refine nC λp I=>KX λhc=>Y k (by simp) ?_;simp only[Bx.refs];exact PV.refsL_mem.2 ⟨p,I,hc⟩
  | _=>rfl
theorem qJ {N0:Option Nat} (I:NOk N0 w0) {fs fb:List Nat} {K:St->Prop} (J:∀ i∈fs,i∉pS) (O:∀ i∈fb,i∉pB) :
  ∀(ks:List Nat) (st:St),Rel av w0 e0 pS pB a w e st->(∀ k∈ks,k∉pB)->KZ N0 fs fb ks st K->∃ st',K st'/\Stp ks ks none st st'/\Rel av w0 e0 pS pB a w e st'
 | [],st,h,_,hs=>⟨st,hs,Stp.rfl',h⟩
 | k::ks,st,h,U,hs=>by simp only[KZ]at hs;obtain⟨s,z,N,Y,h2,_⟩:=KY h I (U k (by simp)) J O hs;obtain⟨st',h3,h4,h5⟩:=qJ I J O ks _ h2 (λj hj=>U j (by simp[hj])) Y;exact⟨st',h3,(stp_clo.wide (by simp)).trans (h4.wide λk U=>by simp[U]),h5⟩
theorem Ql {ops:Array Oper}{pf:Pend}{t:Nat}(h:YK ops pf t=true):∀ x∈pf,pi ops x.1≠some t:=by
 intro x I hc
 have:=oc.1 h x I
 rw[hc]at this;simp at this
theorem vl (h:Rel av w0 e0 pS pB a w e st) {N0:Option Nat} (aa:NOk N0 w0) {ops:Array Oper} {pf:Pend} (ab:∀ t∈pS,∃ x∈pf,pi ops x.1=some t) {cl fs:List Nat} {K:St->Prop} (hs:pE N0 ops pf cl fs st K) :
  ∃ st' T,K st'/\Stp T T none st st'/\TK ops T st pf=true/\Rel av w0 e0 pS pB a w e st':=by
 unfold pE at hs;split at hs
 ·exact⟨st,[],hs,Stp.rfl',rfl,h⟩
 ·rename_i t cl;split at hs
  ·exact⟨st,[],hs,Stp.rfl',rfl,h⟩
  ·rename_i k ks ac;split at hs
   ·rename_i U;simp only[oK]at U;obtain⟨h1,h2⟩:=U;have J:∀ i∈(t::cl)++fs,i∉pS:=λi hi hc=>by obtain⟨x,hx,hd⟩:=ab i hc;exact Ql (oc.1 h2 i hi) x hx hd
    have Y:∀ i,i∈(t::cl)++fs->∀ j∈(st.sl.getD i .any).refs,j∉pB:=λi hi j I=>by
     rw[oA]at I;cases hp:st.sl[i]? with
     | none=>rw[hp]at I;simp[PV.refs]at I
     | some p=>rw[hp]at I;exact(h.sr i p hp (J i hi) j I).1
    have O:∀ l:List Nat,(∀ i∈l,i∈(t::cl)++fs)->∀ j∈Bm st.bx 200 (l.flatMap λt=>(st.sl.getD t .any).refs) [],j∉pB:=λl hl=>by
     refine Bn (A:=λj=>j∉pB) (λk hk j I=>?_) _ _ _ (λj I=>?_) (by simp)
     ·rw[oA]at I;cases hB:st.bx[k]? with
      | none=>rw[hB]at I;simp[Bx.refs]at I
      | some B=>rw[hB]at I;exact(h.bf k B hB hk j I).1
     ·obtain⟨i,hi,I⟩:=mG.1 I;exact Y i (hl i hi) j I
    obtain⟨st',g1,g2,g3⟩  :=qJ aa (λi hi=>J i (nO _ hi)) (O fs λi hi=>nO _ hi) (k::ks) st h (λj I=>by rw[<-ac]at I;exact O (t::cl) (λi hi=>oq _ hi) j (mJ.1 I).1) hs;exact⟨st',_,g1,g2,h1,g3⟩
   ·exact hs.elim
def Tn (ops:Array Oper)(i j:Nat):Bool:=match ops[j]? with
 | some o=>o.after.any λe=>e.on==i&&Region.binds .any e
 | none=>false
def G3 (ops:Array Oper)(j:Nat):List Nat:=match ops[j]? with
 | some o=>(o.after.toList.filter (Region.binds .any)).map (·.on)
 | none=>[]
def UU (ops:Array Oper):Nat->List Nat->List Nat->List Nat
 | 0,_,I=>I
 | _+1,[],I=>I
 | n+1,k::J,I=>match I.contains k with
   | true=>UU ops n J I
   | false=>UU ops n (G3 ops k++J) (k::I)
theorem Ib {ops:Array Oper}{A:Nat->Prop}(U:∀ k,A k->∀ j∈G3 ops k,A j):∀(n:Nat)(J I:List Nat),(∀ k∈J,A k)->(∀ k∈I,A k)->∀ k∈UU ops n J I,A k
 | 0,_,I,_,h=>h
 | _+1,[],I,_,h=>h
 | n + 1,k::J,I,O,Y=>by
   simp only[UU];split
   ·exact Ib U n J I (λj hj=>O j (by simp[hj])) Y
   ·refine Ib U n _ _ (λj hj=>?_) λj hj=>?_
    ·rcases oM.1 hj with hj | hj
     ·exact U k (O k (by simp)) j hj
     ·exact O j (by simp[hj])
    ·rcases oL.1 hj with rfl | hj
     ·exact O j (by simp)
     ·exact Y j hj
def TX (I:List Nat)(nv:Pend):Pend:=nv.filter λx=>!I.contains x.1
def JU (ops:Array Oper)(j:Nat)(nv:Pend):Pend:=match nv with
 | []=>[]
 | nv=>TX (UU ops 1000 (G3 ops j) []) nv
def Uz (P:Program)(sh:FuncId->List Sh)(N0:Option Nat)(ops:Array Oper)(pf:Pend)(en:Ent)(o:Oper)(st:St)(K:St->Prop):Prop:=
 match en.mh with
 | none=>match en.tr with
   | false=>pE N0 ops pf en.cl en.fs st λst=>match X2 ops (Nz P sh o st) st pf with
     | true=>SZ P sh o st K
     | false=>False
   | true=>match pf with
     | []=>SZ P sh o st λst=>Rh st o.dst K
     | _=>False
 | some mh=>match pf with
   | []=>False
   | _=>False
def Xq (o:Oper)(st:St):Bool:=o.op.operands.toList.all λy=>(opd st.sl y).refs.all λk=>decide (k<st.bx.length)
def Res.bk (r:Res)(n:Nat):Option Nat:=match r with
 | .v _=>none
 | .b ..=>some n
def Nl (P:Program)(sh:FuncId->List Sh)(N0:Option Nat)(ops:Array Oper):List Ent->Pend->St->(St->Prop)->Prop
 | [],_,st,K=>K st
 | en :: l,nv,st,K=>match ops[en.i]? with
   | none=>False
   | some o=>match en.hard with
     | true=>Rp ops o st (λst=>Uz P sh N0 ops (JU ops en.i nv) en o st λst=>Nl P sh N0 ops l nv st K) (λst=>Nl P sh N0 ops l nv (st.put o.dst (.tp [])) K)
     | false=>Rp ops o st (λst=>match U1 o.op&&Xq o st with
      | true=>nev P (opd st.sl) (λk=>st.bx[k]?) o.op o.type λr=>Nl P sh N0 ops l ((en.i,r.bk st.bx.length)::nv) (st.push o.dst r) K
      | false=>False) (λst=>Nl P sh N0 ops l ((en.i,none)::nv) (st.put o.dst (.tp [])) K)
theorem GD {bx:List Bx}:ValOk av w e pB bx undef (.tp []):=⟨.inr rfl,by simp[PV.Ok,PV.OkL],by simp[PV.refs,PV.refsL]⟩
theorem tf {ops:Array Oper}{o:Oper}{y:Operand}{t:Nat}(I:y∈o.op.operands)(J:y=.tmp t):t∈o.looksAt ops:=by subst J;exact oq _ (nf.2 ⟨.tmp t,o8.2 I,rfl⟩)
theorem Kl (h:Rel av w0 e0 pS pB a w e st) {N0:Option Nat} (hN0:NOk N0 w0) (hpl:∀ k∈pB,k<st.bx.length) {sh:FuncId->List Sh} {ops:Array Oper} {pf:Pend} (hpf:∀ t∈pS,∃ x∈pf,pi ops x.1=some t) (hpb:∀ k∈pB,∃ x∈pf,x.2=some k)
  {en:Ent} {o:Oper} (ho:ops[en.i]?=some o) (hl:∀ t∈o.looksAt ops,t∉pS) {K:St->Prop}
  (hs:Rp ops o st (fun st=>Uz P sh N0 ops pf en o st K) (fun st=>K (st.put o.dst (.tp [])))) {next:Act->World->Prop} {Q:Exit->Act->World->Prop}
  (hn:∀ v w' e' st',K st'->st.bx.length<=st'.bx.length->(∀ x∈pf,∀ ox,ops[x.1]?=some ox->Vn ops P st ox x.2->(∀ d,o.dst=some d->d∉ox.looksAt ops/\ox.dst≠some d)->Vn ops P st' ox x.2) ->
   Rel av w0 e0 pS pB (a.put o.dst v) w' e' st'->next (a.put o.dst v) w'):wpOp P ops Q en.i next a w:=by
 unfold wpOp;rw[ho];simp only;rcases IE hs with⟨hw,hs⟩ | ⟨hw,hs⟩
 ·rw[if_pos (Li h hw hl)];refine .inl ?_;unfold Uz at hs;split at hs
  rotate_left
  ·split at hs
   rotate_left
   ·exact hs.elim
   have e1:pS=[]:=nW.2 fun t ht=>by obtain⟨x,hx,_⟩:=hpf t ht;simp at hx
   have e2:pB=[]:=nW.2 fun t ht=>by obtain⟨x,hx,_⟩:=hpb t ht;simp at hx
   subst e1;subst e2;have hn':=fun v w' e' st' g1 g2 g3=>hn v w' e' st' g1 g2 (fun x hx=>by simp at hx) g3;exact hs.elim
  split at hs
  rotate_left
  ·split at hs
   rotate_left
   ·exact hs.elim
   have e1:pS=[]:=nW.2 fun t ht=>by obtain⟨x,hx,_⟩:=hpf t ht;simp at hx
   have e2:pB=[]:=nW.2 fun t ht=>by obtain⟨x,hx,_⟩:=hpb t ht;simp at hx
   subst e1;subst e2;refine Kk h hpl (fun y hy t ht=>hl t (tf hy ht)) hs fun v w' e' st' g1 g2 g3=>?_;obtain⟨st2,k1,k2,k3⟩:=Mk g3 g1;exact hn v w' e' st2 k1 (by rw[k3];exact g2.bl) (fun x hx=>by simp at hx) k2
  obtain⟨st1,T,h1,h2,h3,h4⟩:=vl h hN0 hpf hs;split at h1
  ·rename_i hsf;refine Kk h4 (fun k hk=>o6 (hpl k hk) h2.bl) (fun y hy t ht=>hl t (tf hy ht)) h1 fun v w' e' st' g1 g2 g3=>hn v w' e' st' g1 (oR h2.bl g2.bl) (fun x hx ox hox hk hd=>?_) g3;exact Ec (Ec hk h2 (fun _ h=>h) (.inl (O8 h3 hx hox)) fun d hd=>by cases hd) g2 R4 (RT hsf hx hox) hd
  ·exact h1.elim
 ·rw[if_neg (by rw[K8 h hw hl];simp)];exact hn undef w e _ hs (by cases o.dst<;>exact oC _) (fun x hx ox hox hk hd=>Ec hk (Stp.put (T:=[]) (TA:=[]) Stp.rfl' _) (fun _ h=>h) (.inl Eg) hd) (xm h GD fun i hi _=>hi)
theorem K5 {N0:Option Nat} (I:NOk N0 w0) {sh:FuncId->List Sh} {ops:Array Oper} {K:St->Prop} {Q:Exit->Act->World->Prop} (O:∀ a w e st,K st->Rel av w0 e0 [] [] a w e st->Q .normal a w) :
  ∀(l:List Ent) (a:Act) (w:World) (e:Env) (st:St),(∀ en∈l,en.hard=true)->Rel av w0 e0 [] [] a w e st->Nl P sh N0 ops l [] st K->wpOps P ops Q (l.map (·.i)) a w
 | [],a,w,e,st,_,h,hs=>O a w e st hs h
 | en::l,a,w,e,st,U,h,hs=>by
   rw[nH,wpOps_cons];simp only[Nl]at hs;cases J:ops[en.i]? with
   | none=>rw[J]at hs;exact hs.elim
   | some o=>rw[J]at hs;simp only[U en (by simp)]at hs;exact Kl h I (by simp) (by simp) (by simp) J (by simp) hs λv w' e' st' Y _ _ h2=>K5 I O l _ _ _ _ (λx hx=>U x (by simp[hx])) h2 Y
def MG (n:Nat)(l:List Ent):Bool:=(l.map (·.i))==List.range n&&l.all (·.hard)
theorem O2 {N0:Option Nat} (I:NOk N0 w0) {sh:FuncId->List Sh} {id:Nat} {ops:Array Oper} {l:List Ent} {K:St->Prop} {Q:Exit->Act->World->Prop} (J:MG ops.size l=true) (h:Rel av w0 e0 [] [] a w e st)
  (hs:Nl P sh N0 ops l [] st K) (O:∀ a w e st,K st->Rel av w0 e0 [] [] a w e st->Q .normal a w):(Code.region id ops false).wp P Q a w:=by
 simp only[MG,oK,mK,oc]at J;refine wp_region ?_;rw[<-J.1];exact K5 I O l a w e st J.2 h hs
variable {av:Nat->Prop} {P:Program} {w0 w w':World} {e0 e:Env} {pS pS' pB pB':List Nat} {a:Act} {st st':St}
def Bp (ops:Array Oper)(i:Nat):List Ent->Bool
 | []=>true
 | b::bs=>Tn ops b.i i||(!b.hard&&Bp ops i bs)
def Xb (ops:Array Oper) (bf:List Ent) (en:Ent) (aft:List Ent):Bool:=
 match ops[en.i]? with
 | none=>false
 | some o=>
   (o.after.toList.all fun e=>!Region.binds .any e||bf.any fun b=>b.i==e.on) &&
   Bp ops en.i bf &&
   (bf.all fun b=>match pi ops b.i with
    | none=>true
    | some d=>!(o.looksAt ops).contains d||Tn ops b.i en.i) &&
   (aft.all fun r=>match pi ops r.i with
    | none=>true
    | some d=>!((o.looksAt ops).contains d||o.dst==some d)||(r.hard&&Tn ops en.i r.i)) &&
   (en.hard||match o.dst with
    | none=>true
    | some d=>!(o.looksAt ops).contains d)
def SJ (ops:Array Oper):List Ent->List Ent->Bool
 | _,[]=>true
 | bf,en::l=>Xb ops bf en l&&SJ ops (en::bf) l
def NU:List Nat->Bool
 | []=>true
 | k::ks=>!ks.contains k&&NU ks
def chk (ops:Array Oper)(ord:List Ent):Bool:=
 ord.length==ops.size&&NU (ord.map (·.i))&&((List.range ops.size).all λi=>ord.any λb=>b.i==i)&&SJ ops [] ord
structure Spot (ops:Array Oper) (l1:List Ent) (en:Ent) (l2:List Ent) (o:Oper):Prop where
 op:ops[en.i]?=some o
 ed:∀ e∈o.after,Region.binds .any e=true->∃ b∈l1,b.i=e.on
 hd:Bp ops en.i l1.reverse=true
 pr:∀ b∈l1,∀ d,pi ops b.i=some d->d∈o.looksAt ops->Tn ops b.i en.i=true
 af:∀ r∈l2,∀ d,pi ops r.i=some d->(d∈o.looksAt ops\/o.dst=some d)->r.hard=true/\Tn ops en.i r.i=true
 se:en.hard=false->∀ d,o.dst=some d->d∉o.looksAt ops
theorem P0 {ops:Array Oper}{l1:List Ent}{en:Ent}{l2:List Ent}(h:Xb ops l1.reverse en l2=true):∃ o,Spot ops l1 en l2 o:=by
 unfold Xb at h;split at h
 ·cases h
 ·rename_i o Y;simp only[oK,oc]at h;obtain⟨⟨⟨⟨h1,h2⟩,h3⟩,h4⟩,U⟩:=h;refine⟨o,Y,λe he I=>?_,h2,λb I d hd hm=>?_,λr hr d hd hm=>?_,λhh d hd hm=>?_⟩
  ·have:=h1 e (o8.2 he)
   rw[I]at this;simp only[lB,Bool.false_or,List.any_eq_true,mK]at this;obtain⟨b,J,O⟩:=this;exact⟨b,mX.1 J,O⟩
  ·have:=h3 b (mX.2 I)
   rw[hd]at this;simpa [hm]using this
  ·have:=h4 r hr
   rw[hd]at this;rcases hm with hm | hm
   ·simpa [hm]using this
   ·simpa [hm]using this
  ·rw[hh,hd]at U;simp[hm]at U
theorem Hg {ops:Array Oper}:∀(l bf:List Ent),SJ ops bf.reverse l=true->∀ l1 en l2,l=l1++en::l2->∃ o,Spot ops (bf++l1) en l2 o
 | [],bf,_,l1,en,l2,h=>by cases l1<;>cases h
 | x :: l,bf,hc,l1,en,l2,h=>by
   simp only[SJ,oK]at hc;cases l1 with
   | nil=>cases h;simpa using P0 hc.1
   | cons y l1=>
     cases h
     have:=Hg _ (bf++[x]) (by simpa using hc.2) l1 en l2 rfl
     simpa using this
theorem Bq {ops:Array Oper}{i:Nat}:∀(l m:List Ent),Bp ops i (l++m)=true->(∃ b∈l,b.hard=true)->∃ b∈l,Tn ops b.i i=true
 | [],m,_,h=>by simp at h
 | b :: l,m,h,O=>by
   simp only[o3,Bp,ny,oK,nK]at h;rcases h with h | ⟨U,Y⟩
   ·exact⟨b,by simp,h⟩
   ·obtain⟨x,hx,I⟩:=O;rcases oL.1 hx with rfl | hx
    ·rw[U]at I;cases I
    ·obtain⟨y,hy,J⟩:=Bq l m Y ⟨x,hx,I⟩;exact⟨y,by simp[hy],J⟩
theorem Fd:∀ {l:List Nat},NU l=true->l.Nodup
 | [],_=>mO
 | k::ks,h=>by
   simp only[NU,oK,nK]at h;refine nw.2 ⟨λhc=>?_,Fd h.2⟩
   have:=h.1
   simp[hc]at this
structure Chk (ops:Array Oper) (ord:List Ent):Prop where
 len:ord.length=ops.size
 nd:(ord.map (·.i)).Nodup
 all:∀ i,i<ops.size->∃ b∈ord,b.i=i
 at_:∀ l1 en l2,ord=l1++en::l2->∃ o,Spot ops l1 en l2 o
theorem SK {ops:Array Oper}{ord:List Ent}(h:chk ops ord=true):Chk ops ord:=by
 simp only[chk,oK,mK,oc]at h;obtain⟨⟨⟨I,J⟩,O⟩,U⟩:=h;refine⟨I,Fd J,λi hi=>?_,λl1 en l2 Y=>by simpa using Hg ord [] (by simpa using U) l1 en l2 Y⟩
 have:=O i (List.mem_range.2 hi)
 simpa using this
def Ry (ops:Array Oper)(pend:Pend):List Nat:=pend.filterMap λx=>pi ops x.1
def S3 (pend:Pend):List Nat:=pend.filterMap (·.2)
theorem NQ {ops:Array Oper}{pend:Pend}{t:Nat}:t∈Ry ops pend↔∃ x∈pend,pi ops x.1=some t:=nf
theorem wX {pend:Pend}{k:Nat}:k∈S3 pend↔∃ x∈pend,x.2=some k:=nf
structure RI (P:Program) (sh:FuncId->List Sh) (ops:Array Oper) (ord:List Ent) (K:St->Prop) (av:Nat->Prop) (w0:World) (e0:Env) (N0:Option Nat)
  (done rest:List Ent) (nv pend:Pend) (listed:Array Bool) (a:Act) (w:World) (e:Env) (st:St):Prop where
 ord:ord=done++rest
 rel:Rel av w0 e0 (Ry ops pend) (S3 pend) a w e st
 pb:∀ k∈S3 pend,k<st.bx.length
 pd:∀ x∈pend,∃ en∈done,en.i=x.1/\en.hard=false
 nd:pend.Nodup
 un:∀ x∈pend,∀ y∈pend,x.1=y.1->x=y
 bu:∀ x∈pend,∀ y∈pend,∀ k,x.2=some k->y.2=some k->x=y
 pr:∀ x∈pend,YP ops P st x
 ls:listed.size=ops.size
 li:∀ i,i<ops.size->(listed.getD i false=true↔(∃ en∈done,en.i=i)/\∀ x∈pend,x.1≠i)
 nvs:∀ x∈pend,x∈nv
 lc:∀ m,listed.getD m false=true->∀ i∈G3 ops m,listed.getD i false=true
 f:Nl P sh N0 ops rest nv st K
section
variable {N0:Option Nat} {sh:FuncId->List Sh} {ops:Array Oper} {ord:List Ent} {K:St->Prop} {done rest:List Ent} {nv pend:Pend} {listed:Array Bool}
theorem Cq {i j:Nat}(O:j∈Region.ready .any ops listed)(J:Tn ops i j=true):listed.getD i false=true:=by obtain⟨_,o,U,I⟩:=mem_ready.1 O;unfold Tn at J;rw[U]at J;simp only[Array.any_eq_true,oK,mK]at J;obtain⟨n,Y,h1,h2⟩:=J;rw[<-h1];exact I _ (Array.getElem_mem Y) h2
theorem Fm {j:Nat}(J:j∈Region.ready .any ops listed):∀ i∈G3 ops j,listed.getD i false=true:=by obtain⟨_,o,O,I⟩:=mem_ready.1 J;intro i hi;simp only[G3,O,oU,mJ]at hi;obtain⟨e,⟨U,Y⟩,rfl⟩:=hi;exact I e (o8.1 U) Y
theorem QX {j:Nat} (O:j∈Region.ready .any ops listed) (h:∀ m,listed.getD m false=true->∀ i∈G3 ops m,listed.getD i false=true) :
  ∀ m,(listed.setIfInBounds j true).getD m false=true->∀ i∈G3 ops m,(listed.setIfInBounds j true).getD i false=true:=λm J i hi=>by
 refine getD_set_true ?_;by_cases I:j=m
 ·subst I;exact Fm O i hi
 ·rw[getD_set_ne false I]at J;exact h m J i hi
theorem VS (hc:Chk ops ord)(h:RI P sh ops ord K av w0 e0 N0 done rest nv pend listed a w e st){en:Ent}(I:en∈ord):en.i<ops.size:=by obtain⟨l1,l2,J⟩:=mc I;obtain⟨o,O⟩:=hc.at_ l1 en l2 J;exact(oW.1 O.op).1
theorem s8 (hc:Chk ops ord)(h:RI P sh ops ord K av w0 e0 N0 done rest nv pend listed a w e st){x:Nat × Option Nat}(J:x∈pend):listed.getD x.1 false≠true:=by obtain⟨en,O,U,_⟩:=h.pd x J;have I:=VS hc h (en:=en) (by rw[h.ord];simp[O]);rw[U]at I;intro Y;exact((h.li x.1 I).1 Y).2 x J rfl
theorem Fq (hc:Chk ops ord) (h:RI P sh ops ord K av w0 e0 N0 done rest nv pend listed a w e st) {l1 l2:List Ent} {en:Ent} {o:Oper} (hl:ord=l1++en::l2) (J:Spot ops l1 en l2 o)
  (hr:en.i∈Region.ready .any ops listed) (hp:en.hard=true->∀ x∈pend,x.1≠en.i):∀ t∈o.looksAt ops,t∉Ry ops pend:=by
 intro t O U;obtain⟨x,Y,hd⟩:=NQ.1 U;obtain⟨ex,h1,h2,h3⟩:=h.pd x Y;have I:ex∈l1++en::l2:=by rw[<-hl,h.ord];simp[h1]
 rw[<-h2]at hd;rcases oM.1 I with hm | hm
 ·have he:=Cq hr (J.pr ex hm t hd O);rw[h2]at he;exact s8 hc h Y he
 ·rcases oL.1 hm with rfl | hm
  ·refine J.se h3 t ?_ O;simpa [pi,J.op]using hd
  ·have:=(J.af ex hm t hd (.inl O)).1
   rw[h3]at this;cases this
theorem Kq {j:Nat}{d:Bool}(I:j<listed.size)(i:Nat):(listed.setIfInBounds j true).getD i false=true↔i=j\/listed.getD i false=true:=by
 by_cases h:j=i
 ·subst h;simp[I]
 ·rw[getD_set_ne false h];constructor
  ·exact .inr
  ·rintro(h1 | h1)
   ·exact absurd h1.symm h
   ·exact h1
theorem LB (hc:Chk ops ord) (h:RI P sh ops ord K av w0 e0 N0 done rest nv pend listed a w e st) {x:Nat × Option Nat} (hx:x∈pend) (hr:x.1∈Region.ready .any ops listed)
  {next:Act->World->Prop} {Q:Exit->Act->World->Prop}
  (hn:∀ a' w' e',RI P sh ops ord K av w0 e0 N0 done rest nv (pend.erase x) (listed.setIfInBounds x.1 true) a' w' e' st->next a' w'):wpOp P ops Q x.1 next a w:=by
 obtain⟨en,al,hi,hh⟩:=h.pd x hx;obtain⟨l1,l2,hl⟩:=mc (show en∈ord by rw[h.ord];simp[al]);obtain⟨o,ho⟩:=hc.at_ l1 en l2 hl;have Y:=Fq hc h hl ho (by rw[hi];exact hr) (by rw[hh];intro hc;cases hc);have ac:=ho.op;rw[hi]at ac;have hd:pi ops x.1=o.dst:=by simp[pi,ac]
 have J:∀ y,y∈pend.erase x↔y≠x/\y∈pend:=λy=>List.Nodup.mem_erase_iff h.nd;have az:x.1<listed.size:=by rw[h.ls];exact(oW.1 ac).1
 have ao:∀ i,i∈Ry ops pend->some i≠o.dst->i∈Ry ops (pend.erase x):=λi ah a6=>by obtain⟨y,O,aq⟩:=NQ.1 ah;refine NQ.2 ⟨y,(J y).2 ⟨λab=>a6 ?_,O⟩,aq⟩;subst ab;rw[<-aq,hd]
 have ae:∀ a' w' e',Rel av w0 e0 (Ry ops (pend.erase x)) (S3 (pend.erase x)) a' w' e' st->next a' w':=λa' w' e' hR=>hn a' w' e' {
  ord:=h.ord
  rel:=hR
  pb:=λk U=>by obtain⟨y,O,I⟩:=wX.1 U;exact h.pb k (wX.2 ⟨y,((J y).1 O).2,I⟩)
  pd:=λy O=>h.pd y ((J y).1 O).2
  nd:=h.nd.erase x
  un:=λy O z hz=>h.un y ((J y).1 O).2 z ((J z).1 hz).2
  bu:=λy O z hz=>h.bu y ((J y).1 O).2 z ((J z).1 hz).2
  pr:=λy O=>h.pr y ((J y).1 O).2
  ls:=by simp[h.ls]
  li := λi ah=>by
   rw[Kq (d:=false) az i];constructor
   ·rintro(rfl | h1)
    ·refine⟨⟨en,al,hi⟩,λy O ab=>?_⟩
     have:=(J y).1 O
     exact this.1 (h.un y this.2 x hx ab)
    ·have:=(h.li i ah).1 h1
     exact⟨this.1,λy O=>this.2 y ((J y).1 O).2⟩
   ·rintro⟨h1,h2⟩
    by_cases au:i=x.1
    ·exact .inl au
    ·refine .inr ((h.li i ah).2 ⟨h1,λy O aw=>?_⟩);by_cases ab:y=x
     ·subst ab;exact au aw.symm
     ·exact h2 y ((J y).2 ⟨ab,O⟩) aw
  nvs:=λy O=>h.nvs y ((J y).1 O).2
  lc:=QX hr h.lc
  f:=h.f }
 obtain⟨o',ax,U⟩:=h.pr x hx;rw[ac]at ax;cases ax;unfold wpOp;rw[ac];simp only;rcases U with⟨hw,_,r,q,h2,h3,h4,h5⟩ | ⟨hw,hb,h3⟩
 ·rw [if_pos (Li h.rel hw Y)];refine .inl ?_;have ai:∀ B f,r=.b B f->∃ k,x.2=some k:=λB f hr=>by
   subst hr;cases aa:x.2 with
   | none=>rw[aa]at h3;cases h3
   | some k=>exact⟨k,rfl⟩
  obtain⟨v,w',e',g1,g2⟩:=TC h.rel (o:=o) (r:=r) (k:=x.2.getD 0) (λy O t ht=>Y t (tf O ht)) h2 (λd a7 a8=>by
   rw[h4 d a7 a8];cases r with
   | v p=>cases aa:x.2<;>rw[aa]at h3<;>simp[TF]at h3;simp[h3]
   | b B f=>obtain⟨k,U⟩:=ai B f rfl;rw[U]at h3;simp[TF]at h3;simp[U,h3]) (λB f ay=>by
   obtain⟨k,U⟩:=ai B f ay;rw[U];exact⟨h5 B f k ay U,wX.2 ⟨x,hx,U⟩⟩) ao
  unfold Oper.wp;rw[g1,Oper.upon_value];refine ae _ _ _ (qr g2 (λk=>?_) λ_=>id);cases r with
  | v p=>
    have aa:x.2=none:=by cases aa:x.2<;>rw[aa]at h3<;>simp[TF]at h3<;>rfl
    simp only[Res.isB,mE,na];constructor
    ·intro U;obtain⟨y,O,I⟩:=wX.1 U;exact wX.2 ⟨y,((J y).1 O).2,I⟩
    ·intro U;obtain⟨y,O,I⟩:=wX.1 U;exact wX.2 ⟨y,(J y).2 ⟨λhc=>(by rw[hc,aa]at I;cases I),O⟩,I⟩
  | b B f=>
    obtain⟨k0,aj⟩:=ai B f rfl;simp only[Res.isB,mF,aj,nB,mJ,oe,ne_eq];constructor
    ·intro U;obtain⟨y,O,I⟩:=wX.1 U
     have:=(J y).1 O
     exact⟨wX.2 ⟨y,this.2,I⟩,λak=>this.1 (h.bu y this.2 x hx k I (by rw[aj,ak]))⟩
    ·rintro⟨U,ak⟩
     obtain⟨y,O,I⟩:=wX.1 U;exact wX.2 ⟨y,(J y).2 ⟨λhc=>(by rw[hc,aj]at I;cases I;exact ak rfl),O⟩,I⟩
 ·rw[if_neg (by rw[K8 h.rel hw Y];simp)];have h4:=xm h.rel (dst:=o.dst) GD ao;rw[St.put_same h3]at h4;refine ae _ _ _ (qr h4 (λk=>?_) λ_=>id);constructor
  ·intro U;obtain⟨y,O,I⟩:=wX.1 U;exact wX.2 ⟨y,((J y).1 O).2,I⟩
  ·intro U;obtain⟨y,O,I⟩:=wX.1 U;exact wX.2 ⟨y,(J y).2 ⟨λhc=>(by rw[hc,hb]at I;cases I),O⟩,I⟩
theorem uy {l1 l2:List Ent}{en:Ent}(h:((l1++en::l2).map (·.i)).Nodup):∀ x∈l1,x.i≠en.i:=by intro x I hc;rw[mr,nS]at h;exact h.2.2 x.i (oU.2 ⟨x,I,rfl⟩) en.i (by simp) hc
theorem Fp (hc:Chk ops ord) {en:Ent} (hh:en.hard=false) (h:RI P sh ops ord K av w0 e0 N0 done (en::rest) nv pend listed a w e st) :
  ∃ b nv' e' st',RI P sh ops ord K av w0 e0 N0 (done++[en]) rest nv' ((en.i,b)::pend) listed a w e' st':=by
 obtain⟨o,ho⟩:=hc.at_ done en rest h.ord;have ai:=hc.nd;rw[h.ord]at ai;have O:∀ x∈pend,x.1≠en.i:=λx hx=>by obtain⟨ex,h1,Y,_⟩:=h.pd x hx;rw[<-Y];exact uy ai ex h1
 have hf:=h.f;simp only[Nl,ho.op,hh]at hf;have fin:∀(b:Option Nat) (nv':Pend) (e':Env) (st':St),nv'=(en.i,b)::nv->Rel av w0 e0 (Ry ops ((en.i,b)::pend)) (S3 ((en.i,b)::pend)) a w e' st'->(∀ k,b=some k->st.bx.length<=k/\k<st'.bx.length)->Stp [] [] o.dst st st' ->
   Vn ops P st' o b->Nl P sh N0 ops rest nv' st' K->RI P sh ops ord K av w0 e0 N0 (done++[en]) rest nv' ((en.i,b)::pend) listed a w e' st':=λb nv' e' st' az hR hb I hK hF=>{
  ord:=by rw[h.ord];simp
  rel:=hR
  pb:=λk J=>by
   obtain⟨y,hy,aa⟩:=wX.1 J;rcases oL.1 hy with rfl | hy
   ·exact(hb k aa).2
   ·exact o6 (h.pb k (wX.2 ⟨y,hy,aa⟩)) I.bl
  pd:=λx hx=>by
   rcases oL.1 hx with rfl | hx
   ·exact⟨en,by simp,rfl,hh⟩
   ·obtain⟨ex,h1,Y⟩:=h.pd x hx;exact⟨ex,by simp[h1],Y⟩
  nd:=nw.2 ⟨λhm=>O _ hm rfl,h.nd⟩
  un:=λx hx y hy aj=>by
   rcases oL.1 hx with rfl | hx<;>rcases oL.1 hy with rfl | hy
   ·rfl
   ·exact absurd aj.symm (O y hy)
   ·exact absurd aj (O x hx)
   ·exact h.un x hx y hy aj
  bu:=λx hx y hy k ak aa=>by
   rcases oL.1 hx with rfl | hx<;>rcases oL.1 hy with rfl | hy
   ·rfl
   ·have:=(hb k ak).1;have:=h.pb k (wX.2 ⟨y,hy,aa⟩);omega
   ·have:=(hb k aa).1;have:=h.pb k (wX.2 ⟨x,hx,ak⟩);omega
   ·exact h.bu x hx y hy k ak aa
  pr:=λx hx=>by
   rcases oL.1 hx with rfl | hx
   ·exact⟨o,ho.op,hK⟩
   ·obtain⟨ox,au,a6⟩:=h.pr x hx;refine⟨ox,au,Ec a6 I (λ_ h=>h) (.inl Eg) λd hd=>?_⟩;obtain⟨ex,h1,Y,h3⟩:=h.pd x hx;obtain⟨m1,m2,hm⟩:=mc h1;obtain⟨a7,aw⟩:=hc.at_ m1 ex (m2++en::rest) (by rw[h.ord,hm];simp);have:a7=ox:=by have:=aw.op;rw[Y,au]at this;exact(oX this).symm
    subst this;have ax:=aw.af en (by simp) d (by simp[pi,ho.op,hd]);refine⟨λhc=>?_,λhc=>?_⟩
    ·have:=(ax (.inl hc)).1;rw[hh]at this;cases this
    ·have:=(ax (.inr hc)).1;rw[hh]at this;cases this
  ls:=h.ls
  li:=λi hi=>by
   rw[h.li i hi];constructor
   ·rintro⟨⟨x,h1,Y⟩,h3⟩
    refine⟨⟨x,by simp[h1],Y⟩,λy hy=>?_⟩;rcases oL.1 hy with rfl | hy
    ·simp only;rw[<-Y];exact(uy ai x h1).symm
    ·exact h3 y hy
   ·rintro⟨⟨x,h1,Y⟩,h3⟩
    refine⟨⟨x,?_,Y⟩,λy hy=>h3 y (by simp[hy])⟩;rcases oM.1 h1 with h1 | h1
    ·exact h1
    ·simp at h1;subst h1;exact absurd Y (h3 (x.i,b) (by simp))
  nvs:=λx hx=>by
   subst az;rcases oL.1 hx with rfl | hx
   ·simp
   ·simp[h.nvs x hx]
  lc:=h.lc
  f:=hF }
 have ab:∀ b,Ry ops ((en.i,b)::pend)=o.dst.toList++Ry ops pend:=λb=>by simp only[Ry,mC,pi,ho.op,oO];cases o.dst<;>rfl
 have al:=ho.se hh;rcases IE hf with⟨hw,hf⟩ | ⟨hw,hf⟩
 ·split at hf
  rotate_left
  ·exact hf.elim
  rename_i hb;simp only[oK]at hb;obtain⟨bc,a8⟩:=hb;obtain⟨r,hK,hr⟩:=Qc _ hf;have hr:=hr (λq=>q=r) rfl;have hR:=TD h.rel o.dst r;have I:Stp [] [] o.dst st (st.push o.dst r):=Nt;have ay:∀ y∈o.op.operands,∀ k∈(opd st.sl y).refs,k<st.bx.length:=λy hy k J=>by
   have:=oc.1 (oc.1 a8 y (o8.2 hy)) k J
   simpa using this
  have ah:∀ y∈o.op.operands,opd (st.push o.dst r).sl y=opd st.sl y:=λy hy=>by
   cases y with
   | tmp t=>
     have ae:o.dst≠some t:=λhc=>al t hc (tf hy rfl);simp only[opd];rw[oA,oA];cases hp:st.sl[t]? with
     | none=>have:(st.push o.dst r).sl[t]?=none:=ob (by rw[I.ll];exact mH.1 hp);rw[this]
     | some p=>rw[I.sl t p (λhc=>ae hc.symm) hp (by simp)]
   | _=>rfl
  have ao:Vq ops o (st.push o.dst r):=λg ac hg=>by obtain⟨og,d,h1,Y,h3⟩:=hw g ac hg;exact⟨og,d,h1,Y,I.sl d _ (λhc=>al d hc.symm (by simp[Oper.looksAt,hg,h1,Y])) h3 (by simp)⟩
  have ba:∀ k,k<st.bx.length->(st.push o.dst r).bx[k]?=st.bx[k]?:=λk J=>by rw[I.bx k _ (oI J) (by simp) (by simp),oI J]
  have aq:∀ d q,o.dst=some d->d<(st.push o.dst r).sl.length->TF r (r.bk st.bx.length)=some q->(st.push o.dst r).sl[d]?=some q:=λd q hd U hq=>by
   rw[I.ll]at U;cases r with
   | v p=>simp[Res.bk,TF]at hq;subst hq;simp[St.push,St.put,hd,U]
   | b B f=>simp[Res.bk,TF]at hq;subst hq;simp[St.push,St.put,hd,U]
  refine⟨r.bk st.bx.length,(en.i,r.bk st.bx.length)::nv,(if r.isB then e++[none]else e),_,fin _ _ _ _ rfl ?_ ?_ I (.inl ⟨ao,?_,r,?_⟩) hK⟩
  ·rw[ab];refine qr hR (λk=>?_) λ_=>id;cases r with
   | v p=>simp[Res.isB,Res.bk,S3]
   | b B f=>simp[Res.isB,Res.bk,S3]
  ·intro k J;cases r with
   | v p=>cases J
   | b B f=>simp[Res.bk]at J;subst J;refine⟨oC _,?_⟩;cases o.dst<;>simp[St.push,St.put]
  ·intro y hy k J;rw[ah y hy]at J
   have:=ay y hy k J
   exact o6 this I.bl
  ·have hq:∃ q,TF r (r.bk st.bx.length)=some q:=by cases r<;>simp[Res.bk,TF]
   obtain⟨q,hq⟩:=hq;refine⟨q,?_,hq,λd hd U=>aq d q hd U hq,λB f k bb J=>?_⟩
   ·rw[Fc (ρ:=opd st.sl) (rb:=λk=>st.bx[k]?) ah λy hy k J=>ba k (ay y hy k J)];exact hr
   ·subst bb;simp[Res.bk]at J;subst J;cases o.dst<;>simp[St.push,St.put]
 ·have I:Stp [] [] o.dst st (st.put o.dst (.tp [])):=Stp.put Stp.rfl' _;refine⟨none,(en.i,none)::nv,e,st.put o.dst (.tp []),fin _ _ _ _ rfl ?_ (λk J=>by cases J) I (.inr ⟨?_,rfl,λd hd U=>?_⟩) hf⟩
  ·rw[ab];exact qr (JK h.rel) (λk=>by simp[S3]) λ_=>id
  ·obtain⟨g,ac,og,d,g1,g2,g3,g4⟩:=hw;have ae:some d≠o.dst:=λhc=>al d hc.symm (by simp[Oper.looksAt,g1,g2,g3]);refine⟨g,ac,og,d,g1,g2,g3,?_⟩;rcases g4 with g4 | g4
   ·exact .inl (I.sl d _ ae g4 (by simp))
   ·exact .inr (I.sl d _ ae g4 (by simp))
  ·rw[I.ll]at U;simp[St.put,hd,U]
theorem Fo (hc:Chk ops ord):∀(pre rest done:List Ent) (nv pend:Pend) (e:Env) (st:St),(∀ en∈pre,en.hard=false)->RI P sh ops ord K av w0 e0 N0 done (pre++rest) nv pend listed a w e st ->
  ∃ nv' I e' st',RI P sh ops ord K av w0 e0 N0 (done++pre) rest nv' I listed a w e' st'/\I.length=pend.length+pre.length
 | [],rest,done,nv,pend,e,st,_,h=>⟨nv,pend,e,st,by simpa using h,rfl⟩
 | en::pre,rest,done,nv,pend,e,st,U,h=>by obtain⟨b,J,e1,O,Y⟩:=Fp hc (U en (by simp)) h;obtain⟨nv',I,e',st',h2,h3⟩:=Fo hc pre rest (done++[en]) J _ e1 O (λx hx=>U x (by simp[hx])) Y;exact⟨nv',I,e',st',by simpa using h2,by rw[h3];simp;omega⟩
theorem PN (bh:NOk N0 w0) (hc:Chk ops ord) {Q:Exit->Act->World->Prop} (hQ:∀ a w e st,K st->Rel av w0 e0 [] [] a w e st->Q .normal a w) :
  ∀ (Y:Nat) (done rest:List Ent) (nv pend:Pend) (listed:Array Bool) (a:Act) (w:World) (e:Env) (st:St),RI P sh ops ord K av w0 e0 N0 done rest nv pend listed a w e st->Y=rest.length+pend.length ->
    wpAny P .any ops Q Y listed a w:=by
 have fin:∀(done rest:List Ent) (nv pend:Pend) (listed:Array Bool) (a:Act) (w:World) (e:Env) (st:St),RI P sh ops ord K av w0 e0 N0 done rest nv pend listed a w e st->rest=[]->pend=[]->Q .normal a w:=by intro done rest nv pend listed a w e st h hr hp;subst hr;subst hp;exact hQ a w e st h.f h.rel
 have prog:∀(done rest:List Ent) (nv pend:Pend) (listed:Array Bool) (a:Act) (w:World) (e:Env) (st:St),RI P sh ops ord K av w0 e0 N0 done rest nv pend listed a w e st->Region.ready .any ops listed=[]->rest=[]/\pend=[]:=by
  intro done rest nv pend listed a w e st h hr
  have key:∀(l1 l2:List Ent),ord=l1++l2->∀ en∈l1,listed.getD en.i false=true:=by
   intro l1
   suffices ∀ n,∀ l1 l2:List Ent,l1.length=n->ord=l1++l2->∀ en∈l1,listed.getD en.i false=true from λl2=>this l1.length l1 l2 rfl
   intro n
   induction n with
   | zero=>intro l1 l2 hl _ en O;simp at hl;subst hl;simp at O
   | succ n ih=>
     intro l1 l2 hl ho en O;rcases List.eq_nil_or_concat l1 with rfl | ⟨m,x,rfl⟩
     ·simp at hl
     ·rw [List.concat_eq_append]at hl ho O;simp only[oH,oJ,oN]at hl;have hm:=ih m (x::l2) (by omega) (by rw[ho];simp);rcases oM.1 O with h1 | h1
      ·exact hm en h1
      ·simp at h1;subst h1;obtain⟨o,hs⟩:=hc.at_ m en l2 (by rw[ho];simp);cases ak:listed.getD en.i false with
       | true=>rfl
       | false=>
         exfalso;have U:=(oW.1 hs.op).1;have:en.i∈Region.ready .any ops listed:=mem_ready.2 ⟨by
          rw[o9]at ak ⊢;rw[ou (by rw[h.ls];exact U)]at ak ⊢;exact ak,o,hs.op,λe he hb=>by
          obtain⟨b,bi,bj⟩:=hs.ed e he hb;rw[<-bj];exact hm b bi⟩
         rw[hr]at this;simp at this
  have ay:=key ord [] (by simp);have az:∀ en∈ord,(∃ x∈done,x.i=en.i)/\∀ x∈pend,x.1≠en.i:=λen O=>(h.li en.i (VS hc h O)).1 (ay en O);constructor
  ·cases al:rest with
   | nil=>rfl
   | cons en l=>exfalso;have ho:=h.ord;rw[al]at ho;obtain⟨⟨x,J,bm⟩,_⟩:=az en (by rw[ho];simp);have ai:=hc.nd;rw[ho]at ai;exact uy ai x J bm
  ·cases ae:pend with
   | nil=>rfl
   | cons x l=>exfalso;obtain⟨en,h1,h2,_⟩:=h.pd x (by rw[ae];simp);exact(az en (by rw[h.ord];simp[h1])).2 x (by rw[ae];simp) h2.symm
 intro Y
 induction Y with
 | zero=>
   intro done rest nv pend listed a w e st h hf;have h1:rest=[]:=oV (by omega);have h2:pend=[]:=oV (by omega);refine⟨?_,fin _ _ _ _ _ _ _ _ _ h h1 h2⟩;subst h1;subst h2;cases hr:Region.ready .any ops listed with
   | nil=>rfl
   | cons j l=>
     exfalso;have hj:j∈Region.ready .any ops listed:=by rw[hr];simp
     obtain⟨g1,o,g2,_⟩:=mem_ready.1 hj;have U:=(oW.1 g2).1;obtain⟨b,hb,bn⟩:=hc.all j U;have ho:=h.ord;rw[o7]at ho
     have:=(h.li j U).2 ⟨⟨b,by rw[<-ho];exact hb,bn⟩,by simp⟩
     rw[o9]at this g1;rw[ou (by rw[h.ls];exact U)]at this g1;simp only[nB]at this g1;rw[this]at g1;cases g1
 | succ Y ih=>
   intro done rest nv pend listed a w e st h hf;refine⟨λhr=>by obtain⟨h1,h2⟩:=prog _ _ _ _ _ _ _ _ _ h hr;exact fin _ _ _ _ _ _ _ _ _ h h1 h2,λj hj=>?_⟩;by_cases a6:∃ x∈pend,x.1=j
   ·obtain⟨x,J,rfl⟩:=a6;refine LB hc h J hj λa' w' e' I=>ih _ _ _ _ _ _ _ _ _ I ?_
    have:=List.length_erase_of_mem J
    have:=List.length_pos_of_mem J
    omega
   ·have bp:∀ x∈pend,x.1≠j:=λx J hc=>a6 ⟨x,J,hc⟩;obtain⟨g1,oj,g2,g3⟩:=mem_ready.1 hj;have U:=(oW.1 g2).1;obtain⟨en,O,hi⟩:=hc.all j U;have bq:listed.getD j false=false:=by rw[o9]at g1 ⊢;rw[ou (by rw[h.ls];exact U)]at g1 ⊢;exact g1
    have ai:∀ x∈done,x.i≠j:=λx J bt=>by
     have:=(h.li j U).2 ⟨⟨x,J,bt⟩,bp⟩
     rw[bq]at this;cases this
    have bv:en∈rest:=by
     rw[h.ord]at O;rcases oM.1 O with h1 | h1
     ·exact absurd hi (ai en h1)
     ·exact h1
    obtain⟨pre,post,ah⟩:=mc bv;obtain⟨o,hs⟩:=hc.at_ (done++pre) en post (by rw[h.ord,ah];simp);have a7:∀ b∈pre,b.hard=false:=by
     intro b hb;cases bw:b.hard with
     | false=>rfl
     | true=>
       exfalso;have a8:=hs.hd;rw[List.reverse_append]at a8;obtain⟨x,J,ao⟩:=Bq pre.reverse done.reverse a8 ⟨b,mX.2 hb,bw⟩;have bz:=Cq (by rw[hi];exact hj) ao;have b3:x∈ord:=by rw[h.ord,ah];simp[mX.1 J]
       obtain⟨⟨y,hy,b7⟩,_⟩:=(h.li x.i (VS hc h b3)).1 bz;have aa:=hc.nd;obtain⟨q1,q2,hq⟩:=mc (mX.1 J);have ho:ord=(done++q1)++x::(q2++en::post):=by rw[h.ord,ah,hq];simp
       rw[ho]at aa;exact uy aa y (by simp[hy]) b7
    rw[ah]at h;obtain⟨nv',ab,e',st',I,ce⟩:=Fo hc pre (en::post) done nv pend e st a7 h;have cf:rest.length=pre.length+(post.length+1):=by rw[ah];simp
    cases hh:en.hard with
    | false=>
      obtain⟨b,cg,e2,st2,h2⟩:=Fp hc hh I;have b8:(en.i,b).1∈Region.ready .any ops listed:=by rw[<-hi]at hj;exact hj
      rw[<-hi];refine LB hc h2 (x:=(en.i,b)) (by simp) b8 λa' w' e' h3=>ih _ _ _ _ _ _ _ _ _ h3 ?_;rw[List.length_erase_of_mem (by simp)];simp only[oJ];omega
    | true=>
      have aj:∀ x∈ab,x.1≠en.i:=λx J ao=>by obtain⟨ex,k1,k2,_⟩:=I.pd x J;have aa:=hc.nd;rw[I.ord]at aa;exact uy aa ex k1 (by rw[k2,ao])
      have aq:=Fq hc I I.ord hs (by rw[hi];exact hj) (λ_=>aj);have ba:=I.f;simp only[Nl,hs.op,hh]at ba;rw[<-hi];have au:∀ x∈ab,x∈JU ops en.i nv':=λx J=>by
       have bb:=I.nvs x J;unfold JU;split
       ·simp at bb
       ·refine mJ.2 ⟨bb,?_⟩;cases b9:(UU ops 1000 (G3 ops en.i) []).contains x.1 with
        | false=>rfl
        | true=>
          have hm:x.1∈UU ops 1000 (G3 ops en.i) []:=by simpa using b9
          exact absurd (Ib (A:=λk=>listed.getD k false=true) I.lc 1000 _ [] (Fm (by rw[hi];exact hj)) (by simp) x.1 hm) (s8 hc I J)
      refine Kl I.rel bh I.pb (pf:=JU ops en.i nv') (λt ht=>by
       obtain⟨x,J,hd⟩:=NQ.1 ht;exact⟨x,au x J,hd⟩) (λk hk=>by
       obtain⟨x,J,hd⟩:=wX.1 hk;exact⟨x,au x J,hd⟩) hs.op aq ba λv w' e2 st2 k1 k0 k2 k3=>?_
      refine ih (done++pre++[en]) post nv' ab _ _ _ e2 st2 {
       ord:=by rw[I.ord];simp
       rel:=k3
       pb:=λk hk=>o6 (I.pb k hk) k0
       pd:=λx J=>by obtain⟨ex,m1,m2⟩:=I.pd x J;exact⟨ex,by simp at m1 ⊢;rcases m1 with m1 | m1<;>simp[m1],m2⟩
       nd:=I.nd
       un:=I.un
       bu:=I.bu
       pr:=λx J=>by
        obtain⟨ox,aw,ca⟩:=I.pr x J;refine⟨ox,aw,k2 x (au x J) ox aw ca λd hd=>?_⟩;obtain⟨ex,m1,m2,m3⟩:=I.pd x J;obtain⟨q1,q2,hq⟩:=mc m1;obtain⟨ax,bc⟩:=hc.at_ q1 ex (q2++en::post) (by rw[I.ord,hq];simp);have:ax=ox:=by have:=bc.op;rw[m2,aw]at this;exact(oX this).symm
        subst this;have cc:=bc.af en (by simp) d (by simp[pi,hs.op,hd]);have bd:∀ ac:(d∈ax.looksAt ops\/ax.dst=some d),False:=λac=>by have he:=(cc ac).2;rw[m2]at he;exact s8 hc I J (Cq (by rw[hi];exact hj) he)
        exact⟨λac=>bd (.inl ac),λac=>bd (.inr ac)⟩
       ls:=by simp[I.ls]
       li := λi bg=>by
        have cd:en.i<listed.size:=by rw[I.ls,hi];exact U
        rw[Kq (d:=false) cd i];constructor
        ·rintro(rfl | m1)
         ·exact⟨⟨en,by simp,rfl⟩,aj⟩
         ·obtain⟨⟨x,m2,m3⟩,m4⟩:=(I.li i bg).1 m1;exact⟨⟨x,by simp at m2 ⊢;rcases m2 with m2 | m2<;>simp[m2],m3⟩,m4⟩
        ·rintro⟨⟨x,m1,m2⟩,m3⟩
         rcases oM.1 m1 with m1 | m1
         ·exact .inr ((I.li i bg).2 ⟨⟨x,m1,m2⟩,m3⟩)
         ·simp at m1;subst m1;exact .inl m2.symm
       nvs:=I.nvs
       lc:=QX (by rw[hi];exact hj) I.lc
       f:=k1 } ?_
      omega
end
theorem O1 {N0:Option Nat} (J:NOk N0 w0) {sh:FuncId->List Sh} {id:Nat} {ops:Array Oper} {ord:List Ent} {K:St->Prop} {Q:Exit->Act->World->Prop} (I:P.follows .mixedOrders=true) (hc:chk ops ord=true)
  (h:Rel av w0 e0 [] [] a w e st) (hs:Nl P sh N0 ops ord [] st K) (U:∀ a w e st,K st->Rel av w0 e0 [] [] a w e st->Q .normal a w):(Code.region id ops true).wp P Q a w:=by
 have O:=SK hc;refine wp_region_any I ?_;have Y:Rel av w0 e0 [] [] a { w with drawn:=w.drawn+1 } e st:=W0 (Nn h (w':={ w with drawn:=w.drawn+1 }) (oC _) (λ_ _=>rfl) λb c t z hb hc=>by have:=(oW.1 hc).1;simp at this;omega) h.hN;refine PN J O U ops.size [] ord [] [] _ a _ e st {
  ord:=rfl
  rel:=Y
  pb:=by simp[S3]
  pd:=by simp
  nd:=mO
  un:=by simp
  bu:=by simp
  pr:=by simp
  ls:=by simp
  li:=λi hi=>by simp[hi]
  nvs:=by simp
  lc:=λm I=>by exfalso;rw[o9,Array.getElem?_replicate]at I;split at I<;>simp at I
  f:=hs } (by simp[O.len])
variable {av:Nat->Prop} {P:Program} {w0 w w':World} {e0 e:Env} {pS pS' pB pB':List Nat} {a:Act} {st st':St}
def XR (w:World)(e:Env)(live:Nat->Prop)(p q:PV):Prop:=q=.any\/(p≠.any/\p.val e=q.val e/\(p.Ok w live->q.Ok w live)/\∀ k∈q.refs,k∈p.refs)
theorem RH (h:Rel av w0 e0 pS pB a w e st) {O:List PV} (hl:O.length<=st.sl.length)
  (hs:∀(i:Nat) (q:PV),O[i]?=some q->q=.any\/∃ p,st.sl[i]?=some p/\XR w e (zY av pB e st.bx) p q):Rel av w0 e0 pS pB a w e { st with sl:=O }:={
 h with
 nd:=h.nd
 sz:=oR hl h.sz
 hs:=λi q hi U=>by
  rcases hs i q hi with I | ⟨p,I,J | ⟨J,Y,h4,h5⟩⟩
  ·exact .inl I
  ·exact .inl J
  ·exact .inr (((h.hs i p I U).resolve_left J).trans Y)
 so:=λi q hi U=>by
  rcases hs i q hi with I | ⟨p,I,J | ⟨J,Y,h4,h5⟩⟩
  ·subst I;trivial
  ·subst J;trivial
  ·exact h4 (h.so i p I U)
 sr:=λi q hi U k hk=>by
  rcases hs i q hi with I | ⟨p,I,J | ⟨J,Y,h4,h5⟩⟩
  ·subst I;simp[PV.refs]at hk
  ·subst J;simp[PV.refs]at hk
  ·exact h.sr i p I U k (h5 k hk) }
def MM (p:PV):PV:=match p with
 | .pg cs=>match JR cs with
   | some ds=>.dg cs.length (.ag ds)
   | none=>.pg cs
 | p=>p
theorem Hy {live:Nat->Prop}{p:PV}(I:p.Ok w live):XR w e live p (MM p):=by
 have same:∀ p:PV,XR w e live p p:=λp=>by
  by_cases O:p=.any
  ·exact .inl O
  ·exact .inr ⟨O,rfl,id,λ_=>id⟩
 cases p
 case pg cs=>
  simp only[MM];split
  ·rename_i ds J;simp only[PV.Ok]at I;have U:=sX (e:=e) J I.1;exact .inr ⟨by simp,by rw[show(PV.pg cs).val e=(PV.pg cs).val1 e from rfl];exact((Rg J I.1 (e:=e)).symm.trans rfl),λ_=>⟨Good.ag λd hd=>(U.1 d hd).1,ds,rfl,tA J,λd hd=>(U.1 d hd).2⟩,by simp[PV.refs]⟩
  ·exact same _
 all_goals exact same _
def Ko (ks:List Nat):Nat->List PV->List PV
 | _,[]=>[]
 | i,p::ps=>(match ks.contains i with
   | true=>MM p
   | false=>.any)::Ko ks (i+1) ps
theorem DY {ks:List Nat}:∀(l:List PV)(i:Nat),(Ko ks i l).length=l.length
 | [],i=>rfl
 | p::l,i=>by simp[Ko,DY l]
theorem Kp {ks:List Nat}:∀(l:List PV)(i j:Nat)(q:PV),(Ko ks i l)[j]?=some q->∃ p,l[j]?=some p/\(q=.any\/q=MM p)
 | [],i,j,q,h=>by simp[Ko]at h
 | p :: l,i,j,q,h=>by
   cases j with
   | zero=>
     simp only[Ko,lC,oh]at h;refine⟨p,rfl,?_⟩;split at h
     ·exact .inr h.symm
     ·exact .inl h.symm
   | succ j=>simp only[Ko,nj]at h ⊢;exact Kp l (i+1) j q h
def St.keep (st:St)(ks:List Nat):St:={ st with sl:=Ko ks 0 st.sl }
theorem RF (h:Rel av w0 e0 [] pB a w e st)(ks:List Nat):Rel av w0 e0 [] pB a w e (st.keep ks):=
 RH h (by rw[DY];exact oC _) λi q hi=>by
  obtain⟨p,I,h2 | h2⟩:=Kp _ _ _ _ hi
  ·exact .inl h2
  ·subst h2;exact .inr ⟨p,I,Hy (h.so i p I (by simp))⟩
def St.nils (st:St):List (Nat × TypeId × Nat)->St
 | []=>st
 | (t,ty,z)::l=>match st.sl[t]? with
   | some (.sv none _ [] 0)=>St.nils { st with sl:=st.sl.set t (.sb st.bx.length z 0 0 0),bx:=st.bx++[.arr ty z [] 0] } l
   | _=>St.nils st l
theorem JL:∀(l:List (Nat × TypeId × Nat)) (e:Env) (st:St),Rel av w0 e0 [] [] a w e st->∃ e',Rel av w0 e0 [] [] a w e' (st.nils l)
 | [],e,st,h=>⟨e,h⟩
 | (t, ty,z)::l,e,st,h=>by
   simp only[St.nils];split
   ·rename_i zz ht;have I:=pV h (el:=ty) (z:=z) (by simp);have O:Env.at (e++[none]) st.bx.length=none:=by rw[<-h.el];exact Env.at_append_eq
    have h2:Rel av w0 e0 [] [] a w (e++[none]) { st with sl:=st.sl.set t (.sb st.bx.length z 0 0 0),bx:=st.bx++[.arr ty z [] 0] }:={
     I with
     nd:=I.nd
     sz:=by simp;exact I.sz
     hs := λi q hi J=>by
      simp only[nR]at hi;split at hi
      ·rename_i U;subst U;split at hi
       ·simp at hi;subst hi
        have:=(I.hs t _ ht (by simp)).resolve_left (by simp)
        right;rw[this];simp[PV.val,PV.val1,PV.cv,O]
       ·cases hi
      ·exact I.hs i q hi J
     so:=λi q hi J=>by
      simp only[nR]at hi;split at hi
      ·split at hi
       ·simp at hi;subst hi;trivial
       ·cases hi
      ·exact I.so i q hi J
     sr:=λi q hi J k Y=>by
      simp only[nR]at hi;split at hi
      ·split at hi
       ·simp at hi;subst hi;simp[PV.refs]at Y;subst Y;simp
       ·cases hi
      ·exact I.sr i q hi J k Y }
    exact JL l _ _ h2
   ·exact JL l e st h
theorem RC (h:Rel av w0 e0 [] [] a w e st) {k:Nat} {cs cs':List PV} (hk:st.bx[k]?=some (.var cs)) (hl:cs'.length=cs.length)
  (hc:∀(i:Nat) (p:PV),cs'[i]?=some p->cs[i]?=some p\/∃ q,cs[i]?=some q/\q≠.any/\p.cv e=q.cv e/\(∀ live,p.Ok w live)/\p.isC/\∀ r∈p.refs,r<st.bx.length) :
  Rel av w0 e0 [] [] a w e { st with bx:=st.bx.set k (.var cs') }:=by
 have hkl:=(oD.1 hk).1;have hget:∀(j:Nat) (B:Bx),(st.bx.set k (.var cs'))[j]?=some B->(j=k/\B=.var cs')\/(j≠k/\st.bx[j]?=some B):=fun j B hj=>by
  rw[nR]at hj;split at hj
  ·rename_i hkj
   first
    | (cases hj;exact .inl ⟨hkj.symm,rfl⟩)
    | (split at hj
       ·cases hj;exact .inl ⟨hkj.symm,rfl⟩
       ·cases hj)
  ·rename_i hkj;exact .inr ⟨fun hc=>hkj hc.symm,hj⟩
 have hlv:∀ j b,Lives [] e (st.bx.set k (.var cs')) j b↔Lives [] e st.bx j b:=fun j b=>by
  constructor
  ·rintro⟨h1,h2,B,h3,h4⟩
   rcases hget j B h3 with⟨rfl,rfl⟩ | ⟨h5,h6⟩
   ·exact⟨h1,h2,_,hk,by simp⟩
   ·exact⟨h1,h2,B,h6,h4⟩
  ·rintro⟨h1,h2,B,h3,h4⟩
   by_cases hjk:j=k
   ·subst hjk;exact⟨h1,h2,.var cs',by rw[nA hkl],by simp⟩
   ·exact⟨h1,h2,B,by rw[nE (Ne.symm hjk)];exact h3,h4⟩
 have hlive:∀ b,zY av [] e (st.bx.set k (.var cs')) b->zY av [] e st.bx b:=fun b hb=>hb.imp id fun⟨j,hj⟩=>⟨j,(hlv j b).1 hj⟩
 have hok:=h.bo k _ hk (by simp);obtain⟨ho1,ho2⟩:=hok;rw[PV.OkL_iff]at ho1;exact { h with
  el:=by simp;exact h.el
  br := fun j B hj hn=>by
   rcases hget j B hj with⟨rfl,rfl⟩ | ⟨_,h6⟩
   ·obtain⟨b,c,t,g1,g2,g3,g4⟩:=h.br _ _ hk (by simp);refine⟨b,c,t,g1,g2,by rw[g3,hl],fun i p hp=>?_⟩;rcases hc i p hp with h7 | ⟨q,h7,h8,h9,_⟩
    ·exact g4 i p h7
    ·rcases g4 i q h7 with h10 | h10
     ·exact absurd h10 h8
     ·exact .inr (by rw[h9];exact h10)
   ·exact h.br j B h6 hn
  bo := fun j B hj hn=>by
   rcases hget j B hj with⟨rfl,rfl⟩ | ⟨_,h6⟩
   ·refine⟨PV.OkL_iff.2 fun p hp=>?_,fun p hp=>?_⟩
    ·obtain⟨i,hi⟩:=oS.1 hp;rcases hc i p hi with h7 | ⟨q,_,_,_,h9,_⟩
     ·exact PV.Ok.mono (fun _ _ _=>rfl) (oC _) (fun b _=>hlive b) p (ho1 p (oB h7))
     ·exact h9 _
    ·obtain⟨i,hi⟩:=oS.1 hp;rcases hc i p hi with h7 | ⟨q,_,_,_,_,h9,_⟩
     ·exact ho2 p (oB h7)
     ·exact .inr h9
   ·exact(h.bo j B h6 hn).mono (fun _ _ _=>rfl) (oC _) fun b _=>hlive b
  bf:=fun j B hj hn i hi=>by
   refine⟨by simp,?_⟩;rw[nX];rcases hget j B hj with⟨rfl,rfl⟩ | ⟨_,h6⟩
   ·simp only[Bx.refs]at hi;obtain⟨p,hp,hip⟩:=PV.refsL_mem.1 hi;obtain⟨n,hn⟩:=oS.1 hp;rcases hc n p hn with h7 | ⟨q,_,_,_,_,_,h9⟩
    ·exact(h.bf _ _ hk (by simp) i (by simp only[Bx.refs];exact PV.refsL_mem.2 ⟨p,oB h7,hip⟩)).2
    ·exact h9 i hip
   ·exact(h.bf j B h6 hn i hi).2
  inj:=fun i j b hi hj=>h.inj i j b ((hlv i b).1 hi) ((hlv j b).1 hj)
  so:=fun i p hp hn=>PV.Ok.mono (fun _ _ _=>rfl) (oC _) (fun b _=>hlive b) p (h.so i p hp hn)
  sr:=fun i p hp hn r hr=>by rw[nX];exact h.sr i p hp hn r hr
  own:=fun j b hj=>h.own j b ((hlv j b).1 hj)
  avn:=fun j b hj=>h.avn j b ((hlv j b).1 hj) }
def St.bnils (st:St):List (Nat × Nat × TypeId × Nat)->St
 | []=>st
 | (t, j,ty,z)::l=>match st.sl[t]? with
   | some (.pb k _ _ _)=>match st.bx[k]? with
     | some (.var cs)=>match cs[j]? with
       | some (.sv none _ [] 0)=>St.bnils { st with bx:=List.set (st.bx++[Bx.arr ty z [] 0]) k (Bx.var (cs.set j (PV.sb st.bx.length z 0 0 0))) } l
       | _=>St.bnils st l
     | _=>St.bnils st l
   | _=>St.bnils st l
theorem qq:∀(l:List (Nat × Nat × TypeId × Nat)) (e:Env) (st:St),Rel av w0 e0 [] [] a w e st->∃ e',Rel av w0 e0 [] [] a w e' (st.bnils l)
 | [],e,st,h=>⟨e,h⟩
 | (t, j,ty,z)::l,e,st,h=>by
   simp only[St.bnils];split
   ·split
    ·split
     ·rename_i k _ _ _ _ _ cs hk _ zz hj;have h1:=pV h (el:=ty) (z:=z) (by simp);have J:Env.at (e++[none]) st.bx.length=none:=by rw[<-h.el];exact Env.at_append_eq
      have O:=(oD.1 hk).1;have U:(st.bx++[Bx.arr ty z [] 0])[k]?=some (.var cs):=by rw[oQ O];exact hk
      exact qq l _ _ (RC h1 U (cs':=cs.set j (.sb st.bx.length z 0 0 0)) (by simp) λi p I=>by
       rw[nR]at I;split at I
       ·rename_i Y;subst Y;split at I
        ·cases I;exact .inr ⟨_,hj,by simp,by simp[PV.cv,J],λ_=>trivial,trivial,λr hr=>by simp[PV.refs]at hr;subst hr;simp⟩
        ·cases I
       ·exact .inl I)
     ·exact qq l e st h
    ·exact qq l e st h
   ·exact qq l e st h
def St.sel (st:St)(ks:List Nat):St:={ st with sl:=st.sl.map (Rz ks),bx:=ks.map λk=>(st.bx.getD k .gone).ren ks }
theorem RG (h:Rel av w0 e0 [] [] a w e st) {ks:List Nat} (hn:ks.Nodup) (au:∃ l,ks=List.range st.pins.length++l):Rel av w0 e0 [] [] a w (pj e ks) (st.sel ks):=by
 have aj:∀ j,j<st.pins.length->ks[j]?=some j:=λj J=>by obtain⟨l,rfl⟩:=au;rw[oQ (by simpa using J)];simp[J]
 have ao:∀ j k,ks[j]?=some k->k<st.pins.length->j=k:=λj k J Y=>by have U:=aj k Y;obtain⟨a1,a2⟩:=oD.1 U;obtain⟨b1,b2⟩:=oD.1 J;exact(List.getElem_inj hn).1 (b2.trans a2.symm)
 have ab:∀(j:Nat) (B':Bx),(ks.map λk=>(st.bx.getD k .gone).ren ks)[j]?=some B'->∃ k,ks[j]?=some k/\B'=(st.bx.getD k .gone).ren ks/\(pj e ks).at j=e.at k:=λj B' J=>by
  rw[oF]at J;cases Y:ks[j]? with
  | none=>simp[Y]at J
  | some k=>simp[Y]at J;exact⟨k,rfl,by simp[J],by simp[pj,Env.at,oA,Y]⟩
 have aw:∀ k,(st.bx.getD k .gone).ren ks≠.gone->∃ B,st.bx[k]?=some B/\B≠.gone/\(st.bx.getD k .gone)=B:=λk Y=>by
  rw[oA]at Y ⊢;cases hB:st.bx[k]? with
  | none=>rw[hB]at Y;exact absurd rfl Y
  | some B=>rw[hB]at Y;refine⟨B,rfl,λhc=>Y ?_,rfl⟩;simp only[nB];rw[hc];rfl
 have I:∀ j b,Lives [] (pj e ks) (ks.map λk=>(st.bx.getD k .gone).ren ks) j b->∃ k,ks[j]?=some k/\Lives [] e st.bx k b:=λj b ⟨_,O,B',h3,h4⟩=>by obtain⟨k,h5,rfl,h6⟩:=ab j B' h3;obtain⟨B,h7,h8,_⟩:=aw k h4;exact⟨k,h5,by simp,by rw[<-h6];exact O,B,h7,h8⟩
 have ac:∀ b,zY av [] (pj e ks) (ks.map λk=>(st.bx.getD k .gone).ren ks) b->zY av [] e st.bx b:=λb hb=>hb.imp id λ⟨j,J⟩=>by obtain⟨k,_,O⟩:=I j b J;exact⟨k,O⟩
 have ak:∀ p:PV,p.Ok w (zY av [] e st.bx)->p.Ok w (zY av [] (pj e ks) (ks.map λk=>(st.bx.getD k .gone).ren ks)):=λp=>PV.Ok.mono (λ_ _ _=>rfl) (oC _) (λb _=>ac b) p;have aa:∀(i:Nat) (q:PV),(st.sl.map (Rz ks))[i]?=some q->q=.any\/∃ p,st.sl[i]?=some p/\PV.ren ks p=some q:=λi q hi=>by
  rw[oF]at hi;cases hp:st.sl[i]? with
  | none=>simp[hp]at hi
  | some p=>
    simp[hp,Rz]at hi;split at hi
    ·rename_i q' hq;subst hi;exact .inr ⟨p,rfl,hq⟩
    ·exact .inl hi.symm
 exact {
  el:=by simp[pj,St.sel]
  br := λj B' J _=>by
   obtain⟨k,U,rfl,O⟩:=ab j B' J;rw[O];rw[oA];cases hB:st.bx[k]? with
   | none=>exact True.intro
   | some B=>
     have h3:=h.br k B hB (by simp);simp only[nB];cases B with
     | var cs=>
       obtain⟨b,c,t,g1,g2,g3,g4⟩:=h3;refine⟨b,c,t,g1,g2,by simpa using g3,λi p hp=>?_⟩;rw[oF]at hp;cases al:cs[i]? with
       | none=>simp[al]at hp
       | some q=>
         simp[al,Rz]at hp;split at hp
         ·rename_i q' hq;subst hp;have h5:=wM (e:=e) hq;rcases g4 i q al with g5 | g5
          ·exact .inl (h5.an.1 g5)
          ·exact .inr (by rw[<-h5.cv];exact g5)
         ·exact .inl hp.symm
     | _=>exact h3
  bo := λj B' J _=>by
   obtain⟨k,U,rfl,O⟩:=ab j B' J;rw[oA];cases hB:st.bx[k]? with
   | none=>exact True.intro
   | some B=>
     have h3:=(h.bo k B hB (by simp)).mono (w':=w) (live':=zY av [] (pj e ks) (ks.map λk=>(st.bx.getD k .gone).ren ks)) (λ_ _ _=>rfl) (oC _) λb _=>ac b;simp only[nB];cases B with
     | var cs=>
       obtain⟨g1,g2⟩:=h3;rw[PV.OkL_iff]at g1;refine⟨PV.OkL_iff.2 λp hp=>?_,λp hp=>?_⟩
       ·obtain⟨q,hq,rfl⟩:=oU.1 hp;unfold Rz;split
        ·rename_i q' ae;exact(wM (e:=e) ae).ok _ _ (g1 q hq)
        ·trivial
       ·obtain⟨q,hq,rfl⟩:=oU.1 hp;unfold Rz;split
        ·rename_i q' ae;have h5:=wM (e:=e) ae;rcases g2 q hq with g3 | g3
         ·exact .inl (h5.an.1 g3)
         ·exact .inr (h5.ic g3)
        ·exact .inl rfl
     | _=>exact h3
  bf := λj B' J _ i hi=>by
   refine⟨by simp,?_⟩;obtain⟨k,U,rfl,O⟩:=ab j B' J;simp only[St.sel,nF];rw[oA]at hi;cases hB:st.bx[k]? with
   | none=>rw[hB]at hi;simp[Bx.ren,Bx.refs]at hi
   | some B=>
     rw[hB]at hi;simp only[nB]at hi;cases B with
     | var cs=>
       simp only[Bx.ren,Bx.refs]at hi;obtain⟨p,hp,ah⟩:=PV.refsL_mem.1 hi;obtain⟨q,hq,rfl⟩:=oU.1 hp;unfold Rz at ah;split at ah
       ·rename_i q' ae;exact(wM (e:=e) ae).rf i ah
       ·simp[PV.refs]at ah
     | _=>simp[Bx.ren,Bx.refs]at hi
  inj:=λi j b hi J=>by
   obtain⟨k,U,O⟩:=I i b hi;obtain⟨l,h3,h4⟩:=I j b J;have ax:=h.inj k l b O h4;subst ax;have ay:=(oD.1 U)
   have az:=(oD.1 h3)
   obtain⟨a8,a6⟩:=ay;obtain⟨ba,a7⟩:=az;exact(List.getElem_inj hn).1 (a6.trans a7.symm)
  ku:=h.ku
  size:=h.size
  old:=h.old
  fz:=h.fz
  nd:=h.nd
  sz:=by simp[St.sel];exact h.sz
  hN:=h.hN
  hs:=λi q hi ai=>by
   rcases aa i q hi with U | ⟨p,U,O⟩
   ·exact .inl U
   ·rcases h.hs i p U ai with h3 | h3
    ·exact .inl ((wM (e:=e) O).an.1 h3)
    ·exact .inr (h3.trans (RJ O))
  so:=λi q hi ai=>by
   rcases aa i q hi with U | ⟨p,U,O⟩
   ·subst U;trivial
   ·exact(wM (e:=e) O).ok _ _ (ak p (h.so i p U ai))
  sr:=λi q hi ai k Y=>by
   rcases aa i q hi with U | ⟨p,U,O⟩
   ·subst U;simp[PV.refs]at Y
   ·exact⟨by simp,by simp only[St.sel,nF];exact(wM (e:=e) O).rf k Y⟩
  own:=λj b J=>by
   obtain⟨k,U,O⟩:=I j b J;rcases h.own k b O with h3 | ⟨h3,h4⟩
   ·exact .inl h3
   ·exact .inr ⟨h3,by rw[ao j k U h4];exact h4⟩
  avl:=h.avl
  avn:=λj b J=>by obtain⟨k,_,O⟩:=I j b J;exact h.avn k b O
  pin:=λk b hb=>by have aq:st.pins[k]?=some (some b):=hb;have Y:=aj k (oD.1 aq).1;exact⟨by have:=(h.pin k b aq).1;simpa [pj,Env.at,oA,Y]using this,by simp⟩
  pit:=h.pit }
def St.canon (st:St)(K:St->Prop):Prop:=match st.pins with
 | []=>K (st.sel (Bm st.bx 200 (PV.refsL st.sl) []))
 | L=>K (st.sel (List.range L.length++(Bm st.bx 200 (List.range L.length++PV.refsL st.sl) []).filter (Nat.ble L.length)))
theorem RD (h:Rel av w0 e0 [] [] a w e st){K:St->Prop}(hs:st.canon K):∃ e' st',K st'/\Rel av w0 e0 [] [] a w e' st':=by
 have J:=uz (bx:=st.bx) 200 (PV.refsL st.sl) [] mO;unfold St.canon at hs;split at hs
 ·rename_i I;exact⟨_,_,hs,RG h J ⟨_,by rw[I];rfl⟩⟩
 ·rename_i I;refine⟨_,_,hs,RG h ?_ ⟨_,rfl⟩⟩;refine nS.2 ⟨List.nodup_range,(uz 200 _ [] mO).filter _,λx O y U Y=>?_⟩;have h1:=List.mem_range.1 O;have h2:=me (mJ.1 U).2;omega
structure Cut where
 id:Nat
 keep:List Nat
 nils:List (Nat × TypeId × Nat):=[]
 cl:List Nat:=[]
 bnils:List (Nat × Nat × TypeId × Nat):=[]
def Xe (N0:Option Nat)(c:Cut)(st:St)(K:St->Prop):Prop:=pE N0 #[] [] c.cl c.keep st λst=>St.canon (St.bnils (St.nils (St.keep st c.keep) c.nils) c.bnils) K
theorem Hj (h:Rel av w0 e0 [] [] a w e st){N0:Option Nat}(I:NOk N0 w0){c:Cut}{K:St->Prop}(hs:Xe N0 c st K):∃ e' st',K st'/\Rel av w0 e0 [] [] a w e' st':=by obtain⟨J,T,O,_,_,U⟩:=vl h I (by simp) hs;obtain⟨e1,Y⟩:=JL c.nils _ _ (RF U c.keep);obtain⟨e2,h4⟩:=qq c.bnils _ _ Y;exact RD h4 O
mutual
def Ki (p:PV) (K:PV->Prop):Prop:=match p with
 | .any=>K .any
 | .int k n=>K (.int k n)
 | .bool v=>K (.bool v)
 | .str v=>K (.str v)
 | .lit x=>K (.lit x)
 | .sv a z es c=>K (.sv a z es c)
 | .d x=>K (.d x)
 | .dc x=>K (.dc x)
 | .dg n x=>K (.dg n x)
 | .pb k z i o=>K (.pb k z i o)
 | .pd ad z x=>K (.pd ad z x)
 | .sb k z lo n c=>K (.sb k z lo n c)
 | .fn f caps=>DX caps λl=>K (.fn f l)
 | .pg cs=>DX cs λl=>K (.pg l)
 | .tp cs=>DX cs λl=>K (.tp l)
def DX (l:List PV) (K:List PV->Prop):Prop:=match l with
 | []=>K []
 | p::ps=>Ki p λp=>DX ps λps=>K (p::ps)
end
mutual
theorem QK:∀(p:PV) (K:PV->Prop),Ki p K=K p
 | .fn f caps,K=>by simp only[Ki];exact sK caps _
 | .pg cs,K=>by simp only[Ki];exact sK cs _
 | .tp cs,K=>by simp only[Ki];exact sK cs _
 | .any,K=>rfl
 | .int ..,K=>rfl
 | .bool ..,K=>rfl
 | .str ..,K=>rfl
 | .lit ..,K=>rfl
 | .sv ..,K=>rfl
 | .d ..,K=>rfl
 | .dc ..,K=>rfl
 | .dg ..,K=>rfl
 | .pd ..,K=>rfl
 | .pb ..,K=>rfl
 | .sb ..,K=>rfl
theorem sK:∀(l:List PV) (K:List PV->Prop),DX l K=K l
 | [],K=>rfl
 | p::ps,K=>by simp only[DX];rw[QK,sK]
end
def QI (B:Bx)(K:Bx->Prop):Prop:=match B with
 | .var cs=>DX cs λcs=>K (.var cs)
 | .vd x n=>K (.vd x n)
 | .arr t z es c=>K (.arr t z es c)
 | .gone=>K .gone
theorem QJ (B:Bx)(K:Bx->Prop):QI B K=K B:=by
 cases B<;>simp only[QI]
 exact sK _ _
def I2 (l:List Bx)(K:List Bx->Prop):Prop:=match l with
 | []=>K []
 | B::bs=>QI B λB=>I2 bs λbs=>K (B::bs)
theorem Hn:∀(l:List Bx)(K:List Bx->Prop),I2 l K=K l
 | [],K=>rfl
 | B::bs,K=>by simp only[I2];rw[QJ,Hn]
def FO (st:St)(K:St->Prop):Prop:=DX st.sl λsl=>I2 st.bx λbx=>K { st with sl:=sl,bx:=bx }
theorem pI (st:St)(K:St->Prop):FO st K=K st:=by simp only[FO];rw[sK,Hn]
end Go.Proofs.YtlaniepnglheoaaGreatDoor
