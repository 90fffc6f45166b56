/- A row is closed: it becomes a snapshot. -/
import Derived.Test.YtlaniepnglheoaaGreatJe
set_option linter.unusedVariables false
set_option linter.unusedSimpArgs false
set_option linter.unusedSectionVars false
namespace Go.Proofs.YtlaniepnglheoaaGreat
open Go
variable [Dfs] {av:Nat->Prop} {P:Program} {w0 w w':World} {e0 e:Env} {pS pS' pB:List Nat} {a:Act} {st st':St}
def Qx (k:Nat)(s:PV)(z:Nat)(p:PV):PV:=
 match p with
 | .sb I z' lo n c=>if I=k then(if z'=z/\lo=0 then s else .any)else p
 | _=>p.kill k
def SR (k z len c:Nat)(p:PV)(K:Prop):Prop:=
 match p with
 | .sb I z' lo n J=>if I=k/\z'=z/\lo=0 then(n=len/\J=c)/\K else K
 | _=>K
def SS (k z len c:Nat):List PV->Prop->Prop
 | [],K=>K
 | p::ps,K=>SR k z len c p (SS k z len c ps K)
def clo (k:Nat)(s:PV)(z:Nat)(p:PV):PV:=
 match p with
 | .pg cs=>if(PV.refsL cs).contains k then(if(cs.map (Qx k s z)).all PV.notAny=true then .pg (cs.map (Qx k s z))else .any)else .pg cs
 | p=>Qx k s z p
def Qz (k z len c:Nat):List PV->Prop->Prop
 | [],K=>K
 | p::ps,K=>match p with
   | .pg cs=>SS k z len c cs (Qz k z len c ps K)
   | p=>SR k z len c p (Qz k z len c ps K)
def Bx.clo (k:Nat)(s:PV)(z:Nat):Bx->Bx
 | .var cs=>.var (cs.map (Qx k s z))
 | B=>B
def Qy (k z len c:Nat):List Bx->Prop->Prop
 | [],K=>K
 | B::bs,K=>match B with
   | .var cs=>SS k z len c cs (Qy k z len c bs K)
   | _=>Qy k z len c bs K
def PV.ds1:PV->List D
 | .sv a z es c=>[.sl a z es c]
 | .d x=>[x]
 | .dc x=>[x]
 | .dg _ x=>[x]
 | _=>[]
def PV.ds:PV->List D
 | .pg cs=>cs.flatMap PV.ds1
 | p=>p.ds1
def Bx.ds:Bx->List D
 | .var cs=>cs.flatMap PV.ds1
 | .vd x _=>[x]
 | .arr _ _ es _=>[.ag es]
 | .gone=>[]
structure Fresh (N0 N:Nat) (a:Option Addr) (ds:List D):Prop where
 lo:∀ ad,a=some ad->N0<=ad.block
 hi:∀ ad,a=some ad->ad.block<N
 off:∀ ad,a=some ad->ad.off=0
 ap:∀ ad,a=some ad->∀ d∈ds,ad.block∉d.foot
def St.clo (st:St)(k:Nat)(s:PV)(z:Nat)(N:Nat):St:={ st with sl:=st.sl.map (Proofs.YtlaniepnglheoaaGreat.clo k s z),bx:=(st.bx.map (Bx.clo k s z)).set k .gone,N:=N }
def SQ (N0:Option Nat)(st:St)(k:Nat)(fs fb:List Nat)(K:St->Prop):Prop:=
 match N0,st.bx[k]?,Nat.ble st.pins.length k with
 | some N0,some (.arr _ z es c),true=>Qz k z es.length c st.sl (Qy k z es.length c st.bx (∀ a N,st.N<=N ->
  Fresh N0 N a (.ag es::(fs.flatMap λi=>(st.sl.getD i .any).ds)++fb.flatMap λj=>if j=k then []else(st.bx.getD j .gone).ds)->K (st.clo k (.sv a z es c) z N)))
 | _,_,_=>False
def NOk (N0:Option Nat)(w0:World):Prop:=∀ n,N0=some n->n=w0.heap.size
def Nt (k z len c:Nat)(p:PV):Prop:=∀ n I,p=.sb k z 0 n I->n=len/\I=c
theorem I6 {k z len c:Nat}{p:PV}{K:Prop}(h:SR k z len c p K):Nt k z len c p/\K:=by
 cases p<;>simp only[SR]at h<;>try exact⟨λ_ _ h=>(by cases h),h⟩
 split at h
 ·rename_i hc;exact⟨λn J I=>by cases I;exact h.1,h.2⟩
 ·rename_i hc;exact⟨λn J I=>by cases I;exact absurd ⟨rfl,rfl,rfl⟩ hc,h⟩
theorem Dr {k z len c:Nat}:∀ {ps:List PV}{K:Prop},SS k z len c ps K->(∀ p∈ps,Nt k z len c p)/\K
 | [],K,h=>⟨by simp,h⟩
 | p::ps,K,h=>by simp only[SS]at h;obtain⟨I,J⟩:=I6 h;obtain⟨O,U⟩:=Dr J;exact⟨λq hq=>by rcases oH.1 hq with rfl | hq;exact I;exact O q hq,U⟩
def YW (k z len c:Nat)(p:PV):Prop:=Nt k z len c p/\∀ cs,p=.pg cs->∀ q∈cs,Nt k z len c q
theorem Ds {k z len c:Nat}:∀ {ps:List PV}{K:Prop},Qz k z len c ps K->(∀ p∈ps,YW k z len c p)/\K
 | [],K,h=>⟨by simp,h⟩
 | p :: ps,K,h=>by
   have go:SR k z len c p (Qz k z len c ps K)->(∀ cs,p≠.pg cs)->(∀ q∈p::ps,YW k z len c q)/\K:=λh Y=>by
    obtain⟨I,J⟩:=I6 h;obtain⟨O,U⟩:=Ds J;exact⟨λq hq=>by
     rcases oH.1 hq with rfl | hq
     ·exact⟨I,λcs hc=>absurd hc (Y cs)⟩
     ·exact O q hq,U⟩
   cases p
   case pg cs=>
    simp only[Qz]at h;obtain⟨I,J⟩:=Dr h;obtain⟨O,U⟩:=Ds J;exact⟨λq hq=>by
     rcases oH.1 hq with rfl | hq
     ·exact⟨λ_ _ h=>(by cases h),λcs' hc=>by cases hc;exact I⟩
     ·exact O q hq,U⟩
   all_goals exact go h (λ_ h=>by cases h)
theorem Dq {k z len c:Nat}:∀ {bs:List Bx}{K:Prop},Qy k z len c bs K->(∀ cs,Bx.var cs∈bs->∀ q∈cs,Nt k z len c q)/\K
 | [],K,h=>⟨by simp,h⟩
 | B :: bs,K,h=>by
   cases B
   case var cs=>
    simp only[Qy]at h;obtain⟨O,U⟩:=Dr h;obtain⟨I,J⟩:=Dq U;exact⟨λcs' hq=>by
     rcases oH.1 hq with hq | hq
     ·cases hq;exact O
     ·exact I cs' hq,J⟩
   all_goals
    simp only[Qy]at h;obtain⟨I,J⟩:=Dq h;exact⟨λcs' hq=>by
     rcases oH.1 hq with hq | hq
     ·cases hq
     ·exact I cs' hq,J⟩
structure Clo (k:Nat) (w:World) (e:Env) (live:Nat->Prop) (p q:PV):Prop where
 v:q=.any\/p.val e=q.val e
 v1:q=.any\/p.cv e=q.cv e
 ok:p.Ok w live->q.Ok w live
 rf:∀ j∈q.refs,j∈p.refs/\j≠k
 c:p.isC->q=.any\/q.isC
theorem Uy {k:Nat}{live:Nat->Prop}{p:PV}:Clo k w e live p (p.kill k):=by
 rcases PV.kill_cases k p with h | ⟨h,hk⟩
 ·rw[h];exact⟨.inl rfl,.inl rfl,λ_=>trivial,by simp[PV.refs],λ_=>.inl rfl⟩
 ·rw[h];exact⟨.inr rfl,.inr rfl,id,λj I=>⟨I,λhc=>hk (hc ▸ I)⟩,λh=>.inr h⟩
theorem GZ {k z c:Nat} {es:List D} {live:Nat->Prop} (Y:Good w live (.sl ((e.at k).map λb=>⟨b,0,none⟩) z es c)) {p:PV} (hc:Nt k z es.length c p) :
  Clo k w e live p (Qx k (.sv ((e.at k).map λb=>⟨b,0,none⟩) z es c) z p):=by
 cases p
 case sb I z' lo n J=>
  simp only[Qx];split
  ·rename_i hk;subst hk;split
   ·rename_i hz;obtain⟨rfl,rfl⟩:=hz;obtain⟨rfl,rfl⟩:=hc n J rfl;have hv:(PV.sb I z' 0 es.length J).cv e=(PV.sv ((e.at I).map λb=>⟨b,0,none⟩) z' es J).cv e:=by cases O:e.at I<;>simp[PV.cv,O]
    exact⟨.inr hv,.inr hv,λ_=>Y,by simp[PV.refs],λ_=>.inr trivial⟩
   ·exact⟨.inl rfl,.inl rfl,λ_=>trivial,by simp[PV.refs],λ_=>.inl rfl⟩
  ·rename_i hk;exact⟨.inr rfl,.inr rfl,id,λj U=>⟨U,λhc=>by simp[PV.refs]at U;exact hk (U ▸ hc)⟩,λh=>.inr h⟩
 all_goals exact Uy
theorem KN {k z c:Nat} {es:List D} {live:Nat->Prop} (hg:Good w live (.sl ((e.at k).map λb=>⟨b,0,none⟩) z es c)) {p:PV} (hc:YW k z es.length c p) (J:p.Ok w live) :
  (clo k (.sv ((e.at k).map λb=>⟨b,0,none⟩) z es c) z p=.any\/p.val e=(clo k (.sv ((e.at k).map λb=>⟨b,0,none⟩) z es c) z p).val e) /\
  (clo k (.sv ((e.at k).map λb=>⟨b,0,none⟩) z es c) z p).Ok w live/\∀ j∈(clo k (.sv ((e.at k).map λb=>⟨b,0,none⟩) z es c) z p).refs,j∈p.refs/\j≠k:=by
 generalize hs:PV.sv ((e.at k).map λb=>⟨b,0,none⟩) z es c=s;cases p
 case pg cs=>
  simp only[clo];split
  ·split
   ·rename_i Y;have O:∀ q∈cs,Clo k w e live q (Qx k s z q):=λq I=>by rw[<-hs];exact GZ hg (hc.2 cs rfl q I)
    have aa:∀ q∈cs,Qx k s z q≠.any:=λq I he=>by
     have:=oa.1 Y (Qx k s z q) (oT.2 ⟨q,I,rfl⟩)
     rw[he]at this;simp[PV.notAny]at this
    simp only[PV.Ok,PV.OkL_iff]at J;refine⟨.inr ?_,?_,?_⟩
    ·simp only[PV.val,PV.val1,PV.cvs_eq,mf];congr 2;exact nH λq I=>(O q I).v1.resolve_left (aa q I)
    ·simp only[PV.Ok,PV.OkL_iff];refine⟨λq I=>?_,λq I=>?_⟩
     ·obtain⟨r,hr,rfl⟩:=oT.1 I;exact(O r hr).ok (J.1 r hr)
     ·obtain⟨r,hr,rfl⟩:=oT.1 I;exact((O r hr).c (J.2 r hr)).resolve_left (aa r hr)
    ·intro j U;simp only[PV.refs]at U ⊢;obtain⟨q,I,ab⟩:=PV.refsL_mem.1 U;obtain⟨r,hr,rfl⟩:=oT.1 I
     have:=(O r hr).rf j ab
     exact⟨PV.refsL_mem.2 ⟨r,hr,this.1⟩,this.2⟩
   ·exact⟨.inl rfl,trivial,by simp[PV.refs]⟩
  ·rename_i hk;refine⟨.inr rfl,J,λj U=>⟨U,λac=>hk ?_⟩⟩;simp only[PV.refs]at U;simpa using ac ▸ U
 all_goals
  have:=GZ hg hc.1
  rw[hs]at this;exact⟨this.v,this.ok J,this.rf⟩
theorem Ta (h:Rel av w0 e0 pS pB a w e st) {k z c:Nat} {t:TypeId} {es:List D} (hk:st.bx[k]?=some (.arr t z es c)) (ah:k∉pB)
  (hS:∀ p∈st.sl,YW k z es.length c p) (hB:∀ cs,Bx.var cs∈st.bx->∀ q∈cs,Nt k z es.length c q) :
  Rel av w0 e0 pS pB a w e (st.clo k (.sv ((e.at k).map λb=>⟨b,0,none⟩) z es c) z w.heap.size):=by
 have ao:k<st.bx.length:=(oC.1 hk).1;generalize hs:PV.sv ((e.at k).map λb=>(⟨b,0,none⟩:Addr)) z es c=s;have ab:∀(j:Nat) (B':Bx),((st.bx.map (Bx.clo k s z)).set k .gone)[j]?=some B'->(j=k/\B'=.gone)\/(j≠k/\∃ B,st.bx[j]?=some B/\B'=B.clo k s z):=λj B' hj=>by
  rw[nR]at hj;split at hj
  ·rename_i hh;subst hh;split at hj
   ·simp at hj;exact .inl ⟨rfl,hj.symm⟩
   ·cases hj
  ·rename_i hh;rw[oG]at hj;cases hB:st.bx[j]? with
   | none=>simp[hB]at hj
   | some B=>simp[hB]at hj;exact .inr ⟨λhc=>hh hc.symm,B,rfl,hj.symm⟩
 have I:∀ j b,Lives pB e ((st.bx.map (Bx.clo k s z)).set k .gone) j b->j≠k/\Lives pB e st.bx j b:=λj b ⟨h1,h2,B',h3,h4⟩=>by
  rcases ab j B' h3 with⟨_,rfl⟩ | ⟨hj,B,J,rfl⟩
  ·exact absurd rfl h4
  ·refine⟨hj,h1,h2,B,J,λhg=>h4 ?_⟩;subst hg;rfl
 have U:∀ b,zg av pB e ((st.bx.map (Bx.clo k s z)).set k .gone) b->zg av pB e st.bx b:=λb hb=>hb.imp id λ⟨j,hj⟩=>⟨j,(I j b hj).2⟩
 have Y:∀ p:PV,p.Ok w (zg av pB e st.bx)->p.Ok w (zg av pB e ((st.bx.map (Bx.clo k s z)).set k .gone)):=λp=>PV.Ok.mono (λ_ _ _=>rfl) (oD _) (λb _=>U b) p;have hg:Good w (zg av pB e ((st.bx.map (Bx.clo k s z)).set k .gone)) (.sl ((e.at k).map λb=>⟨b,0,none⟩) z es c):=by
  have hr:=h.br k _ hk ah;have ho:=h.bo k _ hk ah;have ai:∀ x∈es,Good w (zg av pB e ((st.bx.map (Bx.clo k s z)).set k .gone)) x:=λx hx=>(ho x hx).mono (λ_ _ _=>rfl) λb _=>U b;rcases hr with⟨g1,g2,g3⟩ | ⟨b,cc,g1,g2,g3,g4,g5,g6,g7⟩
  ·subst g2;subst g3;rw[g1];exact⟨.nil,by simp[D.foot,zF]⟩
  ·rw[g1];refine⟨.sl (λ_=>rfl) g4 g6 (λx hx=>(ai x hx).1) (.inr ⟨cc,t,z00,g2,λi u hu=>by simpa using g7 i u hu⟩),λj hj ac=>?_⟩;simp only[oe,D.foot]at hj;split at hj
   ·simp at hj
   ·rcases oH.1 hj with rfl | hj
    ·have aj:Lives pB e st.bx k j:=⟨ah,g1,_,hk,by simp⟩
     rcases ac with ac | ⟨i,hi⟩
     ·exact h.avn k j aj ac
     ·obtain⟨h1,h2⟩:=I i _ hi;exact h1 (h.inj i k _ h2 aj)
    ·obtain⟨x,hx,al⟩:=zQ.1 hj;exact(ai x hx).2 j al ac
 have aa:∀(i:Nat) (q:PV),(st.sl.map (clo k s z))[i]?=some q->∃ p,st.sl[i]?=some p/\q=clo k s z p/\YW k z es.length c p:=λi q hi=>by
  rw[oG]at hi;cases hp:st.sl[i]? with
  | none=>simp[hp]at hi
  | some p=>simp[hp]at hi;exact⟨p,rfl,hi.symm,hS p (oA hp)⟩
 have O:∀(j:Nat) (cs:List PV),st.bx[j]?=some (.var cs)->∀ q∈cs,Clo k w e (zg av pB e ((st.bx.map (Bx.clo k s z)).set k .gone)) q (Qx k s z q):=λj cs hj q hq=>by rw[<-hs];rw[<-hs]at hg;exact GZ hg (hB cs (oA hj) q hq)
 exact {
  el:=by simp[St.clo,h.el]
  br := λj B' hj hn=>by
   rcases ab j B' hj with⟨_,rfl⟩ | ⟨ak,B,J,rfl⟩
   ·exact True.intro
   ·have h6:=h.br j B J hn;cases B with
    | var cs=>
      obtain⟨b,cc,tt,h1,h2,h3,h4⟩:=h6;refine⟨b,cc,tt,h1,h2,by simpa using h3,λi p hp=>?_⟩;rw[oG]at hp;cases ae:cs[i]? with
      | none=>simp[ae]at hp
      | some q=>
        simp[ae]at hp;subst hp;rcases h4 i q ae with h7 | h7
        ·subst h7;exact .inl rfl
        ·rcases(O j cs J q (oA ae)).v1 with h8 | h8
         ·exact .inl h8
         ·exact .inr (by rw[<-h8];exact h7)
    | _=>exact h6
  bo:=λj B' hj hn=>by
   rcases ab j B' hj with⟨_,rfl⟩ | ⟨ak,B,J,rfl⟩
   ·exact True.intro
   ·have h6:=(h.bo j B J hn).mono (w':=w) (live':=zg av pB e ((st.bx.map (Bx.clo k s z)).set k .gone)) (λ_ _ _=>rfl) (oD _) (λb _=>U b);cases B with
    | var cs=>
      obtain⟨h7,h8⟩:=h6;rw[PV.OkL_iff]at h7;refine⟨PV.OkL_iff.2 λp hp=>?_,λp hp=>?_⟩
      ·obtain⟨q,hq,rfl⟩:=oT.1 hp;exact(O j cs J q hq).ok (h7 q hq)
      ·obtain⟨q,hq,rfl⟩:=oT.1 hp;rcases h8 q hq with h9 | h9
       ·subst h9;exact .inl rfl
       ·exact(O j cs J q hq).c h9
    | _=>exact h6
  bf:=λj B' hj hn i hi=>by
   simp only[St.clo,nZ,om];rcases ab j B' hj with⟨_,rfl⟩ | ⟨ak,B,J,rfl⟩
   ·simp[Bx.refs]at hi
   ·cases B with
    | var cs=>simp only[Bx.clo,Bx.refs]at hi;obtain⟨p,hp,am⟩:=PV.refsL_mem.1 hi;obtain⟨q,hq,rfl⟩:=oT.1 hp;exact h.bf j _ J hn i (by simp only[Bx.refs];exact PV.refsL_mem.2 ⟨q,hq,((O j cs J q hq).rf i am).1⟩)
    | _=>exact h.bf j _ J hn i hi
  inj:=λi j b hi hj=>h.inj i j b (I i b hi).2 (I j b hj).2
  ku:=h.ku
  size:=h.size
  old:=h.old
  fz:=h.fz
  nd:=h.nd
  sz:=by simp[St.clo];exact h.sz
  hN:=oD _
  hs:=λi q hi hn=>by
   obtain⟨p,h1,rfl,h3⟩:=aa i q hi;have h4:=Y p (h.so i p h1 hn);rw[<-hs]at hg h4;have J:=KN hg h3 h4;rw[hs]at J;rcases J.1 with h6 | h6
   ·exact .inl h6
   ·rcases h.hs i p h1 hn with h7 | h7
    ·subst h7;left;simp[clo,Qx,PV.kill,PV.refs]
    ·exact .inr (h7.trans h6)
  so:=λi q hi hn=>by obtain⟨p,h1,rfl,h3⟩:=aa i q hi;have h4:=Y p (h.so i p h1 hn);rw[<-hs]at hg h4;have J:=KN hg h3 h4;rw[hs]at J;exact J.2.1
  sr:=λi q hi hn j hj=>by
   obtain⟨p,h1,rfl,h3⟩:=aa i q hi;have h4:=Y p (h.so i p h1 hn);rw[<-hs]at hg h4;have J:=KN hg h3 h4;rw[hs]at J
   have:=h.sr i p h1 hn j (J.2.2 j hj).1
   exact⟨this.1,by simp[St.clo];exact this.2⟩
  own:=λj b hj=>h.own j b (I j b hj).2
  avl:=h.avl
  avn:=λj b hj=>h.avn j b (I j b hj).2
  pin:=h.pin
  pit:=h.pit }
theorem KR {live:Nat->Prop}{p:PV}(h:p.Ok w live):∀ d∈p.ds1,Good w live d:=by
 cases p<;>simp[PV.ds1]<;>simp only[PV.Ok]at h
 ·exact h
 ·exact h
 ·exact h.1
 ·exact h.1
theorem XP {live:Nat->Prop}{p:PV}(h:p.Ok w live):∀ d∈p.ds,Good w live d:=by
 cases p
 case pg cs=>simp only[PV.Ok,PV.OkL_iff]at h;intro d hd;simp only[PV.ds]at hd;obtain⟨q,I,hd⟩:=mL.1 hd;exact KR (h.1 q I) d hd
 all_goals exact KR h
theorem Uh {live:Nat->Prop}{B:Bx}(h:B.Ok w live):∀ d∈B.ds,Good w live d:=by
 cases B with
 | var cs=>have I:=h.1;rw[PV.OkL_iff]at I;intro d hd;simp only[Bx.ds]at hd;obtain⟨q,J,hd⟩:=mL.1 hd;exact KR (I q J) d hd
 | vd x n=>simp only[Bx.ds];intro d hd;simp at hd;subst hd;exact h
 | arr t z es c=>simp only[Bx.ds];intro d hd;simp at hd;subst hd;exact Good.ag h
 | gone=>simp[Bx.ds]
theorem MJ (h:Rel av w0 e0 pS pB a w e st) {N0:Option Nat} (ab:NOk N0 w0) {k:Nat} (U:k∉pB) {fs fb:List Nat} (ac:∀ i∈fs,i∉pS) (ae:∀ i∈fb,i∉pB) {K:St->Prop} (hs:SQ N0 st k fs fb K) :
  ∃ s z N,K (st.clo k s z N)/\Rel av w0 e0 pS pB a w e (st.clo k s z N)/\s.refs=[]:=by
 unfold SQ at hs;split at hs
 rotate_left
 ·exact hs.elim
 rename_i n0 t z es c hk aa;have aa:=mq aa;obtain rfl:=ab _ rfl;obtain⟨h1,hs⟩:=Ds hs;obtain⟨h2,hs⟩:=Dq hs;refine⟨_,_,_,hs ((e.at k).map λb=>⟨b,0,none⟩) w.heap.size h.hN ?_,Ta h hk U h1 h2,rfl⟩;have O:∀ ad,((e.at k).map λb=>(⟨b,0,none⟩:Addr))=some ad->ad.off=0/\Lives pB e st.bx k ad.block:=λad I=>by
  cases Y:e.at k with
  | none=>simp[Y]at I
  | some b=>simp[Y]at I;subst I;exact⟨rfl,U,Y,_,hk,by simp⟩
 have J:∀ b,Lives pB e st.bx k b->∀ d,Good w (zg av pB e st.bx) d->b∉d.foot:=λb hl d hd hc=>hd.2 b hc (.inr ⟨k,hl⟩);refine⟨λad I=>?_,λad I=>Lives.lt h.toMem (O ad I).2,λad I=>(O ad I).1,λad I d hd=>?_⟩
 ·rcases h.own k _ (O ad I).2 with h3 | h3
  ·exact h3
  ·omega
 ·have J:=J _ (O ad I).2;simp only[nE]at hd;rcases oH.1 hd with rfl | hd
  ·exact J _ (Good.ag (h.bo k _ hk U))
  ·rcases oM.1 hd with hd | hd
   ·obtain⟨i,hi,hd⟩:=mL.1 hd;cases hp:st.sl[i]? with
    | none=>rw[oB,hp]at hd;simp[PV.ds,PV.ds1]at hd
    | some p=>rw[oB,hp]at hd;exact J d (XP (h.so i p hp (ac i hi)) d hd)
   ·obtain⟨j,hj,hd⟩:=mL.1 hd;split at hd
    ·simp at hd
    ·cases hB:st.bx[j]? with
     | none=>rw[oB,hB]at hd;simp[Bx.ds]at hd
     | some B=>rw[oB,hB]at hd;exact J d (Uh (h.bo j B hB (ae j hj)) d hd)
variable {av:Nat->Prop} {P:Program} {w0 w w':World} {e0 e:Env} {pS pS' pB:List Nat} {a:Act} {st st':St}
def zy (P:Program):List TypeId->List PV->List PV
 | t::I,p::ps=>retag P t p::zy P I ps
 | _,ps=>ps
def YP (P:Program)(p:PV):List TypeId:=
 match p with
 | .fn f _=>match P.funcs[f]? with
   | some fn=>fn.params.toList
   | none=>[]
 | _=>[]
theorem wl:∀(I:List TypeId)(ps:List PV),(zy P I ps).length=ps.length
 | [],ps=>rfl
 | t::I,[]=>rfl
 | t::I,p::ps=>by simp[zy,wl I ps]
theorem qN:∀(I:List TypeId)(ps:List PV)(i:Nat)(q:PV),(zy P I ps)[i]?=some q->∃ p,ps[i]?=some p/\(q=p\/∃ t,q=retag P t p)
 | [],ps,i,q,h=>⟨q,h,.inl rfl⟩
 | t::I,[],i,q,h=>by simp[zy]at h
 | t::I,p::ps,i,q,h=>by
   cases i with
   | zero=>simp[zy]at h;exact⟨p,rfl,.inr ⟨t,h.symm⟩⟩
   | succ i=>simp[zy]at h;simpa using qN I ps i q h
def zA4:List Sh->Option (List Sh)
 | .row _ z::l=>match Nat.beq z 1000007 with
   | true=>some l
   | false=>none
 | _=>none
def Yv (P:Program)(sh:FuncId->List Sh)(st:St)(dst:Option Nat)(x:Operand)(args:List PV)(K:St->Prop):Prop:=
 match XV (opd st.sl x)with
 | some (f,_)=>match zA4 (sh f)with
   | some rs=>Yu P rs st dst x args K
   | none=>XH P sh st dst x args K
 | none=>False
def XI (sh:FuncId->List Sh)(st:St)(x:Operand)(args:List PV):List Nat:=
 match XV (opd st.sl x)with
 | some (f,caps)=>match zA4 (sh f)with
   | some _=>C7 st.bx 200 (PV.refsL (args++caps)) []
   | none=>[]
 | none=>[]
def zAa (P:Program)(sh:FuncId->List Sh)(o:Oper)(st:St)(K:St->Prop):Prop:=
 match o.op with
 | .store t x y=>stF P (opd st.sl) (λk=>st.bx[k]?) t x y λk B=>K (St.put { st with bx:=st.bx.set k B } o.dst (.tp []))
 | .call c=>match c.callee with
   | .builtin .append=>match c.args.toList,c.argTypes.toList with
     | [x,y],[t,t']=>if t=t' then apF false P st o.dst t x y K else match P.underlying t' with
       | some .string=>T3 P st o.dst t t' x y K
       | _=>Xk P st o.dst t t' x y K
     | _,_=>False
   | .builtin .clear=>match c.args.toList,c.argTypes.toList with
     | [x],[t]=>SP P st o.dst t x K
     | _,_=>False
   | .builtin .cap=>match c.args.toList,c.argTypes.toList with
     | [x],[t]=>match P.underlying t,zA0 (opd st.sl x)with
       | some (.slice _),some n=>K (st.put o.dst (.int .i64 n))
       | _,_=>False
     | _,_=>False
   | .value x=>Yv P sh st o.dst x (zy P (YP P (opd st.sl x)) (c.args.toList.map (opd st.sl))) K
   | _=>False
 | _=>False
def EN (P:Program) (sh:FuncId->List Sh) (o:Oper) (st:St):List Nat:=
 match o.op with
 | .store t x y=>match opd st.sl x with
   | .pb k _ _ _=>[k]
   | _=>[]
 | .call c=>match c.callee with
   | .builtin .append=>match c.args.toList,c.argTypes.toList with
     | [x,y],[t,t']=>match retag P t (opd st.sl x)with
       | .sb k _ _ _ _=>[k]
       | _=>[]
     | _,_=>[]
   | .builtin .clear=>match c.args.toList with
     | [x]=>match opd st.sl x with
       | .sb k _ _ _ _=>[k]
       | _=>[]
     | _=>[]
   | .value x=>XI sh st x (zy P (YP P (opd st.sl x)) (c.args.toList.map (opd st.sl)))
   | _=>[]
 | _=>[]
def Uf (st:St)(T:List Nat):List Nat:=T.filter λk=>(st.bx.getD k .gone).isArr
theorem Ug {T:List Nat}:∀ k∈Uf st T,k∈T:=λk h=>(nW.1 h).1
structure Stp (T TA:List Nat) (dst:Option Nat) (st st':St):Prop where
 sl:∀(i:Nat) (p:PV),some i≠dst->st.sl[i]?=some p->(∀ k∈TA,k∉p.refs)->st'.sl[i]?=some p
 bx:∀(k:Nat) (B:Bx),st.bx[k]?=some B->k∉T->(∀ j∈T,j∉B.refs)->st'.bx[k]?=some B
 bl:st.bx.length<=st'.bx.length
 ll:st'.sl.length=st.sl.length
theorem Stp.rfl' {T TA:List Nat}{dst:Option Nat}:Stp T TA dst st st:=⟨λ_ _ _ h _=>h,λ_ _ h _ _=>h,oD _,rfl⟩
theorem Stp.put {T TA:List Nat}{dst:Option Nat}(h:Stp T TA dst st st')(p:PV):Stp T TA dst st (st'.put dst p):=by
 cases dst with
 | none=>exact h
 | some d=>refine⟨λi q hi I J=>?_,λk B hk O U=>h.bx k B hk O U,h.bl,by simp[St.put,h.ll]⟩;simp only[St.put];rw[nJ (λhc=>hi (by rw[hc]))];exact h.sl i q hi I J
theorem Stp.app {T TA:List Nat}{dst:Option Nat}(h:Stp T TA dst st st')(rows:List Bx)(N:Nat):Stp T TA dst st { st' with bx:=st'.bx++rows,N:=N }:=by
 refine⟨h.sl,λk B hk I J=>?_,by simp;have:=h.bl;omega,h.ll⟩
 have:=h.bx k B hk I J
 simp only;rw[oO (oC.1 this).1];exact this
theorem Stp.set {T TA:List Nat}{dst:Option Nat}(h:Stp T TA dst st st'){k:Nat}(hk:k∈T)(B:Bx):Stp T TA dst st { st' with bx:=st'.bx.set k B }:=by refine⟨h.sl,λj C J I O=>?_,by simp;exact h.bl,h.ll⟩;simp only;rw[nJ (λhc=>I (by rw[<-hc];exact hk))];exact h.bx j C J I O
theorem Gt {k:Nat}{p:PV}(h:k∉p.refs):p.kill k=p:=by simp[PV.kill,h]
theorem Stp.kill {T TA:List Nat}{dst:Option Nat}(h:Stp T TA dst st st'){k:Nat}(hk:k∈T)(U:k∈TA):Stp T TA dst st (st'.kill k):=by
 refine⟨λi p hi I J=>?_,λj C Y h1 O=>?_,by simp[St.kill];exact h.bl,by simp[St.kill,h.ll]⟩
 ·simp only[St.kill,oG,h.sl i p hi I J,oe,Gt (J k U)]
 ·simp only[St.kill,oG,h.bx j C Y h1 O,oe];congr 1;cases C with
  | var cs=>
    simp only[Bx.kill];congr 1
    conv=>rhs;rw[<-List.map_id cs]
    refine nH λp I=>Gt λhc=>O k hk ?_;simp only[Bx.refs];exact PV.refsL_mem.2 ⟨p,I,hc⟩
  | _=>rfl
theorem HK {T TA:List Nat}{dst:Option Nat}{bx:List Bx}:∀(ks:List Nat)(st':St),(∀ k∈ks,k∈T)->(∀ k∈ks,(bx.getD k .gone).isArr=true->k∈TA)->Stp T TA dst st st'->Stp T TA dst st (w9 bx ks st')
 | [],st',_,_,h=>h
 | k::ks,st',hk,J,h=>by
   simp only[w9];split
   ·rename_i hc;exact HK ks _ (λj I=>hk j (by simp[I])) (λj I=>J j (by simp[I])) (h.kill (hk k (by simp)) (J k (by simp) hc))
   ·exact HK ks _ (λj I=>hk j (by simp[I])) (λj I=>J j (by simp[I])) h
theorem Zi {dst:Option Nat}(ks:List Nat)(nb rows:List Bx)(N:Nat):Stp ks (Uf st ks) dst st (zAd st ks nb rows N):=by
 have I:=HK (dst:=dst) (bx:=st.bx) ks st (λ_ h=>h) (λk hk hc=>nW.2 ⟨hk,hc⟩) Stp.rfl';refine Stp.app (st':={ w9 st.bx ks st with bx:=bxN ks (nb.map (Bx.mapR λj=>ks.getD j 0)) 0 (w9 st.bx ks st).bx }) ⟨I.sl,λk B hk J hr=>?_,by simp only[xn];exact I.bl,I.ll⟩ rows N;have O:=I.bx k B hk J hr;simp only[OA,O,oe,nT];cases U:pos ks k with
 | none=>rfl
 | some j=>exact absurd (oA (An U)) J
theorem T0 {ρ:Operand->PV}{rb:Nat->Option Bx}{t:TypeId}{x y:Operand}{K:Nat->Bx->Prop}(h:stF P ρ rb t x y K):stF P ρ rb t x y λk B=>(∃ z i o,ρ x=.pb k z i o)/\K k B:=by
 unfold stF at h ⊢;split at h
 ·rename_i z k zz i o J I;split at h
  ·rename_i B O;have:(λB=>(∃ z i o,ρ x=.pb k z i o)/\K k B)=K k:=by funext B;exact propext ⟨λh=>h.2,λh=>⟨⟨_,_,_,I⟩,h⟩⟩
   show RW z zz B i o (retag P t (ρ y)) (λB=>(∃ z i o,ρ x=.pb k z i o)/\K k B);rw[this];exact h
  ·exact h.elim
 ·exact h.elim
theorem Rr {g:Bool} {dst:Option Nat} {t:TypeId} {x y:Operand} {K:St->Prop} {T:List Nat} (I:T=match retag P t (opd st.sl x)with | .sb k _ _ _ _=>[k] | _=>[]) (h:apF g P st dst t x y K) :
  apF g P st dst t x y λst'=>Stp T (Uf st T) dst st st'/\K st':=by
 have mono:∀(q:PV) (R R':Nat->List D->Prop),(∀ z l,R z l->R' z l)->Qk g (λk=>st.bx[k]?) q R->Qk g (λk=>st.bx[k]?) q R':=λq R R' O h=>by
  unfold Qk at h ⊢;split at h
  ·rename_i k z lo n c;simp only;split at h
   ·rename_i hk;simp only[hk];split at h
    ·split at h
     ·rename_i hc;rw[if_pos hc];exact O _ _ h
     ·exact h.elim
    ·split at h
     ·rename_i hc;rw[if_pos hc];exact⟨h.1,O _ _ h.2⟩
     ·exact h.elim
   ·exact h.elim
  ·exact O _ _ h
  ·exact h.elim
 unfold apF at h ⊢;split at h
 rotate_left
 ·exact h.elim
 rename_i el U
 try simp only[U]
 split at h
 rotate_left
 ·exact h.elim
 rename_i z i hz hi
 try simp only[hz,hi]
 split at h
 ·exact h.elim
 rename_i hb;rw[if_neg hb];refine mono _ _ _ (λz2 new h=>?_) h;split at h
 rotate_left
 ·exact h.elim
 rename_i Y;rw[if_pos Y];split at h
 ·rename_i k z1 lo n c J;rw[J]at I;simp only at I
  try simp only[J]
  split at h
  ·exact h.elim
  rename_i aa
  try simp only[aa]
  split at h
  ·rename_i t' z' es c' hk
   try simp only[hk]
   split at h
   ·rename_i hc;rw[if_pos hc];refine⟨h.1,h.2.1,λc2=>(h.2.2 c2).mono λh=>⟨?_,h⟩⟩;refine Stp.put (Stp.set (st':=st.kill k) (Stp.kill Stp.rfl' (by rw[I];simp) (by rw[I];simp[Uf,oB,hk,Bx.isArr])) (by rw[I];simp) _) _
   ·exact h.elim
  ·exact h.elim
 ·rename_i ad z1 es c J
  try simp only[J]
  split at h
  ·rename_i hc;rw[if_pos hc];refine⟨h.1,h.2.1,λc2=>⟨?_,h.2.2 c2⟩⟩;exact Stp.put (Stp.app Stp.rfl' _ _) _
  ·exact h.elim
 ·exact h.elim
theorem VI (h:Rel av w0 e0 pS pB a w e st) (ac:∀ k∈pB,k<st.bx.length) {sh:FuncId->List Sh} {o:Oper} {K:St->Prop}
  (hx:∀ x∈o.op.operands,∀ t,x=.tmp t->t∉pS) (aa:∀ i,i∈pS->some i≠o.dst->i∈pS') (hs:zAa P sh o st K)
  {next:Act->World->Prop} {Q:Exit->Act->World->Prop}
  (hn:∀ v w' e' st',K st'->Stp (EN P sh o st) (Uf st (EN P sh o st)) o.dst st st'->Rel av w0 e0 pS' pB (a.put o.dst v) w' e' st'->next (a.put o.dst v) w'):o.wp P a w next Q:=by
 unfold zAa at hs;split at hs
 ·rename_i t x y J;have Y:EN P sh o st=match opd st.sl x with | .pb k _ _ _=>[k] | _=>[]:=by simp only[EN,J]
  rw[J]at hx;simp only[Op.operands]at hx;obtain⟨w',k,B',h1,⟨⟨z,i,oo,hk⟩,h2⟩,h3⟩:=Tz h (hx x (by simp)) (hx y (by simp)) (T0 hs);have O:(execOp a.eval o).run P w=.ok .skip w':=by obtain⟨dst,op,ty,pos,after,guard⟩:=o;simp only at J;subst J;simp[execOp,h1]
  unfold Oper.wp;rw[O,Oper.upon_skip];refine hn undef w' e _ h2 ?_ (vC h3 ⟨.inr rfl,by simp[PV.Ok,PV.OkL],by simp[PV.refs,PV.refsL]⟩ aa);rw[Y,hk];exact Stp.put (Stp.set Stp.rfl' (by simp) _) _
 ·rename_i c J;rw[J]at hx;simp only[Op.operands,Call.operands]at hx;split at hs
  ·rename_i hc;split at hs
   ·rename_i x y t t' I U;split at hs
    rotate_left
    ·have hm:∀ z,z∈[x,y]->z∈c.args:=λz hz=>by rw[<-I]at hz;exact ow.1 hz
     split at hs
     ·skip
      obtain⟨v,w',e',st',h1,h3,h4,k,z,lo,n,cc,B,q,hq,⟨t1,z1,ax,c1,hk⟩,h2⟩:=O8 h (ty:=o.type) (hx x (by simp[hm])) (hx y (by simp[hm])) aa hs;have ea:c.args=#[x,y]:=by rw[<-np,I]
      have et:c.argTypes=#[t,t']:=by rw[<-np,U]
      have O:(execOp a.eval o).run P w=.ok (.value v) w':=by obtain⟨dst,op,ty,pos,after,guard⟩:=o;simp only at J h1;subst J;simp[execOp,resolve,hc,invoke,builtin,ea,et,h1]
      unfold Oper.wp;rw[O,Oper.upon_value];refine hn v w' e' st' h3 ?_ h4;rw[h2];have Y:EN P sh o st=[k]:=by simp only[EN,J,hc,I,U,hq]
      rw[Y];exact Stp.put (Stp.set (st':=st.kill k) (Stp.kill Stp.rfl' (by simp) (by simp[Uf,oB,hk,Bx.isArr])) (by simp) _) _
     ·skip
      obtain⟨v,w',e',st',h1,h3,h4,rows,q,h2⟩:=RH h ac (ty:=o.type) (hx x (by simp[hm])) (hx y (by simp[hm])) aa hs;have ea:c.args=#[x,y]:=by rw[<-np,I]
      have et:c.argTypes=#[t,t']:=by rw[<-np,U]
      have O:(execOp a.eval o).run P w=.ok (.value v) w':=by obtain⟨dst,op,ty,pos,after,guard⟩:=o;simp only at J h1;subst J;simp[execOp,resolve,hc,invoke,builtin,ea,et,h1]
      unfold Oper.wp;rw[O,Oper.upon_value];refine hn v w' e' st' h3 ?_ h4;rw[h2];exact Stp.put (Stp.app (N:=st.N) Stp.rfl' rows) q
    rename_i am;subst am;have hm:∀ z,z∈[x,y]->z∈c.args:=λz hz=>by rw[<-I]at hz;exact ow.1 hz
    have Y:EN P sh o st=match retag P t (opd st.sl x)with | .sb k _ _ _ _=>[k] | _=>[]:=by simp only[EN,J,hc,I,U]
    obtain⟨v,w',e',st',h1,⟨h2,h3⟩,h4⟩:=Rq h ac (ty:=o.type) (hx x (by simp[hm])) (hx y (by simp[hm])) aa (Rr Y hs);have ea:c.args=#[x,y]:=by rw[<-np,I]
    have et:c.argTypes=#[t,t]:=by rw[<-np,U]
    have O:(execOp a.eval o).run P w=.ok (.value v) w':=by obtain⟨dst,op,ty,pos,after,guard⟩:=o;simp only at J h1;subst J;simp[execOp,resolve,hc,invoke,builtin,ea,et,h1]
    unfold Oper.wp;rw[O,Oper.upon_value];exact hn v w' e' st' h3 h2 h4
   ·exact hs.elim
  ·rename_i hc;split at hs
   ·rename_i x t I U;have hm:∀ z,z∈[x]->z∈c.args:=λz hz=>by rw[<-I]at hz;exact ow.1 hz
    obtain⟨v,w',st',h1,h3,h4,k,B,⟨z,lo,n,cc,hk⟩,h2⟩:=OK h (ty:=o.type) (hx x (by simp[hm])) aa hs;have Y:EN P sh o st=[k]:=by simp only[EN,J,hc,I,hk]
    have ea:c.args=#[x]:=by rw[<-np,I]
    have et:c.argTypes=#[t]:=by rw[<-np,U]
    have O:(execOp a.eval o).run P w=.ok (.value v) w':=by obtain⟨dst,op,ty,pos,after,guard⟩:=o;simp only at J h1;subst J;simp[execOp,resolve,hc,invoke,builtin,ea,et,h1]
    unfold Oper.wp;rw[O,Oper.upon_value];refine hn v w' e st' h3 ?_ h4;rw[Y,h2];exact Stp.put (Stp.set Stp.rfl' (by simp) _) _
   ·exact hs.elim
  ·rename_i hc;split at hs
   ·rename_i x t I U;split at hs
    ·rename_i el n ao ae;have hm:∀ z,z∈[x]->z∈c.args:=λz hz=>by rw[<-I]at hz;exact ow.1 hz
     have ox:=(vu h (hx x (by simp[hm]))).valOk;have ea:c.args=#[x]:=by rw[<-np,I]
     have et:c.argTypes=#[t]:=by rw[<-np,U]
     have hv:∃(b:Option Addr) (m:Nat),a.eval x=.slice b m n:=by
      cases aq:opd st.sl x<;>rw[aq]at ae ox<;>simp[zA0]at ae
      ·subst ae
       have:=ox.1.resolve_left (by simp)
       exact⟨_,_,this⟩
      ·subst ae
       have:=ox.1.resolve_left (by simp)
       rw[this];simp only[PV.val,PV.val1,PV.cv];split<;>exact⟨_,_,rfl⟩
     obtain⟨b,m,hv⟩:=hv;have O:(execOp a.eval o).run P w=.ok (.value (.int .i64 n)) w:=by obtain⟨dst,op,ty,pos,after,guard⟩:=o;simp only at J;subst J;simp[execOp,resolve,hc,invoke,builtin,ea,et,Builtin.cap_,run_underlying ao,hv,goInt]
     unfold Oper.wp;rw[O,Oper.upon_value];exact hn _ w e _ hs (Stp.put Stp.rfl' _) (vC h yE aa)
    ·exact hs.elim
   ·exact hs.elim
  ·rename_i x hc;have Y:EN P sh o st=XI sh st x (zy P (YP P (opd st.sl x)) (c.args.toList.map (opd st.sl))):=by simp only[EN,J,hc]
   rw[Y]at hn;have ah:∀(i:Nat) (p:PV) (y:Operand),(zy P (YP P (opd st.sl x)) (c.args.toList.map (opd st.sl)))[i]?=some p->c.args[i]?=some y->ValOk av w e pB st.bx (a.eval y) p:=λi p y hp hy=>by
    obtain⟨q,hq,au⟩:=qN _ _ _ _ hp;rw[oG]at hq;simp only[nw,hy,oe,nL]at hq;subst hq
    have:=(vu h (hx y (by simp[Array.mem_of_getElem? hy]))).valOk
    rcases au with rfl | ⟨t,rfl⟩
    ·exact this
    ·exact this.retag t
   have ai:(zy P (YP P (opd st.sl x)) (c.args.toList.map (opd st.sl))).length=c.args.size:=by rw[wl];simp
   generalize zy P (YP P (opd st.sl x)) (c.args.toList.map (opd st.sl))=args at hs hn ah ai;unfold Yv at hs;unfold XI at hn;split at hs
   ·rename_i f caps hf;simp only[hf]at hn;split at hs
    ·rename_i rs aj;simp only[aj]at hn;unfold Yu at hs;rw[hf]at hs;simp only at hs;split at hs
     ·rename_i ab;rw[oa]at ab;have ak:∀ k∈PV.refsL (args++caps),k∉pB:=λk hk=>by
       obtain⟨p,hp,al⟩:=PV.refsL_mem.1 hk;rcases oM.1 hp with hp | hp
       ·obtain⟨i,hi⟩:=oQ.1 hp;have aw:i<c.args.size:=by rw[<-ai];exact(oC.1 hi).1
        exact((ah i p _ hi (o9 aw)).2.2 k al).1
       ·have ox:=D1 (vu h (hx x (by simp[hc]))).valOk hf;exact(ox.2.2 k (by simp only[PV.refs];exact PV.refsL_mem.2 ⟨p,hp,al⟩)).1
      refine OI h ac J hc (hx x (by simp[hc])) ai ah hf ab (tw 200 _ [] mR) (C8 (A:=λk=>k∉pB) (λk hk j hj=>?_) 200 _ [] ak (by simp)) aa hs λv w' e' st' h1 h2 h3=>?_
      ·rw[oB]at hj;cases hB:st.bx[k]? with
       | none=>rw[hB]at hj;simp[Bx.refs]at hj
       | some B=>rw[hB]at hj;exact(h.bf k B hB hk j hj).1
      ·obtain⟨nb,rows,N,q,rfl⟩:=h2;exact hn v w' e' _ h1 (Stp.put (Zi _ _ _ _) _) h3
     ·exact hs.elim
    ·rename_i aj;simp only[aj]at hn;refine OJ h ac J hc (hx x (by simp[hc])) ai ah aa hs λv w' e' st' h1 h2 h3=>?_;obtain⟨rows,q,N,rfl⟩:=h2;exact hn v w' e' _ h1 (Stp.put (Stp.app Stp.rfl' _ _) _) h3
   ·exact hs.elim
  ·exact hs.elim
 ·exact hs.elim
variable {av:Nat->Prop} {P:Program} {w0 w w':World} {e0 e:Env} {pS pS' pB pB':List Nat} {a:Act} {st st':St}
structure MkH where
 place:Option Nat:=none
 keep:List Nat:=[]
 same:Option Nat:=none
structure Ent where
 i:Nat
 hard:Bool:=false
 cl:List Nat:=[]
 fs:List Nat:=[]
 mh:Option MkH:=none
 tr:Bool:=false
def Br (v:Bool)(A B:Prop):Prop:=match v with
 | true=>A
 | false=>B
theorem Br.spec {v:Bool}{A B:Prop}(h:Br v A B):(v=true/\A)\/(v=false/\B):=by
 cases v
 ·exact .inr ⟨rfl,h⟩
 ·exact .inl ⟨rfl,h⟩
def UK (ops:Array Oper) (o:Oper) (st:St) (A B:St->Prop):Prop:=
 match o.guard with
 | none=>A st
 | some (g,I)=>match ops[g]? with
   | some J=>match J.dst with
     | some d=>match st.sl[d]? with
       | some (.bool v)=>Br v (match I with
         | true=>A (st.put (some d) (.bool true))
         | false=>B (st.put (some d) (.bool true))) (match I with
         | true=>B (st.put (some d) (.bool false))
         | false=>A (st.put (some d) (.bool false)))
       | some (.tp [])=>B st
       | _=>False
     | none=>False
   | none=>False
def YJ (ops:Array Oper)(o:Oper)(st:St):Prop:=∀ g I,o.guard=some (g,I)->∃ J d,ops[g]?=some J/\J.dst=some d/\st.sl[d]?=some (.bool I)
def Z8 (ops:Array Oper)(o:Oper)(st:St):Prop:=∃ g I J d,o.guard=some (g,I)/\ops[g]?=some J/\J.dst=some d/\(st.sl[d]?=some (.bool (!I))\/st.sl[d]?=some (.tp []))
theorem Ku {d:Nat}{p:PV}(h:st.sl[d]?=some p):st.put (some d) p=st:=
 St.put_same λd' hd I=>by cases hd;exact h
theorem Jm {ops:Array Oper}{o:Oper}{A B:St->Prop}(h:UK ops o st A B):(YJ ops o st/\A st)\/(Z8 ops o st/\B st):=by
 unfold UK at h;split at h
 ·rename_i O;exact .inl ⟨λg I hc=>(by rw[O]at hc;cases hc),h⟩
 ·rename_i g I O;split at h
  ·rename_i Y J;split at h
   ·rename_i d hd;split at h
    ·rename_i v hv;rcases h.spec with⟨rfl,h⟩ | ⟨rfl,h⟩
     ·rw[Ku hv]at h;cases I
      ·exact .inr ⟨⟨g,false,Y,d,O,J,hd,.inl hv⟩,h⟩
      ·exact .inl ⟨λg' U hc=>(by rw[O]at hc;cases hc;exact⟨Y,d,J,hd,hv⟩),h⟩
     ·rw[Ku hv]at h;cases I
      ·exact .inl ⟨λg' U hc=>(by rw[O]at hc;cases hc;exact⟨Y,d,J,hd,hv⟩),h⟩
      ·exact .inr ⟨⟨g,true,Y,d,O,J,hd,.inl hv⟩,h⟩
    ·rename_i hv;exact .inr ⟨⟨g,I,Y,d,O,J,hd,.inr hv⟩,h⟩
    ·exact h.elim
   ·exact h.elim
  ·exact h.elim
theorem Ns (h:Rel av w0 e0 pS pB a w e st){ops:Array Oper}{o:Oper}(hw:YJ ops o st)(hl:∀ t∈o.looksAt ops,t∉pS):Region.wanted o (yielded ops a.tmps)=true:=by
 unfold Region.wanted;cases Y:o.guard with
 | none=>rfl
 | some gw=>
   obtain⟨g,I⟩:=gw;obtain⟨og,d,h1,h2,h3⟩:=hw g I Y;have U:d∉pS:=hl d (by simp[Oper.looksAt,Y,h1,h2]);have hv:=(h.hs d _ h3 U).resolve_left (by simp);have J:d<a.tmps.size:=nI (oC.1 h3).1 h.sz;have O:a.tmps[d]?=some (.bool I):=by rw[nY,o9 J]at hv;rw[o9 J];simp only[ob]at hv;rw[hv];rfl
   simp[yielded,h1,h2,O]
theorem NA (h:Rel av w0 e0 pS pB a w e st){ops:Array Oper}{o:Oper}(hw:Z8 ops o st)(hl:∀ t∈o.looksAt ops,t∉pS):Region.wanted o (yielded ops a.tmps)=false:=by
 obtain⟨g,O,og,d,hg,Y,h2,h3⟩:=hw;have U:d∉pS:=hl d (by simp[Oper.looksAt,hg,Y,h2]);unfold Region.wanted;rw[hg];rcases h3 with h3 | h3
 ·have hv:=(h.hs d _ h3 U).resolve_left (by simp);have J:d<a.tmps.size:=nI (oC.1 h3).1 h.sz;have I:a.tmps[d]?=some (.bool (!O)):=by rw[nY,o9 J]at hv;rw[o9 J];simp only[ob]at hv;rw[hv];rfl
  simp[yielded,Y,h2,I]
 ·have hv:=(h.hs d _ h3 U).resolve_left (by simp);have J:d<a.tmps.size:=nI (oC.1 h3).1 h.sz;have I:∃ l',a.tmps[d]?=some (.tuple l'):=by rw[nY,o9 J]at hv;rw[o9 J];simp only[ob]at hv;rw[hv];exact⟨_,rfl⟩
  obtain⟨l',I⟩:=I;simp[yielded,Y,h2,I]
theorem AL (h:Rel av w0 e0 pS pB a w e st)(hp:∀ k,k∈pB'↔k∈pB)(hs:∀ i,i∈pS->i∈pS'):Rel av w0 e0 pS' pB' a w e st:=by
 have hn:∀ k,k∉pB'↔k∉pB:=λk=>not_congr (hp k);have U:∀ k b,Lives pB' e st.bx k b↔Lives pB e st.bx k b:=λk b=>by unfold Lives;rw[hn]
 have Y:zg av pB' e st.bx=zg av pB e st.bx:=by funext b;unfold zg;exact propext (or_congr lO (exists_congr λk=>U k b))
 have O:∀ i,i∉pS'->i∉pS:=λi hi hc=>hi (hs i hc);exact {
  el:=h.el
  br:=λk B hk I=>h.br k B hk ((hn k).1 I)
  bo:=λk B hk I=>by rw[Y];exact h.bo k B hk ((hn k).1 I)
  bf:=λk B hk I j hj=>by have:=h.bf k B hk ((hn k).1 I) j hj;exact⟨(hn j).2 this.1,this.2⟩
  inj:=λk j b h1 h2=>h.inj k j b ((U k b).1 h1) ((U j b).1 h2)
  ku:=h.ku
  size:=h.size
  old:=h.old
  fz:=h.fz
  nd:=h.nd
  sz:=h.sz
  hN:=h.hN
  hs:=λi p hi J=>h.hs i p hi (O i J)
  so:=λi p hi J=>by rw[Y];exact h.so i p hi (O i J)
  sr:=λi p hi J k hk=>by have:=h.sr i p hi (O i J) k hk;exact⟨(hn k).2 this.1,this.2⟩
  own:=λk b hk=>h.own k b ((U k b).1 hk)
  avl:=h.avl
  avn:=λk b hk=>h.avn k b ((U k b).1 hk)
  pin:=λk b hb=>by have:=h.pin k b hb;exact⟨this.1,(hn k).2 this.2⟩
  pit:=h.pit }
theorem Xl (h:Rel av w0 e0 pS pB a w e st) (Y:∀ k∈pB,k<st.bx.length) {o:Oper} (hx:∀ x∈o.op.operands,∀ t,x=.tmp t->t∉pS) {K:Res->Prop}
  (hs:nev P (opd st.sl) (λk=>st.bx[k]?) o.op o.type K) :
  ∃ v w' e' r,(execOp a.eval o).run P w=.ok (.value v) w'/\K r/\Rel av w0 e0 pS pB (a.put o.dst v) w' e' (st.push o.dst r):=by
 obtain⟨r,hK,hr⟩:=S7 _ hs;have hr:=hr (λq=>q=r) rfl;cases r with
 | v p=>
   rcases Kk h hx hr with⟨v,q,O,J,I⟩ | ⟨v,c,t,B,f,O,J,I⟩
   ·cases J;exact⟨v,w,e,.v p,O,hK,vC h I λi hi _=>hi⟩
   ·cases J
 | b B f=>
   have O:=qM h (B:=B);have aa:nev P (opd st.sl) (λk=>(st.bx++[B])[k]?) o.op o.type (λq=>q=.b B f):=by
    rw[G0 (ρ:=opd st.sl) (rb:=λk=>st.bx[k]?) (λ_ _=>rfl) λx ab k hk=>?_]
    ·exact hr
    ·have:=(vu h (hx x ab)).rf k hk
     exact oO this.2
   rcases Kk O hx aa with⟨v,q,O,J,I⟩ | ⟨v,c,t,B',f',h4,J,I⟩
   ·cases J
   ·cases J;have h5:=Bj O (k:=st.bx.length) (B:=B) (by simp) (by simp) I;have U:st.bx.length<(e++[none]).length:=by simp[h.el]
    have h6:ValOk av (w.alloc (.cells c t)) ((e++[none]).set st.bx.length (some w.heap.size)) ((st.bx.length::pB).filter (·≠st.bx.length)) (st.bx++[B]) v (f st.bx.length):=
     ⟨.inr (I.val _ _ (Env.at_set_eq U)),I.fok _ _ _,by rw[I.fr];simp⟩
    refine⟨v,_,_,.b B f,h4,hK,AL (pS:=pS) (vC h5 h6 λi hi _=>hi) (λk=>?_) λ_=>id⟩;simp only[nW,oH,ne_eq,oq];constructor
    ·intro hk;have:=Y k hk;exact⟨.inr hk,by omega⟩
    ·rintro⟨h7 | h7,h8⟩
     ·exact absurd h7 h8
     ·exact h7
def VH (P:Program)(sh:FuncId->List Sh)(o:Oper)(st:St)(K:St->Prop):Prop:=
 match Xe o.op with
 | true=>nev P (opd st.sl) (λk=>st.bx[k]?) o.op o.type λr=>K (st.push o.dst r)
 | false=>zAa P sh o st K
def QV (P:Program)(sh:FuncId->List Sh)(o:Oper)(st:St):List Nat:=
 match Xe o.op with
 | true=>[]
 | false=>EN P sh o st
theorem QJ {dst:Option Nat}{r:Res}:Stp [] [] dst st (st.push dst r):=by
 cases r with
 | v p=>exact Stp.put Stp.rfl' p
 | b B f=>exact Stp.put (Stp.app Stp.rfl' [B] st.N) _
theorem Mi (h:Rel av w0 e0 pS pB a w e st) (J:∀ k∈pB,k<st.bx.length) {sh:FuncId->List Sh} {o:Oper} {K:St->Prop}
  (hx:∀ x∈o.op.operands,∀ t,x=.tmp t->t∉pS) (hs:VH P sh o st K)
  {next:Act->World->Prop} {Q:Exit->Act->World->Prop}
  (hn:∀ v w' e' st',K st'->Stp (QV P sh o st) (Uf st (QV P sh o st)) o.dst st st'->Rel av w0 e0 pS pB (a.put o.dst v) w' e' st'->next (a.put o.dst v) w'):o.wp P a w next Q:=by
 unfold VH at hs;unfold QV at hn;split at hs
 ·rename_i I;simp only[I]at hn;obtain⟨v,w',e',r,O,U,Y⟩:=Xl h J hx hs;unfold Oper.wp;rw[O,Oper.upon_value];exact hn v w' e' _ U QJ Y
 ·rename_i I;simp only[I]at hn;exact VI h J hx (λi hi _=>hi) hs hn
abbrev Pend:=List (Nat × Option Nat)
def Ax (ops:Array Oper)(i:Nat):Option Nat:=(ops[i]?).bind (·.dst)
def Vz (T:List Nat)(st:St)(p:PV):Bool:=
 p.refs.all λk=>!T.contains k&&match st.bx[k]? with
  | some B=>B.refs.all λj=>!T.contains j
  | none=>true
def Tn (ops:Array Oper)(T:List Nat)(st:St)(x:Nat × Option Nat):Bool:=
 match ops[x.1]? with
 | some o=>(match x.2 with
   | some k=>!T.contains k&&(match st.bx[k]? with
     | some B=>B.refs.all λj=>!T.contains j
     | none=>true)
   | none=>true)&&(o.op.operands.toList.all λy=>Vz T st (opd st.sl y))&&(match o.dst with
   | some d=>Vz T st (st.sl.getD d .any)
   | none=>true)
 | none=>false
def mvP (ops:Array Oper)(x:Nat × Option Nat):Bool:=match x.2,ops[x.1]? with
 | none,some o=>match o.op with
   | .move _=>true
   | _=>false
 | _,_=>false
def Vy (ops:Array Oper)(T:List Nat)(st:St)(pf:Pend):Bool:=
 match T with
 | []=>true
 | T=>pf.all (Tn ops T st)
def safe (ops:Array Oper)(T:List Nat)(st:St)(pf:Pend):Bool:=
 match T with
 | []=>true
 | T=>pf.all λx=>Tn ops T st x||(mvP ops x&&Tn ops (Uf st T) st x)
def Vu:Res->Option Nat->Option PV
 | .v p,none=>some p
 | .b _ f,some k=>some (f k)
 | _,_=>none
def YG (ops:Array Oper)(P:Program)(st:St)(o:Oper)(b:Option Nat):Prop:=
 (YJ ops o st/\(∀ y∈o.op.operands,∀ k∈(opd st.sl y).refs,k<st.bx.length)/\∃ r q,nev P (opd st.sl) (fun k=>st.bx[k]?) o.op o.type (fun q=>q=r)/\Vu r b=some q /\
  (∀ d,o.dst=some d->d<st.sl.length->st.sl[d]?=some q)/\∀ B f k,r=.b B f->b=some k->st.bx[k]?=some B) \/
 (Z8 ops o st/\b=none/\∀ d,o.dst=some d->d<st.sl.length->st.sl[d]?=some (.tp []))
def zA7 (ops:Array Oper)(P:Program)(st:St)(x:Nat × Option Nat):Prop:=∃ o,ops[x.1]?=some o/\YG ops P st o x.2
structure SafeP (T:List Nat) (st:St) (p:PV):Prop where
 r:∀ k∈T,k∉p.refs
 b:∀ k∈p.refs,k∉T/\∀ B,st.bx[k]?=some B->∀ j∈T,j∉B.refs
theorem JW {T:List Nat}{p:PV}(h:Vz T st p=true):SafeP T st p:=by
 simp only[Vz,oa,oE,mA]at h;have J:∀ k∈p.refs,k∉T:=λk hk=>by have:=(h k hk).1;simpa using this
 refine⟨λk hk hc=>J k hc hk,λk hk=>⟨J k hk,λB O j U I=>?_⟩⟩
 have:=(h k hk).2
 rw[O]at this;simp only[oa,mA]at this
 have:=this j I
 simp at this;exact this U
structure Safe1 (T:List Nat) (st:St) (o:Oper) (b:Option Nat):Prop where
 op:∀ y∈o.op.operands,SafeP T st (opd st.sl y)
 ds:∀ d,o.dst=some d->SafeP T st (st.sl.getD d .any)
 bx:∀ k,b=some k->k∉T/\∀ B,st.bx[k]?=some B->∀ j∈T,j∉B.refs
theorem Fv {o:Oper}{b:Option Nat}:Safe1 [] st o b:=⟨λ_ _=>⟨by simp,by simp⟩,λ_ _=>⟨by simp,by simp⟩,by simp⟩
theorem EE {ops:Array Oper}{T:List Nat}{x:Nat × Option Nat}{o:Oper}(U:ops[x.1]?=some o)(h:Tn ops T st x=true):Safe1 T st o x.2:=by
 unfold Tn at h;rw[U]at h;simp only[oE]at h;obtain⟨⟨I,Y⟩,O⟩:=h;refine⟨λy hy=>JW (oa.1 Y y (ow.2 hy)),λd hd=>?_,λk hk=>?_⟩
 ·rw[hd]at O;exact JW O
 ·rw[hk]at I;simp only[oE,mA]at I;refine⟨by have:=I.1;simpa using this,λB hB j hj J=>?_⟩
  have:=I.2
  rw[hB]at this;simp only[oa,mA]at this
  have:=this j J
  simp at this;exact this hj
def zAz (T TA:List Nat)(st:St)(o:Oper)(b:Option Nat):Prop:=Safe1 T st o b\/((∃ y,o.op=.move y)/\b=none/\Safe1 TA st o b)
theorem RV {ops:Array Oper}{T:List Nat}{pf:Pend}(h:Vy ops T st pf=true){x:Nat × Option Nat}(hx:x∈pf){o:Oper}(I:ops[x.1]?=some o):Safe1 T st o x.2:=by
 unfold Vy at h;split at h
 ·exact Fv
 ·exact EE I (oa.1 h x hx)
theorem To {ops:Array Oper}{T:List Nat}{pf:Pend}(h:safe ops T st pf=true){x:Nat × Option Nat}(hx:x∈pf){o:Oper}(J:ops[x.1]?=some o):zAz T (Uf st T) st o x.2:=by
 unfold safe at h;split at h
 ·exact .inl Fv
 ·have:=oa.1 h x hx
  rw[nB,oE]at this;rcases this with I | ⟨I,U⟩
  ·exact .inl (EE J I)
  ·refine .inr ⟨?_,?_,EE J U⟩<;>unfold mvP at I<;>split at I
   ·rename_i Y e1 O;rw[J]at O;cases O;split at I
    ·exact⟨_,by assumption⟩
    ·cases I
   ·cases I
   ·assumption
   ·cases I
theorem Ft {ops:Array Oper}{o:Oper}{b:Option Nat}{T TA:List Nat}{dst:Option Nat}(h:YG ops P st o b)(O:Stp T TA dst st st')(hA:∀ k∈TA,k∈T)(hs:zAz T TA st o b)(hd:∀ d,dst=some d->d∉o.looksAt ops/\o.dst≠some d):YG ops P st' o b:=by
 have aj:∀ y∈o.op.operands,∀ k∈TA,k∉(opd st.sl y).refs:=λy Y k hk=>by
  rcases hs with hs | ⟨_,_,hs⟩
  ·exact(hs.op y Y).r k (hA k hk)
  ·exact(hs.op y Y).r k hk
 have ak:∀ d,o.dst=some d->∀ k∈TA,k∉(st.sl.getD d .any).refs:=λd I k hk=>by
  rcases hs with hs | ⟨_,_,hs⟩
  ·exact(hs.ds d I).r k (hA k hk)
  ·exact(hs.ds d I).r k hk
 have J:∀ t p,t∈o.looksAt ops->st.sl[t]?=some p->(∀ k∈TA,k∉p.refs)->st'.sl[t]?=some p:=λt p ht hp hk=>O.sl t p (λhc=>(hd t hc.symm).1 ht) hp hk;have aa:∀ y∈o.op.operands,opd st'.sl y=opd st.sl y:=λy Y=>by
  cases y with
  | tmp t=>
    have U:=aj _ Y;simp only[opd]at U ⊢;rw[oB]at U;rw[oB,oB];cases hp:st.sl[t]? with
    | none=>have:st'.sl[t]?=none:=oY (by rw[O.ll];exact nX.1 hp);rw[this]
    | some p=>rw[hp]at U;rw[J t p (by unfold Oper.looksAt;exact ol _ (mC.2 ⟨.tmp t,ow.2 Y,rfl⟩)) hp U]
  | _=>rfl
 have ah:YJ ops o st->YJ ops o st':=λhw g ab hg=>by obtain⟨og,d,h1,h2,h3⟩:=hw g ab hg;exact⟨og,d,h1,h2,J d _ (by simp[Oper.looksAt,hg,h1,h2]) h3 (by simp[PV.refs])⟩
 have ae:∀ d q,o.dst=some d->st.sl[d]?=some q->(∀ k∈TA,k∉q.refs)->st'.sl[d]?=some q:=λd q I hq hk=>O.sl d q (λhc=>(hd d hc.symm).2 I) hq hk;rcases h with⟨h1,h0,r,q,h2,h3,h4,h5⟩ | ⟨⟨g,ab,og,d,g1,g2,g3,g4⟩,h2,h3⟩
 ·refine .inl ⟨ah h1,λy Y k hk=>?_,r,q,?_,h3,λd I ac=>?_,λB f k hr hk=>?_⟩
  ·rw[aa y Y]at hk;have:=h0 y Y k hk;have:=O.bl;omega
  ·rcases hs with hs | ⟨⟨z,hz⟩,_,_⟩
   ·rw[G0 (ρ:=opd st.sl) (rb:=λk=>st.bx[k]?) aa λy Y k hk=>?_]
    ·exact h2
    ·have al:=h0 y Y k hk;have ai:=(hs.op y Y).b k hk;have hB:st.bx[k]?=some st.bx[k]:=oF al;show st'.bx[k]?=st.bx[k]?;rw[O.bx k _ hB ai.1 (ai.2 _ hB),hB]
   ·have aa:=aa z (by rw[hz];simp[Op.operands]);rw[hz]at h2 ⊢;simp only[nev,C4]at h2 ⊢;rw[aa];exact h2
  ·rw[O.ll]at ac;have hq:=h4 d I ac;have U:=ak d I;rw[oB,hq]at U;exact ae d q I hq U
  ·rcases hs with hs | ⟨_,hb,_⟩
   ·have hB:=h5 B f k hr hk
    have:=hs.bx k hk
    exact O.bx k B hB this.1 (this.2 B hB)
   ·rw[hb]at hk;cases hk
 ·refine .inr ⟨⟨g,ab,og,d,g1,g2,g3,?_⟩,h2,λd' I ac=>?_⟩
  ·have hm:d∈o.looksAt ops:=by simp[Oper.looksAt,g1,g2,g3]
   rcases g4 with g4 | g4
   ·exact .inl (J d _ hm g4 (by simp[PV.refs]))
   ·exact .inr (J d _ hm g4 (by simp[PV.refs,PV.refsL]))
  ·rw[O.ll]at ac;exact ae d' _ I (h3 d' I ac) (by simp[PV.refs,PV.refsL])
variable {av:Nat->Prop} {P:Program} {w0 w w':World} {e0 e:Env} {pS pS' pB pB':List Nat} {a:Act} {st st':St}
mutual
def D.Flat0:D->Prop
 | .lit _=>True
 | .ag cs=>xX cs
 | .sl a _ es _=>(∀ ad,a=some ad->ad.off=0)/\xX es
 | .pt ..=>False
 | .fn ..=>False
 | .mp ..=>False
def xX:List D->Prop
 | []=>True
 | d::ds=>d.Flat0/\xX ds
end
def D.elems:D->List D
 | .sl _ _ es _=>es
 | _=>[]
theorem Good.apart {F:List Nat}{live:Nat->Prop}(hold:∀ b,b<w.heap.size->b∉F->w'.heap[b]?=w.heap[b]?){x:D}(h:Good w live x)(hx:∀ b∈x.foot,b∉F):Good w' live x:=
 ⟨h.1.mono λb I=>hold b (h.1.lt b I) (hx b I),h.2⟩
theorem Gj:∀ {es:List D},xX es->∀ d∈es,d.Flat0
 | _::_,h,d,hd=>by
   rcases oH.1 hd with rfl | hd
   ·exact h.1
   ·exact Gj h.2 d hd
theorem Holds.block {w:World}{d:D}(h:Holds w d):d.Flat0->∀ b∈d.foot,∃ c t z,w.heap[b]?=some (.cells c t z):=by
 induction h with
 | lit=>simp[D.foot]
 | ag _ U=>intro I b hb;simp only[D.foot]at hb;obtain⟨c,hc,J⟩:=zQ.1 hb;exact U c hc (Gj I c hc) b J
 | nil=>simp[D.foot,zF]
 | @sl ad z es cap h1 h2 h3 _ Y U=>
   intro I b hb;by_cases O:es=[]
   ·subst O;simp[D.foot]at hb
   ·have hf:(D.sl (some ad) z es cap).foot=ad.block::zF es:=by simp[D.foot,O]
    rw[hf]at hb;rcases oH.1 hb with rfl | hb
    ·rcases Y with Y | ⟨c,t,fz,h6,_⟩
     ·exfalso
      have:=zW h3
      rw[Y]at this;have hp:=Cj z;have h0:0<es.length:=lK.2 O
      have:=Nat.mul_pos h0 hp
      simp at *;omega
     ·exact⟨c,t,fz,h6⟩
    ·obtain⟨c,hc,J⟩:=zQ.1 hb;exact U c hc (Gj I.2 c hc) b J
 | pt=>exact λh=>h.elim
 | fn=>exact λh=>h.elim
 | mp=>exact λh=>h.elim
variable {av:Nat->Prop} {P:Program} {w0 w w':World} {e0 e:Env} {pS pS' pB pB':List Nat} {a:Act} {st st':St}
variable {av:Nat->Prop} {P:Program} {w0 w w':World} {e0 e:Env} {pS pS' pB pB':List Nat} {a:Act} {st st':St}
def MK (N0:Option Nat)(fs fb:List Nat):List Nat->St->(St->Prop)->Prop
 | [],st,K=>K st
 | k::ks,st,K=>SQ N0 st k fs fb λst'=>MK N0 fs fb ks st' K
def zA6 (ops:Array Oper)(pf:Pend)(t:Nat):Bool:=pf.all λx=>match Ax ops x.1 with
 | some d=>!(d==t)
 | none=>true
def Ac (N0:Option Nat)(ops:Array Oper)(pf:Pend)(cl fs:List Nat)(st:St)(K:St->Prop):Prop:=
 match cl with
 | []=>K st
 | t :: cl=>match(C7 st.bx 200 ((t::cl).flatMap λt=>(st.sl.getD t .any).refs) []).filter (ZK st)with
   | []=>K st
   | k::ks=>match Vy ops (k::ks) st pf&&((t::cl)++fs).all (zA6 ops pf)with
     | true=>MK N0 fs (C7 st.bx 200 (fs.flatMap λt=>(st.sl.getD t .any).refs) []) (k::ks) st K
     | false=>False
theorem Stp.trans {T:List Nat}{st I st2:St}(J:Stp T T none st I)(O:Stp T T none I st2):Stp T T none st st2:=
 ⟨λi p hi hp U=>O.sl i p hi (J.sl i p hi hp U) U,λk B hk Y h4=>O.bx k B (J.bx k B hk Y h4) Y h4,oP J.bl O.bl,O.ll.trans J.ll⟩
theorem Stp.wide {T I:List Nat}{dst:Option Nat}(h:Stp T T dst st st')(J:∀ k∈T,k∈I):Stp I I dst st st':=
 ⟨λi p hi U hk=>h.sl i p hi U λk O=>hk k (J k O),λk B hk Y h4=>h.bx k B hk (λhc=>Y (J k hc)) λj hj=>h4 j (J j hj),h.bl,h.ll⟩
theorem MI {k z:Nat}{s p:PV}(h:k∉p.refs):Qx k s z p=p:=by
 cases p<;>simp only[Qx]<;>first
  | exact Gt h
  | (simp[PV.refs]at h;rw[if_neg (Ne.symm h)])
theorem Ux {k z:Nat}{s p:PV}(h:k∉p.refs):Proofs.YtlaniepnglheoaaGreat.clo k s z p=p:=by
 cases p
 case pg cs=>simp only[Proofs.YtlaniepnglheoaaGreat.clo];rw[if_neg];simpa [PV.refs]using h
 all_goals exact @MI _ k z s _ h
theorem stp_clo {k z N:Nat}{s:PV}:Stp [k] [k] none st (st.clo k s z N):=by
 refine⟨λi p _ I J=>?_,λj B O U Y=>?_,by simp[St.clo],by simp[St.clo]⟩
 ·simp only[St.clo,oG,I,oe,Ux (J k (by simp))]
 ·simp only[St.clo];rw[nJ (by simp at U;omega),oG,O];simp only[oe];congr 1;cases B with
  | var cs=>
    simp only[Bx.clo];congr 1
    conv=>rhs;rw[<-List.map_id cs]
    refine nH λp I=>MI λhc=>Y k (by simp) ?_;simp only[Bx.refs];exact PV.refsL_mem.2 ⟨p,I,hc⟩
  | _=>rfl
theorem pT {N0:Option Nat} (I:NOk N0 w0) {fs fb:List Nat} {K:St->Prop} (J:∀ i∈fs,i∉pS) (O:∀ i∈fb,i∉pB) :
  ∀(ks:List Nat) (st:St),Rel av w0 e0 pS pB a w e st->(∀ k∈ks,k∉pB)->MK N0 fs fb ks st K->∃ st',K st'/\Stp ks ks none st st'/\Rel av w0 e0 pS pB a w e st'
 | [],st,h,_,hs=>⟨st,hs,Stp.rfl',h⟩
 | k::ks,st,h,hk,hs=>by simp only[MK]at hs;obtain⟨s,z,N,U,Y,_⟩:=MJ h I (hk k (by simp)) J O hs;obtain⟨st',h3,h4,h5⟩:=pT I J O ks _ Y (λj hj=>hk j (by simp[hj])) U;exact⟨st',h3,(stp_clo.wide (by simp)).trans (h4.wide λk hk=>by simp[hk]),h5⟩
theorem TI {ops:Array Oper}{pf:Pend}{t:Nat}(h:zA6 ops pf t=true):∀ x∈pf,Ax ops x.1≠some t:=by
 intro x hx hc
 have:=oa.1 h x hx
 rw[hc]at this;simp at this
theorem uX (h:Rel av w0 e0 pS pB a w e st) {N0:Option Nat} (aa:NOk N0 w0) {ops:Array Oper} {pf:Pend} (ab:∀ t∈pS,∃ x∈pf,Ax ops x.1=some t) {cl fs:List Nat} {K:St->Prop} (hs:Ac N0 ops pf cl fs st K) :
  ∃ st' T,K st'/\Stp T T none st st'/\Vy ops T st pf=true/\Rel av w0 e0 pS pB a w e st':=by
 unfold Ac at hs;split at hs
 ·exact⟨st,[],hs,Stp.rfl',rfl,h⟩
 ·rename_i t cl;split at hs
  ·exact⟨st,[],hs,Stp.rfl',rfl,h⟩
  ·rename_i k ks ac;split at hs
   ·rename_i U;simp only[oE]at U;obtain⟨h1,h2⟩:=U;have J:∀ i∈(t::cl)++fs,i∉pS:=λi hi hc=>by obtain⟨x,hx,hd⟩:=ab i hc;exact TI (oa.1 h2 i hi) x hx hd
    have Y:∀ i,i∈(t::cl)++fs->∀ j∈(st.sl.getD i .any).refs,j∉pB:=λi hi j I=>by
     rw[oB]at I;cases hp:st.sl[i]? with
     | none=>rw[hp]at I;simp[PV.refs]at I
     | some p=>rw[hp]at I;exact(h.sr i p hp (J i hi) j I).1
    have O:∀ l:List Nat,(∀ i∈l,i∈(t::cl)++fs)->∀ j∈C7 st.bx 200 (l.flatMap λt=>(st.sl.getD t .any).refs) [],j∉pB:=λl hl=>by
     refine C8 (A:=λj=>j∉pB) (λk hk j I=>?_) _ _ _ (λj I=>?_) (by simp)
     ·rw[oB]at I;cases hB:st.bx[k]? with
      | none=>rw[hB]at I;simp[Bx.refs]at I
      | some B=>rw[hB]at I;exact(h.bf k B hB hk j I).1
     ·obtain⟨i,hi,I⟩:=mL.1 I;exact Y i (hl i hi) j I
    obtain⟨st',g1,g2,g3⟩  :=pT aa (λi hi=>J i (nP _ hi)) (O fs λi hi=>nP _ hi) (k::ks) st h (λj I=>by rw[<-ac]at I;exact O (t::cl) (λi hi=>ol _ hi) j (nW.1 I).1) hs;exact⟨st',_,g1,g2,h1,g3⟩
   ·exact hs.elim
def WS (ops:Array Oper)(i j:Nat):Bool:=match ops[j]? with
 | some o=>o.after.any λe=>e.on==i&&Region.binds .any e
 | none=>false
def IK (ops:Array Oper)(j:Nat):List Nat:=match ops[j]? with
 | some o=>(o.after.toList.filter (Region.binds .any)).map (·.on)
 | none=>[]
def Wy (ops:Array Oper):Nat->List Nat->List Nat->List Nat
 | 0,_,I=>I
 | _+1,[],I=>I
 | n+1,k::J,I=>match I.contains k with
   | true=>Wy ops n J I
   | false=>Wy ops n (IK ops k++J) (k::I)
theorem J5 {ops:Array Oper}{A:Nat->Prop}(U:∀ k,A k->∀ j∈IK ops k,A j):∀(n:Nat)(J I:List Nat),(∀ k∈J,A k)->(∀ k∈I,A k)->∀ k∈Wy ops n J I,A k
 | 0,_,I,_,h=>h
 | _+1,[],I,_,h=>h
 | n + 1,k::J,I,O,Y=>by
   simp only[Wy];split
   ·exact J5 U n J I (λj hj=>O j (by simp[hj])) Y
   ·refine J5 U n _ _ (λj hj=>?_) λj hj=>?_
    ·rcases oM.1 hj with hj | hj
     ·exact U k (O k (by simp)) j hj
     ·exact O j (by simp[hj])
    ·rcases oH.1 hj with rfl | hj
     ·exact O j (by simp)
     ·exact Y j hj
def V7 (I:List Nat)(nv:Pend):Pend:=nv.filter λx=>!I.contains x.1
def LA (ops:Array Oper)(j:Nat)(nv:Pend):Pend:=match nv with
 | []=>[]
 | nv=>V7 (Wy ops 1000 (IK ops j) []) nv
def Xb (P:Program)(sh:FuncId->List Sh)(N0:Option Nat)(ops:Array Oper)(pf:Pend)(en:Ent)(o:Oper)(st:St)(K:St->Prop):Prop:=
 match en.mh with
 | none=>match en.tr with
   | false=>Ac N0 ops pf en.cl en.fs st λst=>match safe ops (QV P sh o st) st pf with
     | true=>VH P sh o st K
     | false=>False
   | true=>match pf with
     | []=>VH P sh o st λst=>UD st o.dst K
     | _=>False
 | some mh=>match pf with
   | []=>False
   | _=>False
def zAl (o:Oper)(st:St):Bool:=o.op.operands.toList.all λy=>(opd st.sl y).refs.all λk=>decide (k<st.bx.length)
def Res.bk (r:Res)(n:Nat):Option Nat:=match r with
 | .v _=>none
 | .b ..=>some n
def P9 (P:Program)(sh:FuncId->List Sh)(N0:Option Nat)(ops:Array Oper):List Ent->Pend->St->(St->Prop)->Prop
 | [],_,st,K=>K st
 | en :: l,nv,st,K=>match ops[en.i]? with
   | none=>False
   | some o=>match en.hard with
     | true=>UK ops o st (λst=>Xb P sh N0 ops (LA ops en.i nv) en o st λst=>P9 P sh N0 ops l nv st K) (λst=>P9 P sh N0 ops l nv (st.put o.dst (.tp [])) K)
     | false=>UK ops o st (λst=>match Xe o.op&&zAl o st with
      | true=>nev P (opd st.sl) (λk=>st.bx[k]?) o.op o.type λr=>P9 P sh N0 ops l ((en.i,r.bk st.bx.length)::nv) (st.push o.dst r) K
      | false=>False) (λst=>P9 P sh N0 ops l ((en.i,none)::nv) (st.put o.dst (.tp [])) K)
theorem HY {bx:List Bx}:ValOk av w e pB bx undef (.tp []):=⟨.inr rfl,by simp[PV.Ok,PV.OkL],by simp[PV.refs,PV.refsL]⟩
theorem sq {ops:Array Oper}{o:Oper}{y:Operand}{t:Nat}(I:y∈o.op.operands)(J:y=.tmp t):t∈o.looksAt ops:=by subst J;exact ol _ (mC.2 ⟨.tmp t,ow.2 I,rfl⟩)
theorem Mj (h:Rel av w0 e0 pS pB a w e st) {N0:Option Nat} (hN0:NOk N0 w0) (hpl:∀ k∈pB,k<st.bx.length) {sh:FuncId->List Sh} {ops:Array Oper} {pf:Pend} (hpf:∀ t∈pS,∃ x∈pf,Ax ops x.1=some t) (hpb:∀ k∈pB,∃ x∈pf,x.2=some k)
  {en:Ent} {o:Oper} (ho:ops[en.i]?=some o) (hl:∀ t∈o.looksAt ops,t∉pS) {K:St->Prop}
  (hs:UK ops o st (fun st=>Xb P sh N0 ops pf en o st K) (fun st=>K (st.put o.dst (.tp [])))) {next:Act->World->Prop} {Q:Exit->Act->World->Prop}
  (hn:∀ v w' e' st',K st'->st.bx.length<=st'.bx.length->(∀ x∈pf,∀ ox,ops[x.1]?=some ox->YG ops P st ox x.2->(∀ d,o.dst=some d->d∉ox.looksAt ops/\ox.dst≠some d)->YG ops P st' ox x.2) ->
   Rel av w0 e0 pS pB (a.put o.dst v) w' e' st'->next (a.put o.dst v) w'):wpOp P ops Q en.i next a w:=by
 unfold wpOp;rw[ho];simp only;rcases Jm hs with⟨hw,hs⟩ | ⟨hw,hs⟩
 ·rw[if_pos (Ns h hw hl)];refine .inl ?_;unfold Xb at hs;split at hs
  rotate_left
  ·split at hs
   rotate_left
   ·exact hs.elim
   have e1:pS=[]:=nl.2 fun t ht=>by obtain⟨x,hx,_⟩:=hpf t ht;simp at hx
   have e2:pB=[]:=nl.2 fun t ht=>by obtain⟨x,hx,_⟩:=hpb t ht;simp at hx
   subst e1;subst e2;have hn':=fun v w' e' st' g1 g2 g3=>hn v w' e' st' g1 g2 (fun x hx=>by simp at hx) g3;exact hs.elim
  split at hs
  rotate_left
  ·split at hs
   rotate_left
   ·exact hs.elim
   have e1:pS=[]:=nl.2 fun t ht=>by obtain⟨x,hx,_⟩:=hpf t ht;simp at hx
   have e2:pB=[]:=nl.2 fun t ht=>by obtain⟨x,hx,_⟩:=hpb t ht;simp at hx
   subst e1;subst e2;refine Mi h hpl (fun y hy t ht=>hl t (sq hy ht)) hs fun v w' e' st' g1 g2 g3=>?_;obtain⟨st2,k1,k2,k3⟩:=PC g3 g1;exact hn v w' e' st2 k1 (by rw[k3];exact g2.bl) (fun x hx=>by simp at hx) k2
  obtain⟨st1,T,h1,h2,h3,h4⟩:=uX h hN0 hpf hs;split at h1
  ·rename_i hsf;refine Mi h4 (fun k hk=>nI (hpl k hk) h2.bl) (fun y hy t ht=>hl t (sq hy ht)) h1 fun v w' e' st' g1 g2 g3=>hn v w' e' st' g1 (oP h2.bl g2.bl) (fun x hx ox hox hk hd=>?_) g3;exact Ft (Ft hk h2 (fun _ h=>h) (.inl (RV h3 hx hox)) fun d hd=>by cases hd) g2 Ug (To hsf hx hox) hd
  ·exact h1.elim
 ·rw[if_neg (by rw[NA h hw hl];simp)];exact hn undef w e _ hs (by cases o.dst<;>exact oD _) (fun x hx ox hox hk hd=>Ft hk (Stp.put (T:=[]) (TA:=[]) Stp.rfl' _) (fun _ h=>h) (.inl Fv) hd) (vC h HY fun i hi _=>hi)
theorem M6 {N0:Option Nat} (I:NOk N0 w0) {sh:FuncId->List Sh} {ops:Array Oper} {K:St->Prop} {Q:Exit->Act->World->Prop} (O:∀ a w e st,K st->Rel av w0 e0 [] [] a w e st->Q .normal a w) :
  ∀(l:List Ent) (a:Act) (w:World) (e:Env) (st:St),(∀ en∈l,en.hard=true)->Rel av w0 e0 [] [] a w e st->P9 P sh N0 ops l [] st K->wpOps P ops Q (l.map (·.i)) a w
 | [],a,w,e,st,_,h,hs=>O a w e st hs h
 | en::l,a,w,e,st,U,h,hs=>by
   rw[oZ,wpOps_cons];simp only[P9]at hs;cases J:ops[en.i]? with
   | none=>rw[J]at hs;exact hs.elim
   | some o=>rw[J]at hs;simp only[U en (by simp)]at hs;exact Mj h I (by simp) (by simp) (by simp) J (by simp) hs λv w' e' st' Y _ _ h2=>M6 I O l _ _ _ _ (λx hx=>U x (by simp[hx])) h2 Y
def OT (n:Nat)(l:List Ent):Bool:=(l.map (·.i))==List.range n&&l.all (·.hard)
theorem RR {N0:Option Nat} (I:NOk N0 w0) {sh:FuncId->List Sh} {id:Nat} {ops:Array Oper} {l:List Ent} {K:St->Prop} {Q:Exit->Act->World->Prop} (J:OT ops.size l=true) (h:Rel av w0 e0 [] [] a w e st)
  (hs:P9 P sh N0 ops l [] st K) (O:∀ a w e st,K st->Rel av w0 e0 [] [] a w e st->Q .normal a w):(Code.region id ops false).wp P Q a w:=by
 simp only[OT,oE,nF,oa]at J;refine wp_region ?_;rw[<-J.1];exact M6 I O l a w e st J.2 h hs
variable {av:Nat->Prop} {P:Program} {w0 w w':World} {e0 e:Env} {pS pS' pB pB':List Nat} {a:Act} {st st':St}
def DA (ops:Array Oper)(i:Nat):List Ent->Bool
 | []=>true
 | b::bs=>WS ops b.i i||(!b.hard&&DA ops i bs)
def zAL (ops:Array Oper) (bf:List Ent) (en:Ent) (aft:List Ent):Bool:=
 match ops[en.i]? with
 | none=>false
 | some o=>
   (o.after.toList.all fun e=>!Region.binds .any e||bf.any fun b=>b.i==e.on) &&
   DA ops en.i bf &&
   (bf.all fun b=>match Ax ops b.i with
    | none=>true
    | some d=>!(o.looksAt ops).contains d||WS ops b.i en.i) &&
   (aft.all fun r=>match Ax ops r.i with
    | none=>true
    | some d=>!((o.looksAt ops).contains d||o.dst==some d)||(r.hard&&WS ops en.i r.i)) &&
   (en.hard||match o.dst with
    | none=>true
    | some d=>!(o.looksAt ops).contains d)
def Uv (ops:Array Oper):List Ent->List Ent->Bool
 | _,[]=>true
 | bf,en::l=>zAL ops bf en l&&Uv ops (en::bf) l
def P0:List Nat->Bool
 | []=>true
 | k::ks=>!ks.contains k&&P0 ks
def chk (ops:Array Oper)(ord:List Ent):Bool:=
 ord.length==ops.size&&P0 (ord.map (·.i))&&((List.range ops.size).all λi=>ord.any λb=>b.i==i)&&Uv ops [] ord
structure Spot (ops:Array Oper) (l1:List Ent) (en:Ent) (l2:List Ent) (o:Oper):Prop where
 op:ops[en.i]?=some o
 ed:∀ e∈o.after,Region.binds .any e=true->∃ b∈l1,b.i=e.on
 hd:DA ops en.i l1.reverse=true
 pr:∀ b∈l1,∀ d,Ax ops b.i=some d->d∈o.looksAt ops->WS ops b.i en.i=true
 af:∀ r∈l2,∀ d,Ax ops r.i=some d->(d∈o.looksAt ops\/o.dst=some d)->r.hard=true/\WS ops en.i r.i=true
 se:en.hard=false->∀ d,o.dst=some d->d∉o.looksAt ops
theorem SO {ops:Array Oper}{l1:List Ent}{en:Ent}{l2:List Ent}(h:zAL ops l1.reverse en l2=true):∃ o,Spot ops l1 en l2 o:=by
 unfold zAL at h;split at h
 ·cases h
 ·rename_i o Y;simp only[oE,oa]at h;obtain⟨⟨⟨⟨h1,h2⟩,h3⟩,h4⟩,U⟩:=h;refine⟨o,Y,λe he I=>?_,h2,λb I d hd hm=>?_,λr hr d hd hm=>?_,λhh d hd hm=>?_⟩
  ·have:=h1 e (ow.2 he)
   rw[I]at this;simp only[lX,Bool.false_or,List.any_eq_true,nF]at this;obtain⟨b,J,O⟩:=this;exact⟨b,mj.1 J,O⟩
  ·have:=h3 b (mj.2 I)
   rw[hd]at this;simpa [hm]using this
  ·have:=h4 r hr
   rw[hd]at this;rcases hm with hm | hm
   ·simpa [hm]using this
   ·simpa [hm]using this
  ·rw[hh,hd]at U;simp[hm]at U
theorem I5 {ops:Array Oper}:∀(l bf:List Ent),Uv ops bf.reverse l=true->∀ l1 en l2,l=l1++en::l2->∃ o,Spot ops (bf++l1) en l2 o
 | [],bf,_,l1,en,l2,h=>by cases l1<;>cases h
 | x :: l,bf,hc,l1,en,l2,h=>by
   simp only[Uv,oE]at hc;cases l1 with
   | nil=>cases h;simpa using SO hc.1
   | cons y l1=>
     cases h
     have:=I5 _ (bf++[x]) (by simpa using hc.2) l1 en l2 rfl
     simpa using this
theorem DB {ops:Array Oper}{i:Nat}:∀(l m:List Ent),DA ops i (l++m)=true->(∃ b∈l,b.hard=true)->∃ b∈l,WS ops b.i i=true
 | [],m,_,h=>by simp at h
 | b :: l,m,h,O=>by
   simp only[nE,DA,nB,oE,mA]at h;rcases h with h | ⟨U,Y⟩
   ·exact⟨b,by simp,h⟩
   ·obtain⟨x,hx,I⟩:=O;rcases oH.1 hx with rfl | hx
    ·rw[U]at I;cases I
    ·obtain⟨y,hy,J⟩:=DB l m Y ⟨x,hx,I⟩;exact⟨y,by simp[hy],J⟩
theorem G2:∀ {l:List Nat},P0 l=true->l.Nodup
 | [],_=>mR
 | k::ks,h=>by
   simp only[P0,oE,mA]at h;refine na.2 ⟨λhc=>?_,G2 h.2⟩
   have:=h.1
   simp[hc]at this
structure Chk (ops:Array Oper) (ord:List Ent):Prop where
 len:ord.length=ops.size
 nd:(ord.map (·.i)).Nodup
 all:∀ i,i<ops.size->∃ b∈ord,b.i=i
 at_:∀ l1 en l2,ord=l1++en::l2->∃ o,Spot ops l1 en l2 o
theorem Uw {ops:Array Oper}{ord:List Ent}(h:chk ops ord=true):Chk ops ord:=by
 simp only[chk,oE,nF,oa]at h;obtain⟨⟨⟨I,J⟩,O⟩,U⟩:=h;refine⟨I,G2 J,λi hi=>?_,λl1 en l2 Y=>by simpa using I5 ord [] (by simpa using U) l1 en l2 Y⟩
 have:=O i (List.mem_range.2 hi)
 simpa using this
def UT (ops:Array Oper)(pend:Pend):List Nat:=pend.filterMap λx=>Ax ops x.1
def Vj (pend:Pend):List Nat:=pend.filterMap (·.2)
theorem Pu {ops:Array Oper}{pend:Pend}{t:Nat}:t∈UT ops pend↔∃ x∈pend,Ax ops x.1=some t:=mC
theorem vJ {pend:Pend}{k:Nat}:k∈Vj pend↔∃ x∈pend,x.2=some k:=mC
structure RI (P:Program) (sh:FuncId->List Sh) (ops:Array Oper) (ord:List Ent) (K:St->Prop) (av:Nat->Prop) (w0:World) (e0:Env) (N0:Option Nat)
  (done rest:List Ent) (nv pend:Pend) (listed:Array Bool) (a:Act) (w:World) (e:Env) (st:St):Prop where
 ord:ord=done++rest
 rel:Rel av w0 e0 (UT ops pend) (Vj pend) a w e st
 pb:∀ k∈Vj pend,k<st.bx.length
 pd:∀ x∈pend,∃ en∈done,en.i=x.1/\en.hard=false
 nd:pend.Nodup
 un:∀ x∈pend,∀ y∈pend,x.1=y.1->x=y
 bu:∀ x∈pend,∀ y∈pend,∀ k,x.2=some k->y.2=some k->x=y
 pr:∀ x∈pend,zA7 ops P st x
 ls:listed.size=ops.size
 li:∀ i,i<ops.size->(listed.getD i false=true↔(∃ en∈done,en.i=i)/\∀ x∈pend,x.1≠i)
 nvs:∀ x∈pend,x∈nv
 lc:∀ m,listed.getD m false=true->∀ i∈IK ops m,listed.getD i false=true
 f:P9 P sh N0 ops rest nv st K
section
variable {N0:Option Nat} {sh:FuncId->List Sh} {ops:Array Oper} {ord:List Ent} {K:St->Prop} {done rest:List Ent} {nv pend:Pend} {listed:Array Bool}
theorem Dx {i j:Nat}(hr:j∈Region.ready .any ops listed)(J:WS ops i j=true):listed.getD i false=true:=by obtain⟨_,o,O,I⟩:=mem_ready.1 hr;unfold WS at J;rw[O]at J;simp only[Array.any_eq_true,oE,nF]at J;obtain⟨n,hn,U,Y⟩:=J;rw[<-U];exact I _ (Array.getElem_mem hn) Y
theorem G7 {j:Nat}(hr:j∈Region.ready .any ops listed):∀ i∈IK ops j,listed.getD i false=true:=by obtain⟨_,o,J,I⟩:=mem_ready.1 hr;intro i hi;simp only[IK,J,oT,nW]at hi;obtain⟨e,⟨O,U⟩,rfl⟩:=hi;exact I e (ow.1 O) U
theorem S3 {j:Nat} (hr:j∈Region.ready .any ops listed) (h:∀ m,listed.getD m false=true->∀ i∈IK ops m,listed.getD i false=true) :
  ∀ m,(listed.setIfInBounds j true).getD m false=true->∀ i∈IK ops m,(listed.setIfInBounds j true).getD i false=true:=λm J i hi=>by
 refine getD_set_true ?_;by_cases I:j=m
 ·subst I;exact G7 hr i hi
 ·rw[getD_set_ne false I]at J;exact h m J i hi
theorem Xx (hc:Chk ops ord)(h:RI P sh ops ord K av w0 e0 N0 done rest nv pend listed a w e st){en:Ent}(I:en∈ord):en.i<ops.size:=by obtain⟨l1,l2,J⟩:=mn I;obtain⟨o,O⟩:=hc.at_ l1 en l2 J;exact(oR.1 O.op).1
theorem qK (hc:Chk ops ord)(h:RI P sh ops ord K av w0 e0 N0 done rest nv pend listed a w e st){x:Nat × Option Nat}(hx:x∈pend):listed.getD x.1 false≠true:=by obtain⟨en,J,O,_⟩:=h.pd x hx;have I:=Xx hc h (en:=en) (by rw[h.ord];simp[J]);rw[O]at I;intro U;exact((h.li x.1 I).1 U).2 x hx rfl
theorem HA (hc:Chk ops ord) (h:RI P sh ops ord K av w0 e0 N0 done rest nv pend listed a w e st) {l1 l2:List Ent} {en:Ent} {o:Oper} (hl:ord=l1++en::l2) (J:Spot ops l1 en l2 o)
  (hr:en.i∈Region.ready .any ops listed) (hp:en.hard=true->∀ x∈pend,x.1≠en.i):∀ t∈o.looksAt ops,t∉UT ops pend:=by
 intro t O U;obtain⟨x,hx,hd⟩:=Pu.1 U;obtain⟨ex,h1,Y,h3⟩:=h.pd x hx;have I:ex∈l1++en::l2:=by rw[<-hl,h.ord];simp[h1]
 rw[<-Y]at hd;rcases oM.1 I with hm | hm
 ·have he:=Dx hr (J.pr ex hm t hd O);rw[Y]at he;exact qK hc h hx he
 ·rcases oH.1 hm with rfl | hm
  ·refine J.se h3 t ?_ O;simpa [Ax,J.op]using hd
  ·have:=(J.af ex hm t hd (.inl O)).1
   rw[h3]at this;cases this
theorem Mp {j:Nat}{d:Bool}(I:j<listed.size)(i:Nat):(listed.setIfInBounds j true).getD i false=true↔i=j\/listed.getD i false=true:=by
 by_cases h:j=i
 ·subst h;simp[I]
 ·rw[getD_set_ne false h];constructor
  ·exact .inr
  ·rintro(h1 | h1)
   ·exact absurd h1.symm h
   ·exact h1
theorem NI (hc:Chk ops ord) (h:RI P sh ops ord K av w0 e0 N0 done rest nv pend listed a w e st) {x:Nat × Option Nat} (hx:x∈pend) (hr:x.1∈Region.ready .any ops listed)
  {next:Act->World->Prop} {Q:Exit->Act->World->Prop}
  (hn:∀ a' w' e',RI P sh ops ord K av w0 e0 N0 done rest nv (pend.erase x) (listed.setIfInBounds x.1 true) a' w' e' st->next a' w'):wpOp P ops Q x.1 next a w:=by
 obtain⟨en,ak,hi,hh⟩:=h.pd x hx;obtain⟨l1,l2,hl⟩:=mn (show en∈ord by rw[h.ord];simp[ak]);obtain⟨o,ho⟩:=hc.at_ l1 en l2 hl;have U:=HA hc h hl ho (by rw[hi];exact hr) (by rw[hh];intro hc;cases hc);have ab:=ho.op;rw[hi]at ab;have hd:Ax ops x.1=o.dst:=by simp[Ax,ab]
 have J:∀ y,y∈pend.erase x↔y≠x/\y∈pend:=λy=>List.Nodup.mem_erase_iff h.nd;have ax:x.1<listed.size:=by rw[h.ls];exact(oR.1 ab).1
 have al:∀ i,i∈UT ops pend->some i≠o.dst->i∈UT ops (pend.erase x):=λi ae ay=>by obtain⟨y,O,am⟩:=Pu.1 ae;refine Pu.2 ⟨y,(J y).2 ⟨λaa=>ay ?_,O⟩,am⟩;subst aa;rw[<-am,hd]
 have ac:∀ a' w' e',Rel av w0 e0 (UT ops (pend.erase x)) (Vj (pend.erase x)) a' w' e' st->next a' w':=λa' w' e' hR=>hn a' w' e' {
  ord:=h.ord
  rel:=hR
  pb:=λk hk=>by obtain⟨y,O,I⟩:=vJ.1 hk;exact h.pb k (vJ.2 ⟨y,((J y).1 O).2,I⟩)
  pd:=λy O=>h.pd y ((J y).1 O).2
  nd:=h.nd.erase x
  un:=λy O z hz=>h.un y ((J y).1 O).2 z ((J z).1 hz).2
  bu:=λy O z hz=>h.bu y ((J y).1 O).2 z ((J z).1 hz).2
  pr:=λy O=>h.pr y ((J y).1 O).2
  ls:=by simp[h.ls]
  li := λi ae=>by
   rw[Mp (d:=false) ax i];constructor
   ·rintro(rfl | h1)
    ·refine⟨⟨en,ak,hi⟩,λy O aa=>?_⟩
     have:=(J y).1 O
     exact this.1 (h.un y this.2 x hx aa)
    ·have:=(h.li i ae).1 h1
     exact⟨this.1,λy O=>this.2 y ((J y).1 O).2⟩
   ·rintro⟨h1,h2⟩
    by_cases ao:i=x.1
    ·exact .inl ao
    ·refine .inr ((h.li i ae).2 ⟨h1,λy O aq=>?_⟩);by_cases aa:y=x
     ·subst aa;exact ao aq.symm
     ·exact h2 y ((J y).2 ⟨aa,O⟩) aq
  nvs:=λy O=>h.nvs y ((J y).1 O).2
  lc:=S3 hr h.lc
  f:=h.f }
 obtain⟨o',au,hk⟩:=h.pr x hx;rw[ab]at au;cases au;unfold wpOp;rw[ab];simp only;rcases hk with⟨hw,_,r,q,h2,h3,h4,h5⟩ | ⟨hw,hb,h3⟩
 ·rw [if_pos (Ns h.rel hw U)];refine .inl ?_;have ah:∀ B f,r=.b B f->∃ k,x.2=some k:=λB f hr=>by
   subst hr;cases Y:x.2 with
   | none=>rw[Y]at h3;cases h3
   | some k=>exact⟨k,rfl⟩
  obtain⟨v,w',e',g1,g2⟩:=Vr h.rel (o:=o) (r:=r) (k:=x.2.getD 0) (λy O t ht=>U t (sq O ht)) h2 (λd az a0=>by
   rw[h4 d az a0];cases r with
   | v p=>cases Y:x.2<;>rw[Y]at h3<;>simp[Vu]at h3;simp[h3]
   | b B f=>obtain⟨k,hk⟩:=ah B f rfl;rw[hk]at h3;simp[Vu]at h3;simp[hk,h3]) (λB f aw=>by
   obtain⟨k,hk⟩:=ah B f aw;rw[hk];exact⟨h5 B f k aw hk,vJ.2 ⟨x,hx,hk⟩⟩) al
  unfold Oper.wp;rw[g1,Oper.upon_value];refine ac _ _ _ (AL g2 (λk=>?_) λ_=>id);cases r with
  | v p=>
    have Y:x.2=none:=by cases Y:x.2<;>rw[Y]at h3<;>simp[Vu]at h3<;>rfl
    simp only[Res.isB,mI,nQ];constructor
    ·intro hk;obtain⟨y,O,I⟩:=vJ.1 hk;exact vJ.2 ⟨y,((J y).1 O).2,I⟩
    ·intro hk;obtain⟨y,O,I⟩:=vJ.1 hk;exact vJ.2 ⟨y,(J y).2 ⟨λhc=>(by rw[hc,Y]at I;cases I),O⟩,I⟩
  | b B f=>
    obtain⟨k0,ai⟩:=ah B f rfl;simp only[Res.isB,nj,ai,ob,nW,oq,ne_eq];constructor
    ·intro hk;obtain⟨y,O,I⟩:=vJ.1 hk
     have:=(J y).1 O
     exact⟨vJ.2 ⟨y,this.2,I⟩,λaj=>this.1 (h.bu y this.2 x hx k I (by rw[ai,aj]))⟩
    ·rintro⟨hk,aj⟩
     obtain⟨y,O,I⟩:=vJ.1 hk;exact vJ.2 ⟨y,(J y).2 ⟨λhc=>(by rw[hc,ai]at I;cases I;exact aj rfl),O⟩,I⟩
 ·rw[if_neg (by rw[NA h.rel hw U];simp)];have h4:=vC h.rel (dst:=o.dst) HY al;rw[St.put_same h3]at h4;refine ac _ _ _ (AL h4 (λk=>?_) λ_=>id);constructor
  ·intro hk;obtain⟨y,O,I⟩:=vJ.1 hk;exact vJ.2 ⟨y,((J y).1 O).2,I⟩
  ·intro hk;obtain⟨y,O,I⟩:=vJ.1 hk;exact vJ.2 ⟨y,(J y).2 ⟨λhc=>(by rw[hc,hb]at I;cases I),O⟩,I⟩
theorem tu {l1 l2:List Ent}{en:Ent}(h:((l1++en::l2).map (·.i)).Nodup):∀ x∈l1,x.i≠en.i:=by intro x hx hc;rw[mF,nN]at h;exact h.2.2 x.i (oT.2 ⟨x,hx,rfl⟩) en.i (by simp) hc
theorem G9 (hc:Chk ops ord) {en:Ent} (hh:en.hard=false) (h:RI P sh ops ord K av w0 e0 N0 done (en::rest) nv pend listed a w e st) :
  ∃ b nv' e' st',RI P sh ops ord K av w0 e0 N0 (done++[en]) rest nv' ((en.i,b)::pend) listed a w e' st':=by
 obtain⟨o,ho⟩:=hc.at_ done en rest h.ord;have ah:=hc.nd;rw[h.ord]at ah;have J:∀ x∈pend,x.1≠en.i:=λx hx=>by obtain⟨ex,h1,U,_⟩:=h.pd x hx;rw[<-U];exact tu ah ex h1
 have hf:=h.f;simp only[P9,ho.op,hh]at hf;have fin:∀(b:Option Nat) (nv':Pend) (e':Env) (st':St),nv'=(en.i,b)::nv->Rel av w0 e0 (UT ops ((en.i,b)::pend)) (Vj ((en.i,b)::pend)) a w e' st'->(∀ k,b=some k->st.bx.length<=k/\k<st'.bx.length)->Stp [] [] o.dst st st' ->
   YG ops P st' o b->P9 P sh N0 ops rest nv' st' K->RI P sh ops ord K av w0 e0 N0 (done++[en]) rest nv' ((en.i,b)::pend) listed a w e' st':=λb nv' e' st' ax hR hb I hK hF=>{
  ord:=by rw[h.ord];simp
  rel:=hR
  pb:=λk hk=>by
   obtain⟨y,hy,Y⟩:=vJ.1 hk;rcases oH.1 hy with rfl | hy
   ·exact(hb k Y).2
   ·exact nI (h.pb k (vJ.2 ⟨y,hy,Y⟩)) I.bl
  pd:=λx hx=>by
   rcases oH.1 hx with rfl | hx
   ·exact⟨en,by simp,rfl,hh⟩
   ·obtain⟨ex,h1,U⟩:=h.pd x hx;exact⟨ex,by simp[h1],U⟩
  nd:=na.2 ⟨λhm=>J _ hm rfl,h.nd⟩
  un:=λx hx y hy ai=>by
   rcases oH.1 hx with rfl | hx<;>rcases oH.1 hy with rfl | hy
   ·rfl
   ·exact absurd ai.symm (J y hy)
   ·exact absurd ai (J x hx)
   ·exact h.un x hx y hy ai
  bu:=λx hx y hy k aj Y=>by
   rcases oH.1 hx with rfl | hx<;>rcases oH.1 hy with rfl | hy
   ·rfl
   ·have:=(hb k aj).1;have:=h.pb k (vJ.2 ⟨y,hy,Y⟩);omega
   ·have:=(hb k Y).1;have:=h.pb k (vJ.2 ⟨x,hx,aj⟩);omega
   ·exact h.bu x hx y hy k aj Y
  pr:=λx hx=>by
   rcases oH.1 hx with rfl | hx
   ·exact⟨o,ho.op,hK⟩
   ·obtain⟨ox,ao,ay⟩:=h.pr x hx;refine⟨ox,ao,Ft ay I (λ_ h=>h) (.inl Fv) λd hd=>?_⟩;obtain⟨ex,h1,U,h3⟩:=h.pd x hx;obtain⟨m1,m2,hm⟩:=mn h1;obtain⟨az,aq⟩:=hc.at_ m1 ex (m2++en::rest) (by rw[h.ord,hm];simp);have:az=ox:=by have:=aq.op;rw[U,ao]at this;exact(oU this).symm
    subst this;have au:=aq.af en (by simp) d (by simp[Ax,ho.op,hd]);refine⟨λhc=>?_,λhc=>?_⟩
    ·have:=(au (.inl hc)).1;rw[hh]at this;cases this
    ·have:=(au (.inr hc)).1;rw[hh]at this;cases this
  ls:=h.ls
  li:=λi hi=>by
   rw[h.li i hi];constructor
   ·rintro⟨⟨x,h1,U⟩,h3⟩
    refine⟨⟨x,by simp[h1],U⟩,λy hy=>?_⟩;rcases oH.1 hy with rfl | hy
    ·simp only;rw[<-U];exact(tu ah x h1).symm
    ·exact h3 y hy
   ·rintro⟨⟨x,h1,U⟩,h3⟩
    refine⟨⟨x,?_,U⟩,λy hy=>h3 y (by simp[hy])⟩;rcases oM.1 h1 with h1 | h1
    ·exact h1
    ·simp at h1;subst h1;exact absurd U (h3 (x.i,b) (by simp))
  nvs:=λx hx=>by
   subst ax;rcases oH.1 hx with rfl | hx
   ·simp
   ·simp[h.nvs x hx]
  lc:=h.lc
  f:=hF }
 have aa:∀ b,UT ops ((en.i,b)::pend)=o.dst.toList++UT ops pend:=λb=>by simp only[UT,mH,Ax,ho.op,lJ];cases o.dst<;>rfl
 have ak:=ho.se hh;rcases Jm hf with⟨hw,hf⟩ | ⟨hw,hf⟩
 ·split at hf
  rotate_left
  ·exact hf.elim
  rename_i hb;simp only[oE]at hb;obtain⟨a4,a0⟩:=hb;obtain⟨r,hK,hr⟩:=S7 _ hf;have hr:=hr (λq=>q=r) rfl;have hR:=Vs h.rel o.dst r;have I:Stp [] [] o.dst st (st.push o.dst r):=QJ;have aw:∀ y∈o.op.operands,∀ k∈(opd st.sl y).refs,k<st.bx.length:=λy hy k hk=>by
   have:=oa.1 (oa.1 a0 y (ow.2 hy)) k hk
   simpa using this
  have ae:∀ y∈o.op.operands,opd (st.push o.dst r).sl y=opd st.sl y:=λy hy=>by
   cases y with
   | tmp t=>
     have ac:o.dst≠some t:=λhc=>ak t hc (sq hy rfl);simp only[opd];rw[oB,oB];cases hp:st.sl[t]? with
     | none=>have:(st.push o.dst r).sl[t]?=none:=oY (by rw[I.ll];exact nX.1 hp);rw[this]
     | some p=>rw[I.sl t p (λhc=>ac hc.symm) hp (by simp)]
   | _=>rfl
  have al:YJ ops o (st.push o.dst r):=λg ab hg=>by obtain⟨og,d,h1,U,h3⟩:=hw g ab hg;exact⟨og,d,h1,U,I.sl d _ (λhc=>ak d hc.symm (by simp[Oper.looksAt,hg,h1,U])) h3 (by simp)⟩
  have a2:∀ k,k<st.bx.length->(st.push o.dst r).bx[k]?=st.bx[k]?:=λk hk=>by rw[I.bx k _ (oF hk) (by simp) (by simp),oF hk]
  have am:∀ d q,o.dst=some d->d<(st.push o.dst r).sl.length->Vu r (r.bk st.bx.length)=some q->(st.push o.dst r).sl[d]?=some q:=λd q hd O hq=>by
   rw[I.ll]at O;cases r with
   | v p=>simp[Res.bk,Vu]at hq;subst hq;simp[St.push,St.put,hd,O]
   | b B f=>simp[Res.bk,Vu]at hq;subst hq;simp[St.push,St.put,hd,O]
  refine⟨r.bk st.bx.length,(en.i,r.bk st.bx.length)::nv,(if r.isB then e++[none]else e),_,fin _ _ _ _ rfl ?_ ?_ I (.inl ⟨al,?_,r,?_⟩) hK⟩
  ·rw[aa];refine AL hR (λk=>?_) λ_=>id;cases r with
   | v p=>simp[Res.isB,Res.bk,Vj]
   | b B f=>simp[Res.isB,Res.bk,Vj]
  ·intro k hk;cases r with
   | v p=>cases hk
   | b B f=>simp[Res.bk]at hk;subst hk;refine⟨oD _,?_⟩;cases o.dst<;>simp[St.push,St.put]
  ·intro y hy k hk;rw[ae y hy]at hk
   have:=aw y hy k hk
   exact nI this I.bl
  ·have hq:∃ q,Vu r (r.bk st.bx.length)=some q:=by cases r<;>simp[Res.bk,Vu]
   obtain⟨q,hq⟩:=hq;refine⟨q,?_,hq,λd hd O=>am d q hd O hq,λB f k a3 hk=>?_⟩
   ·rw[G0 (ρ:=opd st.sl) (rb:=λk=>st.bx[k]?) ae λy hy k hk=>a2 k (aw y hy k hk)];exact hr
   ·subst a3;simp[Res.bk]at hk;subst hk;cases o.dst<;>simp[St.push,St.put]
 ·have I:Stp [] [] o.dst st (st.put o.dst (.tp [])):=Stp.put Stp.rfl' _;refine⟨none,(en.i,none)::nv,e,st.put o.dst (.tp []),fin _ _ _ _ rfl ?_ (λk hk=>by cases hk) I (.inr ⟨?_,rfl,λd hd O=>?_⟩) hf⟩
  ·rw[aa];exact AL (Kw h.rel) (λk=>by simp[Vj]) λ_=>id
  ·obtain⟨g,ab,og,d,g1,g2,g3,g4⟩:=hw;have ac:some d≠o.dst:=λhc=>ak d hc.symm (by simp[Oper.looksAt,g1,g2,g3]);refine⟨g,ab,og,d,g1,g2,g3,?_⟩;rcases g4 with g4 | g4
   ·exact .inl (I.sl d _ ac g4 (by simp))
   ·exact .inr (I.sl d _ ac g4 (by simp))
  ·rw[I.ll]at O;simp[St.put,hd,O]
theorem G8 (hc:Chk ops ord):∀(pre rest done:List Ent) (nv pend:Pend) (e:Env) (st:St),(∀ en∈pre,en.hard=false)->RI P sh ops ord K av w0 e0 N0 done (pre++rest) nv pend listed a w e st ->
  ∃ nv' I e' st',RI P sh ops ord K av w0 e0 N0 (done++pre) rest nv' I listed a w e' st'/\I.length=pend.length+pre.length
 | [],rest,done,nv,pend,e,st,_,h=>⟨nv,pend,e,st,by simpa using h,rfl⟩
 | en::pre,rest,done,nv,pend,e,st,U,h=>by obtain⟨b,J,e1,O,Y⟩:=G9 hc (U en (by simp)) h;obtain⟨nv',I,e',st',h2,h3⟩:=G8 hc pre rest (done++[en]) J _ e1 O (λx hx=>U x (by simp[hx])) Y;exact⟨nv',I,e',st',by simpa using h2,by rw[h3];simp;omega⟩
theorem Rp (a7:NOk N0 w0) (hc:Chk ops ord) {Q:Exit->Act->World->Prop} (hQ:∀ a w e st,K st->Rel av w0 e0 [] [] a w e st->Q .normal a w) :
  ∀ (U:Nat) (done rest:List Ent) (nv pend:Pend) (listed:Array Bool) (a:Act) (w:World) (e:Env) (st:St),RI P sh ops ord K av w0 e0 N0 done rest nv pend listed a w e st->U=rest.length+pend.length ->
    wpAny P .any ops Q U listed a w:=by
 have fin:∀(done rest:List Ent) (nv pend:Pend) (listed:Array Bool) (a:Act) (w:World) (e:Env) (st:St),RI P sh ops ord K av w0 e0 N0 done rest nv pend listed a w e st->rest=[]->pend=[]->Q .normal a w:=by intro done rest nv pend listed a w e st h hr hp;subst hr;subst hp;exact hQ a w e st h.f h.rel
 have prog:∀(done rest:List Ent) (nv pend:Pend) (listed:Array Bool) (a:Act) (w:World) (e:Env) (st:St),RI P sh ops ord K av w0 e0 N0 done rest nv pend listed a w e st->Region.ready .any ops listed=[]->rest=[]/\pend=[]:=by
  intro done rest nv pend listed a w e st h hr
  have key:∀(l1 l2:List Ent),ord=l1++l2->∀ en∈l1,listed.getD en.i false=true:=by
   intro l1
   suffices ∀ n,∀ l1 l2:List Ent,l1.length=n->ord=l1++l2->∀ en∈l1,listed.getD en.i false=true from λl2=>this l1.length l1 l2 rfl
   intro n
   induction n with
   | zero=>intro l1 l2 hl _ en J;simp at hl;subst hl;simp at J
   | succ n ih=>
     intro l1 l2 hl ho en J;rcases List.eq_nil_or_concat l1 with rfl | ⟨m,x,rfl⟩
     ·simp at hl
     ·rw [List.concat_eq_append]at hl ho J;simp only[oK,oJ,oN]at hl;have hm:=ih m (x::l2) (by omega) (by rw[ho];simp);rcases oM.1 J with h1 | h1
      ·exact hm en h1
      ·simp at h1;subst h1;obtain⟨o,hs⟩:=hc.at_ m en l2 (by rw[ho];simp);cases aj:listed.getD en.i false with
       | true=>rfl
       | false=>
         exfalso;have O:=(oR.1 hs.op).1;have:en.i∈Region.ready .any ops listed:=mem_ready.2 ⟨by
          rw[nY]at aj ⊢;rw[o9 (by rw[h.ls];exact O)]at aj ⊢;exact aj,o,hs.op,λe he hb=>by
          obtain⟨b,a8,a9⟩:=hs.ed e he hb;rw[<-a9];exact hm b a8⟩
         rw[hr]at this;simp at this
  have aw:=key ord [] (by simp);have ax:∀ en∈ord,(∃ x∈done,x.i=en.i)/\∀ x∈pend,x.1≠en.i:=λen J=>(h.li en.i (Xx hc h J)).1 (aw en J);constructor
  ·cases ak:rest with
   | nil=>rfl
   | cons en l=>exfalso;have ho:=h.ord;rw[ak]at ho;obtain⟨⟨x,hx,ba⟩,_⟩:=ax en (by rw[ho];simp);have ah:=hc.nd;rw[ho]at ah;exact tu ah x hx ba
  ·cases ac:pend with
   | nil=>rfl
   | cons x l=>exfalso;obtain⟨en,h1,h2,_⟩:=h.pd x (by rw[ac];simp);exact(ax en (by rw[h.ord];simp[h1])).2 x (by rw[ac];simp) h2.symm
 intro U
 induction U with
 | zero=>
   intro done rest nv pend listed a w e st h hf;have h1:rest=[]:=oL (by omega);have h2:pend=[]:=oL (by omega);refine⟨?_,fin _ _ _ _ _ _ _ _ _ h h1 h2⟩;subst h1;subst h2;cases hr:Region.ready .any ops listed with
   | nil=>rfl
   | cons j l=>
     exfalso;have hj:j∈Region.ready .any ops listed:=by rw[hr];simp
     obtain⟨g1,o,g2,_⟩:=mem_ready.1 hj;have O:=(oR.1 g2).1;obtain⟨b,hb,bb⟩:=hc.all j O;have ho:=h.ord;rw[ou]at ho
     have:=(h.li j O).2 ⟨⟨b,by rw[<-ho];exact hb,bb⟩,by simp⟩
     rw[nY]at this g1;rw[o9 (by rw[h.ls];exact O)]at this g1;simp only[ob]at this g1;rw[this]at g1;cases g1
 | succ U ih=>
   intro done rest nv pend listed a w e st h hf;refine⟨λhr=>by obtain⟨h1,h2⟩:=prog _ _ _ _ _ _ _ _ _ h hr;exact fin _ _ _ _ _ _ _ _ _ h h1 h2,λj hj=>?_⟩;by_cases ay:∃ x∈pend,x.1=j
   ·obtain⟨x,hx,rfl⟩:=ay;refine NI hc h hx hj λa' w' e' I=>ih _ _ _ _ _ _ _ _ _ I ?_
    have:=List.length_erase_of_mem hx
    have:=List.length_pos_of_mem hx
    omega
   ·have bc:∀ x∈pend,x.1≠j:=λx hx hc=>ay ⟨x,hx,hc⟩;obtain⟨g1,oj,g2,g3⟩:=mem_ready.1 hj;have O:=(oR.1 g2).1;obtain⟨en,J,hi⟩:=hc.all j O;have bg:listed.getD j false=false:=by rw[nY]at g1 ⊢;rw[o9 (by rw[h.ls];exact O)]at g1 ⊢;exact g1
    have ah:∀ x∈done,x.i≠j:=λx hx bh=>by
     have:=(h.li j O).2 ⟨⟨x,hx,bh⟩,bc⟩
     rw[bg]at this;cases this
    have bi:en∈rest:=by
     rw[h.ord]at J;rcases oM.1 J with h1 | h1
     ·exact absurd hi (ah en h1)
     ·exact h1
    obtain⟨pre,post,ae⟩:=mn bi;obtain⟨o,hs⟩:=hc.at_ (done++pre) en post (by rw[h.ord,ae];simp);have az:∀ b∈pre,b.hard=false:=by
     intro b hb;cases bj:b.hard with
     | false=>rfl
     | true=>
       exfalso;have a0:=hs.hd;rw[lM]at a0;obtain⟨x,hx,al⟩:=DB pre.reverse done.reverse a0 ⟨b,mj.2 hb,bj⟩;have bm:=Dx (by rw[hi];exact hj) al;have bp:x∈ord:=by rw[h.ord,ae];simp[mj.1 hx]
       obtain⟨⟨y,hy,bq⟩,_⟩:=(h.li x.i (Xx hc h bp)).1 bm;have Y:=hc.nd;obtain⟨q1,q2,hq⟩:=mn (mj.1 hx);have ho:ord=(done++q1)++x::(q2++en::post):=by rw[h.ord,ae,hq];simp
       rw[ho]at Y;exact tu Y y (by simp[hy]) bq
    rw[ae]at h;obtain⟨nv',aa,e',st',I,b2⟩:=G8 hc pre (en::post) done nv pend e st az h;have b6:rest.length=pre.length+(post.length+1):=by rw[ae];simp
    cases hh:en.hard with
    | false=>
      obtain⟨b,b7,e2,st2,h2⟩:=G9 hc hh I;have bt:(en.i,b).1∈Region.ready .any ops listed:=by rw[<-hi]at hj;exact hj
      rw[<-hi];refine NI hc h2 (x:=(en.i,b)) (by simp) bt λa' w' e' h3=>ih _ _ _ _ _ _ _ _ _ h3 ?_;rw[List.length_erase_of_mem (by simp)];simp only[oJ];omega
    | true=>
      have ai:∀ x∈aa,x.1≠en.i:=λx hx al=>by obtain⟨ex,k1,k2,_⟩:=I.pd x hx;have Y:=hc.nd;rw[I.ord]at Y;exact tu Y ex k1 (by rw[k2,al])
      have am:=HA hc I I.ord hs (by rw[hi];exact hj) (λ_=>ai);have a2:=I.f;simp only[P9,hs.op,hh]at a2;rw[<-hi];have ao:∀ x∈aa,x∈LA ops en.i nv':=λx hx=>by
       have a3:=I.nvs x hx;unfold LA;split
       ·simp at a3
       ·refine nW.2 ⟨a3,?_⟩;cases bv:(Wy ops 1000 (IK ops en.i) []).contains x.1 with
        | false=>rfl
        | true=>
          have hm:x.1∈Wy ops 1000 (IK ops en.i) []:=by simpa using bv
          exact absurd (J5 (A:=λk=>listed.getD k false=true) I.lc 1000 _ [] (G7 (by rw[hi];exact hj)) (by simp) x.1 hm) (qK hc I hx)
      refine Mj I.rel a7 I.pb (pf:=LA ops en.i nv') (λt ht=>by
       obtain⟨x,hx,hd⟩:=Pu.1 ht;exact⟨x,ao x hx,hd⟩) (λk hk=>by
       obtain⟨x,hx,hd⟩:=vJ.1 hk;exact⟨x,ao x hx,hd⟩) hs.op am a2 λv w' e2 st2 k1 k0 k2 k3=>?_
      refine ih (done++pre++[en]) post nv' aa _ _ _ e2 st2 {
       ord:=by rw[I.ord];simp
       rel:=k3
       pb:=λk hk=>nI (I.pb k hk) k0
       pd:=λx hx=>by obtain⟨ex,m1,m2⟩:=I.pd x hx;exact⟨ex,by simp at m1 ⊢;rcases m1 with m1 | m1<;>simp[m1],m2⟩
       nd:=I.nd
       un:=I.un
       bu:=I.bu
       pr:=λx hx=>by
        obtain⟨ox,aq,bw⟩:=I.pr x hx;refine⟨ox,aq,k2 x (ao x hx) ox aq bw λd hd=>?_⟩;obtain⟨ex,m1,m2,m3⟩:=I.pd x hx;obtain⟨q1,q2,hq⟩:=mn m1;obtain⟨au,a4⟩:=hc.at_ q1 ex (q2++en::post) (by rw[I.ord,hq];simp);have:au=ox:=by have:=a4.op;rw[m2,aq]at this;exact(oU this).symm
        subst this;have bz:=a4.af en (by simp) d (by simp[Ax,hs.op,hd]);have a5:∀ ab:(d∈au.looksAt ops\/au.dst=some d),False:=λab=>by have he:=(bz ab).2;rw[m2]at he;exact qK hc I hx (Dx (by rw[hi];exact hj) he)
        exact⟨λab=>a5 (.inl ab),λab=>a5 (.inr ab)⟩
       ls:=by simp[I.ls]
       li := λi a6=>by
        have b1:en.i<listed.size:=by rw[I.ls,hi];exact O
        rw[Mp (d:=false) b1 i];constructor
        ·rintro(rfl | m1)
         ·exact⟨⟨en,by simp,rfl⟩,ai⟩
         ·obtain⟨⟨x,m2,m3⟩,m4⟩:=(I.li i a6).1 m1;exact⟨⟨x,by simp at m2 ⊢;rcases m2 with m2 | m2<;>simp[m2],m3⟩,m4⟩
        ·rintro⟨⟨x,m1,m2⟩,m3⟩
         rcases oM.1 m1 with m1 | m1
         ·exact .inr ((I.li i a6).2 ⟨⟨x,m1,m2⟩,m3⟩)
         ·simp at m1;subst m1;exact .inl m2.symm
       nvs:=I.nvs
       lc:=S3 (by rw[hi];exact hj) I.lc
       f:=k1 } ?_
      omega
end
theorem RQ {N0:Option Nat} (J:NOk N0 w0) {sh:FuncId->List Sh} {id:Nat} {ops:Array Oper} {ord:List Ent} {K:St->Prop} {Q:Exit->Act->World->Prop} (I:P.follows .mixedOrders=true) (hc:chk ops ord=true)
  (h:Rel av w0 e0 [] [] a w e st) (hs:P9 P sh N0 ops ord [] st K) (U:∀ a w e st,K st->Rel av w0 e0 [] [] a w e st->Q .normal a w):(Code.region id ops true).wp P Q a w:=by
 have O:=Uw hc;refine wp_region_any I ?_;have Y:Rel av w0 e0 [] [] a { w with drawn:=w.drawn+1 } e st:=ZY (QB h (w':={ w with drawn:=w.drawn+1 }) (oD _) (λ_ _=>rfl) λb c t z hb hc=>by have:=(oR.1 hc).1;simp at this;omega) h.hN;refine Rp J O U ops.size [] ord [] [] _ a _ e st {
  ord:=rfl
  rel:=Y
  pb:=by simp[Vj]
  pd:=by simp
  nd:=mR
  un:=by simp
  bu:=by simp
  pr:=by simp
  ls:=by simp
  li:=λi hi=>by simp[hi]
  nvs:=by simp
  lc:=λm I=>by exfalso;rw[nY,Array.getElem?_replicate]at I;split at I<;>simp at I
  f:=hs } (by simp[O.len])
variable {av:Nat->Prop} {P:Program} {w0 w w':World} {e0 e:Env} {pS pS' pB pB':List Nat} {a:Act} {st st':St}
def zAA (w:World)(e:Env)(live:Nat->Prop)(p q:PV):Prop:=q=.any\/(p≠.any/\p.val e=q.val e/\(p.Ok w live->q.Ok w live)/\∀ k∈q.refs,k∈p.refs)
theorem Td (h:Rel av w0 e0 pS pB a w e st) {O:List PV} (hl:O.length<=st.sl.length)
  (hs:∀(i:Nat) (q:PV),O[i]?=some q->q=.any\/∃ p,st.sl[i]?=some p/\zAA w e (zg av pB e st.bx) p q):Rel av w0 e0 pS pB a w e { st with sl:=O }:={
 h with
 nd:=h.nd
 sz:=oP hl h.sz
 hs:=λi q hi hn=>by
  rcases hs i q hi with I | ⟨p,I,J | ⟨J,U,Y,h5⟩⟩
  ·exact .inl I
  ·exact .inl J
  ·exact .inr (((h.hs i p I hn).resolve_left J).trans U)
 so:=λi q hi hn=>by
  rcases hs i q hi with I | ⟨p,I,J | ⟨J,U,Y,h5⟩⟩
  ·subst I;trivial
  ·subst J;trivial
  ·exact Y (h.so i p I hn)
 sr:=λi q hi hn k hk=>by
  rcases hs i q hi with I | ⟨p,I,J | ⟨J,U,Y,h5⟩⟩
  ·subst I;simp[PV.refs]at hk
  ·subst J;simp[PV.refs]at hk
  ·exact h.sr i p I hn k (h5 k hk) }
def Ob (p:PV):PV:=match p with
 | .pg cs=>match K5 cs with
   | some ds=>.dg cs.length (.ag ds)
   | none=>.pg cs
 | p=>p
theorem JL {live:Nat->Prop}{p:PV}(I:p.Ok w live):zAA w e live p (Ob p):=by
 have same:∀ p:PV,zAA w e live p p:=λp=>by
  by_cases O:p=.any
  ·exact .inl O
  ·exact .inr ⟨O,rfl,id,λ_=>id⟩
 cases p
 case pg cs=>
  simp only[Ob];split
  ·rename_i ds J;simp only[PV.Ok]at I;have U:=rn (e:=e) J I.1;exact .inr ⟨by simp,by rw[show(PV.pg cs).val e=(PV.pg cs).val1 e from rfl];exact((UC J I.1 (e:=e)).symm.trans rfl),λ_=>⟨Good.ag λd hd=>(U.1 d hd).1,ds,rfl,t6 J,λd hd=>(U.1 d hd).2⟩,by simp[PV.refs]⟩
  ·exact same _
 all_goals exact same _
def Mm (ks:List Nat):Nat->List PV->List PV
 | _,[]=>[]
 | i,p::ps=>(match ks.contains i with
   | true=>Ob p
   | false=>.any)::Mm ks (i+1) ps
theorem En {ks:List Nat}:∀(l:List PV)(i:Nat),(Mm ks i l).length=l.length
 | [],i=>rfl
 | p::l,i=>by simp[Mm,En l]
theorem Mn {ks:List Nat}:∀(l:List PV)(i j:Nat)(q:PV),(Mm ks i l)[j]?=some q->∃ p,l[j]?=some p/\(q=.any\/q=Ob p)
 | [],i,j,q,h=>by simp[Mm]at h
 | p :: l,i,j,q,h=>by
   cases j with
   | zero=>
     simp only[Mm,lQ,nL]at h;refine⟨p,rfl,?_⟩;split at h
     ·exact .inr h.symm
     ·exact .inl h.symm
   | succ j=>simp only[Mm,nS]at h ⊢;exact Mn l (i+1) j q h
def St.keep (st:St)(ks:List Nat):St:={ st with sl:=Mm ks 0 st.sl }
theorem Tb (h:Rel av w0 e0 [] pB a w e st)(ks:List Nat):Rel av w0 e0 [] pB a w e (st.keep ks):=
 Td h (by rw[En];exact oD _) λi q hi=>by
  obtain⟨p,I,h2 | h2⟩:=Mn _ _ _ _ hi
  ·exact .inl h2
  ·subst h2;exact .inr ⟨p,I,JL (h.so i p I (by simp))⟩
def St.nils (st:St):List (Nat × TypeId × Nat)->St
 | []=>st
 | (t,ty,z)::l=>match st.sl[t]? with
   | some (.sv none _ [] 0)=>St.nils { st with sl:=st.sl.set t (.sb st.bx.length z 0 0 0),bx:=st.bx++[.arr ty z [] 0] } l
   | _=>St.nils st l
theorem Kx:∀(l:List (Nat × TypeId × Nat)) (e:Env) (st:St),Rel av w0 e0 [] [] a w e st->∃ e',Rel av w0 e0 [] [] a w e' (st.nils l)
 | [],e,st,h=>⟨e,h⟩
 | (t, ty,z)::l,e,st,h=>by
   simp only[St.nils];split
   ·rename_i zz U;have I:=Ao h (el:=ty) (z:=z) (by simp);have J:Env.at (e++[none]) st.bx.length=none:=by rw[<-h.el];exact Env.at_append_eq
    have Y:Rel av w0 e0 [] [] a w (e++[none]) { st with sl:=st.sl.set t (.sb st.bx.length z 0 0 0),bx:=st.bx++[.arr ty z [] 0] }:={
     I with
     nd:=I.nd
     sz:=by simp;exact I.sz
     hs := λi q hi hn=>by
      simp only[nR]at hi;split at hi
      ·rename_i O;subst O;split at hi
       ·simp at hi;subst hi
        have:=(I.hs t _ U (by simp)).resolve_left (by simp)
        right;rw[this];simp[PV.val,PV.val1,PV.cv,J]
       ·cases hi
      ·exact I.hs i q hi hn
     so:=λi q hi hn=>by
      simp only[nR]at hi;split at hi
      ·split at hi
       ·simp at hi;subst hi;trivial
       ·cases hi
      ·exact I.so i q hi hn
     sr:=λi q hi hn k hk=>by
      simp only[nR]at hi;split at hi
      ·split at hi
       ·simp at hi;subst hi;simp[PV.refs]at hk;subst hk;simp
       ·cases hi
      ·exact I.sr i q hi hn k hk }
    exact Kx l _ _ Y
   ·exact Kx l e st h
theorem TY (h:Rel av w0 e0 [] [] a w e st) {k:Nat} {cs cs':List PV} (hk:st.bx[k]?=some (.var cs)) (hl:cs'.length=cs.length)
  (hc:∀(i:Nat) (p:PV),cs'[i]?=some p->cs[i]?=some p\/∃ q,cs[i]?=some q/\q≠.any/\p.cv e=q.cv e/\(∀ live,p.Ok w live)/\p.isC/\∀ r∈p.refs,r<st.bx.length) :
  Rel av w0 e0 [] [] a w e { st with bx:=st.bx.set k (.var cs') }:=by
 have hkl:=(oC.1 hk).1;have hget:∀(j:Nat) (B:Bx),(st.bx.set k (.var cs'))[j]?=some B->(j=k/\B=.var cs')\/(j≠k/\st.bx[j]?=some B):=fun j B hj=>by
  rw[nR]at hj;split at hj
  ·rename_i hkj
   first
    | (cases hj;exact .inl ⟨hkj.symm,rfl⟩)
    | (split at hj
       ·cases hj;exact .inl ⟨hkj.symm,rfl⟩
       ·cases hj)
  ·rename_i hkj;exact .inr ⟨fun hc=>hkj hc.symm,hj⟩
 have hlv:∀ j b,Lives [] e (st.bx.set k (.var cs')) j b↔Lives [] e st.bx j b:=fun j b=>by
  constructor
  ·rintro⟨h1,h2,B,h3,h4⟩
   rcases hget j B h3 with⟨rfl,rfl⟩ | ⟨h5,h6⟩
   ·exact⟨h1,h2,_,hk,by simp⟩
   ·exact⟨h1,h2,B,h6,h4⟩
  ·rintro⟨h1,h2,B,h3,h4⟩
   by_cases hjk:j=k
   ·subst hjk;exact⟨h1,h2,.var cs',by rw[nV hkl],by simp⟩
   ·exact⟨h1,h2,B,by rw[nJ (Ne.symm hjk)];exact h3,h4⟩
 have hlive:∀ b,zg av [] e (st.bx.set k (.var cs')) b->zg av [] e st.bx b:=fun b hb=>hb.imp id fun⟨j,hj⟩=>⟨j,(hlv j b).1 hj⟩
 have hok:=h.bo k _ hk (by simp);obtain⟨ho1,ho2⟩:=hok;rw[PV.OkL_iff]at ho1;exact { h with
  el:=by simp;exact h.el
  br := fun j B hj hn=>by
   rcases hget j B hj with⟨rfl,rfl⟩ | ⟨_,h6⟩
   ·obtain⟨b,c,t,g1,g2,g3,g4⟩:=h.br _ _ hk (by simp);refine⟨b,c,t,g1,g2,by rw[g3,hl],fun i p hp=>?_⟩;rcases hc i p hp with h7 | ⟨q,h7,h8,h9,_⟩
    ·exact g4 i p h7
    ·rcases g4 i q h7 with h10 | h10
     ·exact absurd h10 h8
     ·exact .inr (by rw[h9];exact h10)
   ·exact h.br j B h6 hn
  bo := fun j B hj hn=>by
   rcases hget j B hj with⟨rfl,rfl⟩ | ⟨_,h6⟩
   ·refine⟨PV.OkL_iff.2 fun p hp=>?_,fun p hp=>?_⟩
    ·obtain⟨i,hi⟩:=oQ.1 hp;rcases hc i p hi with h7 | ⟨q,_,_,_,h9,_⟩
     ·exact PV.Ok.mono (fun _ _ _=>rfl) (oD _) (fun b _=>hlive b) p (ho1 p (oA h7))
     ·exact h9 _
    ·obtain⟨i,hi⟩:=oQ.1 hp;rcases hc i p hi with h7 | ⟨q,_,_,_,_,h9,_⟩
     ·exact ho2 p (oA h7)
     ·exact .inr h9
   ·exact(h.bo j B h6 hn).mono (fun _ _ _=>rfl) (oD _) fun b _=>hlive b
  bf:=fun j B hj hn i hi=>by
   refine⟨by simp,?_⟩;rw[nZ];rcases hget j B hj with⟨rfl,rfl⟩ | ⟨_,h6⟩
   ·simp only[Bx.refs]at hi;obtain⟨p,hp,hip⟩:=PV.refsL_mem.1 hi;obtain⟨n,hn⟩:=oQ.1 hp;rcases hc n p hn with h7 | ⟨q,_,_,_,_,_,h9⟩
    ·exact(h.bf _ _ hk (by simp) i (by simp only[Bx.refs];exact PV.refsL_mem.2 ⟨p,oA h7,hip⟩)).2
    ·exact h9 i hip
   ·exact(h.bf j B h6 hn i hi).2
  inj:=fun i j b hi hj=>h.inj i j b ((hlv i b).1 hi) ((hlv j b).1 hj)
  so:=fun i p hp hn=>PV.Ok.mono (fun _ _ _=>rfl) (oD _) (fun b _=>hlive b) p (h.so i p hp hn)
  sr:=fun i p hp hn r hr=>by rw[nZ];exact h.sr i p hp hn r hr
  own:=fun j b hj=>h.own j b ((hlv j b).1 hj)
  avn:=fun j b hj=>h.avn j b ((hlv j b).1 hj) }
def St.bnils (st:St):List (Nat × Nat × TypeId × Nat)->St
 | []=>st
 | (t, j,ty,z)::l=>match st.sl[t]? with
   | some (.pb k _ _ _)=>match st.bx[k]? with
     | some (.var cs)=>match cs[j]? with
       | some (.sv none _ [] 0)=>St.bnils { st with bx:=List.set (st.bx++[Bx.arr ty z [] 0]) k (Bx.var (cs.set j (PV.sb st.bx.length z 0 0 0))) } l
       | _=>St.bnils st l
     | _=>St.bnils st l
   | _=>St.bnils st l
theorem AK:∀(l:List (Nat × Nat × TypeId × Nat)) (e:Env) (st:St),Rel av w0 e0 [] [] a w e st->∃ e',Rel av w0 e0 [] [] a w e' (st.bnils l)
 | [],e,st,h=>⟨e,h⟩
 | (t, j,ty,z)::l,e,st,h=>by
   simp only[St.bnils];split
   ·split
    ·split
     ·rename_i k _ _ _ _ _ cs hk _ zz hj;have h1:=Ao h (el:=ty) (z:=z) (by simp);have J:Env.at (e++[none]) st.bx.length=none:=by rw[<-h.el];exact Env.at_append_eq
      have O:=(oC.1 hk).1;have U:(st.bx++[Bx.arr ty z [] 0])[k]?=some (.var cs):=by rw[oO O];exact hk
      exact AK l _ _ (TY h1 U (cs':=cs.set j (.sb st.bx.length z 0 0 0)) (by simp) λi p I=>by
       rw[nR]at I;split at I
       ·rename_i Y;subst Y;split at I
        ·cases I;exact .inr ⟨_,hj,by simp,by simp[PV.cv,J],λ_=>trivial,trivial,λr hr=>by simp[PV.refs]at hr;subst hr;simp⟩
        ·cases I
       ·exact .inl I)
     ·exact AK l e st h
    ·exact AK l e st h
   ·exact AK l e st h
def St.sel (st:St)(ks:List Nat):St:={ st with sl:=st.sl.map (UU ks),bx:=ks.map λk=>(st.bx.getD k .gone).ren ks }
theorem Tc (h:Rel av w0 e0 [] [] a w e st) {ks:List Nat} (hn:ks.Nodup) (ao:∃ l,ks=List.range st.pins.length++l):Rel av w0 e0 [] [] a w (Ay e ks) (st.sel ks):=by
 have ai:∀ j,j<st.pins.length->ks[j]?=some j:=λj J=>by obtain⟨l,rfl⟩:=ao;rw[oO (by simpa using J)];simp[J]
 have al:∀ j k,ks[j]?=some k->k<st.pins.length->j=k:=λj k J hk=>by have U:=ai k hk;obtain⟨a1,a2⟩:=oC.1 U;obtain⟨b1,b2⟩:=oC.1 J;exact(List.getElem_inj hn).1 (b2.trans a2.symm)
 have aa:∀(j:Nat) (B':Bx),(ks.map λk=>(st.bx.getD k .gone).ren ks)[j]?=some B'->∃ k,ks[j]?=some k/\B'=(st.bx.getD k .gone).ren ks/\(Ay e ks).at j=e.at k:=λj B' J=>by
  rw[oG]at J;cases hk:ks[j]? with
  | none=>simp[hk]at J
  | some k=>simp[hk]at J;exact⟨k,rfl,by simp[J],by simp[Ay,Env.at,oB,hk]⟩
 have aq:∀ k,(st.bx.getD k .gone).ren ks≠.gone->∃ B,st.bx[k]?=some B/\B≠.gone/\(st.bx.getD k .gone)=B:=λk hk=>by
  rw[oB]at hk ⊢;cases hB:st.bx[k]? with
  | none=>rw[hB]at hk;exact absurd rfl hk
  | some B=>rw[hB]at hk;refine⟨B,rfl,λhc=>hk ?_,rfl⟩;simp only[ob];rw[hc];rfl
 have I:∀ j b,Lives [] (Ay e ks) (ks.map λk=>(st.bx.getD k .gone).ren ks) j b->∃ k,ks[j]?=some k/\Lives [] e st.bx k b:=λj b ⟨_,O,B',h3,h4⟩=>by obtain⟨k,h5,rfl,h6⟩:=aa j B' h3;obtain⟨B,h7,h8,_⟩:=aq k h4;exact⟨k,h5,by simp,by rw[<-h6];exact O,B,h7,h8⟩
 have ab:∀ b,zg av [] (Ay e ks) (ks.map λk=>(st.bx.getD k .gone).ren ks) b->zg av [] e st.bx b:=λb hb=>hb.imp id λ⟨j,J⟩=>by obtain⟨k,_,O⟩:=I j b J;exact⟨k,O⟩
 have aj:∀ p:PV,p.Ok w (zg av [] e st.bx)->p.Ok w (zg av [] (Ay e ks) (ks.map λk=>(st.bx.getD k .gone).ren ks)):=λp=>PV.Ok.mono (λ_ _ _=>rfl) (oD _) (λb _=>ab b) p;have Y:∀(i:Nat) (q:PV),(st.sl.map (UU ks))[i]?=some q->q=.any\/∃ p,st.sl[i]?=some p/\PV.ren ks p=some q:=λi q hi=>by
  rw[oG]at hi;cases hp:st.sl[i]? with
  | none=>simp[hp]at hi
  | some p=>
    simp[hp,UU]at hi;split at hi
    ·rename_i q' hq;subst hi;exact .inr ⟨p,rfl,hq⟩
    ·exact .inl hi.symm
 exact {
  el:=by simp[Ay,St.sel]
  br := λj B' J _=>by
   obtain⟨k,U,rfl,O⟩:=aa j B' J;rw[O];rw[oB];cases hB:st.bx[k]? with
   | none=>exact True.intro
   | some B=>
     have h3:=h.br k B hB (by simp);simp only[ob];cases B with
     | var cs=>
       obtain⟨b,c,t,g1,g2,g3,g4⟩:=h3;refine⟨b,c,t,g1,g2,by simpa using g3,λi p hp=>?_⟩;rw[oG]at hp;cases ak:cs[i]? with
       | none=>simp[ak]at hp
       | some q=>
         simp[ak,UU]at hp;split at hp
         ·rename_i q' hq;subst hp;have h5:=wz (e:=e) hq;rcases g4 i q ak with g5 | g5
          ·exact .inl (h5.an.1 g5)
          ·exact .inr (by rw[<-h5.cv];exact g5)
         ·exact .inl hp.symm
     | _=>exact h3
  bo := λj B' J _=>by
   obtain⟨k,U,rfl,O⟩:=aa j B' J;rw[oB];cases hB:st.bx[k]? with
   | none=>exact True.intro
   | some B=>
     have h3:=(h.bo k B hB (by simp)).mono (w':=w) (live':=zg av [] (Ay e ks) (ks.map λk=>(st.bx.getD k .gone).ren ks)) (λ_ _ _=>rfl) (oD _) λb _=>ab b;simp only[ob];cases B with
     | var cs=>
       obtain⟨g1,g2⟩:=h3;rw[PV.OkL_iff]at g1;refine⟨PV.OkL_iff.2 λp hp=>?_,λp hp=>?_⟩
       ·obtain⟨q,hq,rfl⟩:=oT.1 hp;unfold UU;split
        ·rename_i q' ac;exact(wz (e:=e) ac).ok _ _ (g1 q hq)
        ·trivial
       ·obtain⟨q,hq,rfl⟩:=oT.1 hp;unfold UU;split
        ·rename_i q' ac;have h5:=wz (e:=e) ac;rcases g2 q hq with g3 | g3
         ·exact .inl (h5.an.1 g3)
         ·exact .inr (h5.ic g3)
        ·exact .inl rfl
     | _=>exact h3
  bf := λj B' J _ i hi=>by
   refine⟨by simp,?_⟩;obtain⟨k,U,rfl,O⟩:=aa j B' J;simp only[St.sel,om];rw[oB]at hi;cases hB:st.bx[k]? with
   | none=>rw[hB]at hi;simp[Bx.ren,Bx.refs]at hi
   | some B=>
     rw[hB]at hi;simp only[ob]at hi;cases B with
     | var cs=>
       simp only[Bx.ren,Bx.refs]at hi;obtain⟨p,hp,ae⟩:=PV.refsL_mem.1 hi;obtain⟨q,hq,rfl⟩:=oT.1 hp;unfold UU at ae;split at ae
       ·rename_i q' ac;exact(wz (e:=e) ac).rf i ae
       ·simp[PV.refs]at ae
     | _=>simp[Bx.ren,Bx.refs]at hi
  inj:=λi j b hi J=>by
   obtain⟨k,U,O⟩:=I i b hi;obtain⟨l,h3,h4⟩:=I j b J;have au:=h.inj k l b O h4;subst au;have aw:=(oC.1 U)
   have ax:=(oC.1 h3)
   obtain⟨a0,ay⟩:=aw;obtain⟨a3,az⟩:=ax;exact(List.getElem_inj hn).1 (ay.trans az.symm)
  ku:=h.ku
  size:=h.size
  old:=h.old
  fz:=h.fz
  nd:=h.nd
  sz:=by simp[St.sel];exact h.sz
  hN:=h.hN
  hs:=λi q hi ah=>by
   rcases Y i q hi with U | ⟨p,U,O⟩
   ·exact .inl U
   ·rcases h.hs i p U ah with h3 | h3
    ·exact .inl ((wz (e:=e) O).an.1 h3)
    ·exact .inr (h3.trans (Te O))
  so:=λi q hi ah=>by
   rcases Y i q hi with U | ⟨p,U,O⟩
   ·subst U;trivial
   ·exact(wz (e:=e) O).ok _ _ (aj p (h.so i p U ah))
  sr:=λi q hi ah k hk=>by
   rcases Y i q hi with U | ⟨p,U,O⟩
   ·subst U;simp[PV.refs]at hk
   ·exact⟨by simp,by simp only[St.sel,om];exact(wz (e:=e) O).rf k hk⟩
  own:=λj b J=>by
   obtain⟨k,U,O⟩:=I j b J;rcases h.own k b O with h3 | ⟨h3,h4⟩
   ·exact .inl h3
   ·exact .inr ⟨h3,by rw[al j k U h4];exact h4⟩
  avl:=h.avl
  avn:=λj b J=>by obtain⟨k,_,O⟩:=I j b J;exact h.avn k b O
  pin:=λk b hb=>by have am:st.pins[k]?=some (some b):=hb;have hk:=ai k (oC.1 am).1;exact⟨by have:=(h.pin k b am).1;simpa [Ay,Env.at,oB,hk]using this,by simp⟩
  pit:=h.pit }
def St.canon (st:St)(K:St->Prop):Prop:=match st.pins with
 | []=>K (st.sel (C7 st.bx 200 (PV.refsL st.sl) []))
 | L=>K (st.sel (List.range L.length++(C7 st.bx 200 (List.range L.length++PV.refsL st.sl) []).filter (Nat.ble L.length)))
theorem TZ (h:Rel av w0 e0 [] [] a w e st){K:St->Prop}(hs:st.canon K):∃ e' st',K st'/\Rel av w0 e0 [] [] a w e' st':=by
 have hn:=tw (bx:=st.bx) 200 (PV.refsL st.sl) [] mR;unfold St.canon at hs;split at hs
 ·rename_i I;exact⟨_,_,hs,Tc h hn ⟨_,by rw[I];rfl⟩⟩
 ·rename_i I;refine⟨_,_,hs,Tc h ?_ ⟨_,rfl⟩⟩;refine nN.2 ⟨List.nodup_range,(tw 200 _ [] mR).filter _,λx hx y J O=>?_⟩;have U:=List.mem_range.1 hx;have Y:=mq (nW.1 J).2;omega
structure Cut where
 id:Nat
 keep:List Nat
 nils:List (Nat × TypeId × Nat):=[]
 cl:List Nat:=[]
 bnils:List (Nat × Nat × TypeId × Nat):=[]
def zAO (N0:Option Nat)(c:Cut)(st:St)(K:St->Prop):Prop:=Ac N0 #[] [] c.cl c.keep st λst=>St.canon (St.bnils (St.nils (St.keep st c.keep) c.nils) c.bnils) K
theorem I8 (h:Rel av w0 e0 [] [] a w e st){N0:Option Nat}(I:NOk N0 w0){c:Cut}{K:St->Prop}(hs:zAO N0 c st K):∃ e' st',K st'/\Rel av w0 e0 [] [] a w e' st':=by obtain⟨J,T,O,_,_,U⟩:=uX h I (by simp) hs;obtain⟨e1,Y⟩:=Kx c.nils _ _ (Tb U c.keep);obtain⟨e2,h4⟩:=AK c.bnils _ _ Y;exact TZ h4 O
mutual
def Mc (p:PV) (K:PV->Prop):Prop:=match p with
 | .any=>K .any
 | .int k n=>K (.int k n)
 | .bool v=>K (.bool v)
 | .str v=>K (.str v)
 | .lit x=>K (.lit x)
 | .sv a z es c=>K (.sv a z es c)
 | .d x=>K (.d x)
 | .dc x=>K (.dc x)
 | .dg n x=>K (.dg n x)
 | .pb k z i o=>K (.pb k z i o)
 | .pd ad z x=>K (.pd ad z x)
 | .sb k z lo n c=>K (.sb k z lo n c)
 | .fn f caps=>Em caps λl=>K (.fn f l)
 | .pg cs=>Em cs λl=>K (.pg l)
 | .tp cs=>Em cs λl=>K (.tp l)
def Em (l:List PV) (K:List PV->Prop):Prop:=match l with
 | []=>K []
 | p::ps=>Mc p λp=>Em ps λps=>K (p::ps)
end
mutual
theorem Sq:∀(p:PV) (K:PV->Prop),Mc p K=K p
 | .fn f caps,K=>by simp only[Mc];exact rP caps _
 | .pg cs,K=>by simp only[Mc];exact rP cs _
 | .tp cs,K=>by simp only[Mc];exact rP cs _
 | .any,K=>rfl
 | .int ..,K=>rfl
 | .bool ..,K=>rfl
 | .str ..,K=>rfl
 | .lit ..,K=>rfl
 | .sv ..,K=>rfl
 | .d ..,K=>rfl
 | .dc ..,K=>rfl
 | .dg ..,K=>rfl
 | .pd ..,K=>rfl
 | .pb ..,K=>rfl
 | .sb ..,K=>rfl
theorem rP:∀(l:List PV) (K:List PV->Prop),Em l K=K l
 | [],K=>rfl
 | p::ps,K=>by simp only[Em];rw[Sq,rP]
end
def So (B:Bx)(K:Bx->Prop):Prop:=match B with
 | .var cs=>Em cs λcs=>K (.var cs)
 | .vd x n=>K (.vd x n)
 | .arr t z es c=>K (.arr t z es c)
 | .gone=>K .gone
theorem Sp (B:Bx)(K:Bx->Prop):So B K=K B:=by
 cases B<;>simp only[So]
 exact rP _ _
def KW (l:List Bx)(K:List Bx->Prop):Prop:=match l with
 | []=>K []
 | B::bs=>So B λB=>KW bs λbs=>K (B::bs)
theorem JB:∀(l:List Bx)(K:List Bx->Prop),KW l K=K l
 | [],K=>rfl
 | B::bs,K=>by simp only[KW];rw[Sp,JB]
def FI (st:St)(K:St->Prop):Prop:=Em st.sl λsl=>KW st.bx λbx=>K { st with sl:=sl,bx:=bx }
theorem Ag (st:St)(K:St->Prop):FI st K=K st:=by simp only[FI];rw[rP,JB]
end Go.Proofs.YtlaniepnglheoaaGreat
