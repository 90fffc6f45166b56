/- A row is closed: it becomes a snapshot. -/
import Derived.Test.YtidiofobanefmaaGreatDoorJe
set_option linter.unusedVariables false
set_option linter.unusedSimpArgs false
set_option linter.unusedSectionVars false
namespace Go.Proofs.YtidiofobanefmaaGreatDoor
open Go
variable [Dfs] {av:Nat->Prop} {P:Program} {w0 w w':World} {e0 e:Env} {pS pS' pB:List Nat} {a:Act} {st st':St}
def GX (k:Nat)(s:PV)(z:Nat)(p:PV):PV:=
 match p with
 | .sb I z' lo n c=>if I=k then(if z'=z/\lo=0 then s else .any)else p
 | _=>p.kill k
def Hg (k z len c:Nat)(p:PV)(K:Prop):Prop:=
 match p with
 | .sb I z' lo n J=>if I=k/\z'=z/\lo=0 then(n=len/\J=c)/\K else K
 | _=>K
def Hh (k z len c:Nat):List PV->Prop->Prop
 | [],K=>K
 | p::ps,K=>Hg k z len c p (Hh k z len c ps K)
def clo (k:Nat)(s:PV)(z:Nat)(p:PV):PV:=
 match p with
 | .pg cs=>if(PV.refsL cs).contains k then(if(cs.map (GX k s z)).all PV.notAny=true then .pg (cs.map (GX k s z))else .any)else .pg cs
 | p=>GX k s z p
def GZ (k z len c:Nat):List PV->Prop->Prop
 | [],K=>K
 | p::ps,K=>match p with
   | .pg cs=>Hh k z len c cs (GZ k z len c ps K)
   | p=>Hg k z len c p (GZ k z len c ps K)
def Bx.clo (k:Nat)(s:PV)(z:Nat):Bx->Bx
 | .var cs=>.var (cs.map (GX k s z))
 | B=>B
def GY (k z len c:Nat):List Bx->Prop->Prop
 | [],K=>K
 | B::bs,K=>match B with
   | .var cs=>Hh k z len c cs (GY k z len c bs K)
   | _=>GY k z len c bs K
def PV.ds1:PV->List D
 | .sv a z es c=>[.sl a z es c]
 | .d x=>[x]
 | .dc x=>[x]
 | .dg _ x=>[x]
 | _=>[]
def PV.ds:PV->List D
 | .pg cs=>cs.flatMap PV.ds1
 | p=>p.ds1
def Bx.ds:Bx->List D
 | .var cs=>cs.flatMap PV.ds1
 | .vd x _=>[x]
 | .arr _ _ es _=>[.ag es]
 | .gone=>[]
structure Fresh (N0 N:Nat) (a:Option Addr) (ds:List D):Prop where
 lo:∀ ad,a=some ad->N0<=ad.block
 hi:∀ ad,a=some ad->ad.block<N
 off:∀ ad,a=some ad->ad.off=0
 ap:∀ ad,a=some ad->∀ d∈ds,ad.block∉d.foot
def St.clo (st:St)(k:Nat)(s:PV)(z:Nat)(N:Nat):St:={ st with sl:=st.sl.map (Proofs.YtidiofobanefmaaGreatDoor.clo k s z),bx:=(st.bx.map (Bx.clo k s z)).set k .gone,N:=N }
def He (N0:Option Nat)(st:St)(k:Nat)(fs I:List Nat)(K:St->Prop):Prop:=
 match N0,st.bx[k]?,Nat.ble st.pins.length k with
 | some N0,some (.arr _ z es c),true=>GZ k z es.length c st.sl (GY k z es.length c st.bx (∀ a N,st.N<=N ->
  Fresh N0 N a (.ag es::(fs.flatMap λi=>(st.sl.getD i .any).ds)++I.flatMap λj=>if j=k then []else(st.bx.getD j .gone).ds)->K (st.clo k (.sv a z es c) z N)))
 | _,_,_=>False
def NOk (N0:Option Nat)(w0:World):Prop:=∀ n,N0=some n->n=w0.heap.size
def EW (k z len c:Nat)(p:PV):Prop:=∀ n I,p=.sb k z 0 n I->n=len/\I=c
theorem Ba {k z len c:Nat}{p:PV}{K:Prop}(h:Hg k z len c p K):EW k z len c p/\K:=by
 cases p<;>simp only[Hg]at h<;>try exact⟨λ_ _ h=>(by cases h),h⟩
 split at h
 ·rename_i hc;exact⟨λn J I=>by cases I;exact h.1,h.2⟩
 ·rename_i hc;exact⟨λn J I=>by cases I;exact absurd ⟨rfl,rfl,rfl⟩ hc,h⟩
theorem ro {k z len c:Nat}:∀ {ps:List PV}{K:Prop},Hh k z len c ps K->(∀ p∈ps,EW k z len c p)/\K
 | [],K,h=>⟨by simp,h⟩
 | p::ps,K,h=>by simp only[Hh]at h;obtain⟨I,J⟩:=Ba h;obtain⟨O,U⟩:=ro J;exact⟨λq hq=>by rcases oG.1 hq with rfl | hq;exact I;exact O q hq,U⟩
def MG (k z len c:Nat)(p:PV):Prop:=EW k z len c p/\∀ cs,p=.pg cs->∀ q∈cs,EW k z len c q
theorem rp {k z len c:Nat}:∀ {ps:List PV}{K:Prop},GZ k z len c ps K->(∀ p∈ps,MG k z len c p)/\K
 | [],K,h=>⟨by simp,h⟩
 | p :: ps,K,h=>by
   have go:Hg k z len c p (GZ k z len c ps K)->(∀ cs,p≠.pg cs)->(∀ q∈p::ps,MG k z len c q)/\K:=λh V=>by
    obtain⟨I,J⟩:=Ba h;obtain⟨O,U⟩:=rp J;exact⟨λq hq=>by
     rcases oG.1 hq with rfl | hq
     ·exact⟨I,λcs hc=>absurd hc (V cs)⟩
     ·exact O q hq,U⟩
   cases p
   case pg cs=>
    simp only[GZ]at h;obtain⟨I,J⟩:=ro h;obtain⟨O,U⟩:=rp J;exact⟨λq hq=>by
     rcases oG.1 hq with rfl | hq
     ·exact⟨λ_ _ h=>(by cases h),λcs' hc=>by cases hc;exact I⟩
     ·exact O q hq,U⟩
   all_goals exact go h (λ_ h=>by cases h)
theorem rn {k z len c:Nat}:∀ {bs:List Bx}{K:Prop},GY k z len c bs K->(∀ cs,Bx.var cs∈bs->∀ q∈cs,EW k z len c q)/\K
 | [],K,h=>⟨by simp,h⟩
 | B :: bs,K,h=>by
   cases B
   case var cs=>
    simp only[GY]at h;obtain⟨O,U⟩:=ro h;obtain⟨I,J⟩:=rn U;exact⟨λcs' hq=>by
     rcases oG.1 hq with hq | hq
     ·cases hq;exact O
     ·exact I cs' hq,J⟩
   all_goals
    simp only[GY]at h;obtain⟨I,J⟩:=rn h;exact⟨λcs' hq=>by
     rcases oG.1 hq with hq | hq
     ·cases hq
     ·exact I cs' hq,J⟩
structure Clo (k:Nat) (w:World) (e:Env) (live:Nat->Prop) (p q:PV):Prop where
 v:q=.any\/p.val e=q.val e
 v1:q=.any\/p.cv e=q.cv e
 ok:p.Ok w live->q.Ok w live
 rf:∀ j∈q.refs,j∈p.refs/\j≠k
 c:p.isC->q=.any\/q.isC
theorem JT {k:Nat}{live:Nat->Prop}{p:PV}:Clo k w e live p (p.kill k):=by
 rcases PV.kill_cases k p with h | ⟨h,J⟩
 ·rw[h];exact⟨.inl rfl,.inl rfl,λ_=>trivial,by simp[PV.refs],λ_=>.inl rfl⟩
 ·rw[h];exact⟨.inr rfl,.inr rfl,id,λj I=>⟨I,λhc=>J (hc ▸ I)⟩,λh=>.inr h⟩
theorem p4 {k z c:Nat} {es:List D} {live:Nat->Prop} (Z:Good w live (.sl ((e.at k).map λb=>⟨b,0,none⟩) z es c)) {p:PV} (hc:EW k z es.length c p) :
  Clo k w e live p (GX k (.sv ((e.at k).map λb=>⟨b,0,none⟩) z es c) z p):=by
 cases p
 case sb I z' lo n J=>
  simp only[GX];split
  ·rename_i O;subst O;split
   ·rename_i hz;obtain⟨rfl,rfl⟩:=hz;obtain⟨rfl,rfl⟩:=hc n J rfl;have Y:(PV.sb I z' 0 es.length J).cv e=(PV.sv ((e.at I).map λb=>⟨b,0,none⟩) z' es J).cv e:=by cases U:e.at I<;>simp[PV.cv,U]
    exact⟨.inr Y,.inr Y,λ_=>Z,by simp[PV.refs],λ_=>.inr trivial⟩
   ·exact⟨.inl rfl,.inl rfl,λ_=>trivial,by simp[PV.refs],λ_=>.inl rfl⟩
  ·rename_i O;exact⟨.inr rfl,.inr rfl,id,λj V=>⟨V,λhc=>by simp[PV.refs]at V;exact O (V ▸ hc)⟩,λh=>.inr h⟩
 all_goals exact JT
theorem CV {k z c:Nat} {es:List D} {live:Nat->Prop} (hg:Good w live (.sl ((e.at k).map λb=>⟨b,0,none⟩) z es c)) {p:PV} (hc:MG k z es.length c p) (J:p.Ok w live) :
  (clo k (.sv ((e.at k).map λb=>⟨b,0,none⟩) z es c) z p=.any\/p.val e=(clo k (.sv ((e.at k).map λb=>⟨b,0,none⟩) z es c) z p).val e) /\
  (clo k (.sv ((e.at k).map λb=>⟨b,0,none⟩) z es c) z p).Ok w live/\∀ j∈(clo k (.sv ((e.at k).map λb=>⟨b,0,none⟩) z es c) z p).refs,j∈p.refs/\j≠k:=by
 generalize hs:PV.sv ((e.at k).map λb=>⟨b,0,none⟩) z es c=s;cases p
 case pg cs=>
  simp only[clo];split
  ·split
   ·rename_i Y;have O:∀ q∈cs,Clo k w e live q (GX k s z q):=λq I=>by rw[<-hs];exact p4 hg (hc.2 cs rfl q I)
    have Z:∀ q∈cs,GX k s z q≠.any:=λq I he=>by
     have:=oW.1 Y (GX k s z q) (oU.2 ⟨q,I,rfl⟩)
     rw[he]at this;simp[PV.notAny]at this
    simp only[PV.Ok,PV.OkL_iff]at J;refine⟨.inr ?_,?_,?_⟩
    ·simp only[PV.val,PV.val1,PV.cvs_eq,nq];congr 2;exact ou λq I=>(O q I).v1.resolve_left (Z q I)
    ·simp only[PV.Ok,PV.OkL_iff];refine⟨λq I=>?_,λq I=>?_⟩
     ·obtain⟨r,U,rfl⟩:=oU.1 I;exact(O r U).ok (J.1 r U)
     ·obtain⟨r,U,rfl⟩:=oU.1 I;exact((O r U).c (J.2 r U)).resolve_left (Z r U)
    ·intro j V;simp only[PV.refs]at V ⊢;obtain⟨q,I,aa⟩:=PV.refsL_mem.1 V;obtain⟨r,U,rfl⟩:=oU.1 I
     have:=(O r U).rf j aa
     exact⟨PV.refsL_mem.2 ⟨r,U,this.1⟩,this.2⟩
   ·exact⟨.inl rfl,trivial,by simp[PV.refs]⟩
  ·rename_i hk;refine⟨.inr rfl,J,λj V=>⟨V,λab=>hk ?_⟩⟩;simp only[PV.refs]at V;simpa using ab ▸ V
 all_goals
  have:=p4 hg hc.1
  rw[hs]at this;exact⟨this.v,this.ok J,this.rf⟩
theorem IW (h:Rel av w0 e0 pS pB a w e st) {k z c:Nat} {t:TypeId} {es:List D} (hk:st.bx[k]?=some (.arr t z es c)) (ac:k∉pB)
  (hS:∀ p∈st.sl,MG k z es.length c p) (hB:∀ cs,Bx.var cs∈st.bx->∀ q∈cs,EW k z es.length c q) :
  Rel av w0 e0 pS pB a w e (st.clo k (.sv ((e.at k).map λb=>⟨b,0,none⟩) z es c) z w.heap.size):=by
 have al:k<st.bx.length:=(oC.1 hk).1;generalize hs:PV.sv ((e.at k).map λb=>(⟨b,0,none⟩:Addr)) z es c=s;have Z:∀(j:Nat) (B':Bx),((st.bx.map (Bx.clo k s z)).set k .gone)[j]?=some B'->(j=k/\B'=.gone)\/(j≠k/\∃ B,st.bx[j]?=some B/\B'=B.clo k s z):=λj B' hj=>by
  rw[nZ]at hj;split at hj
  ·rename_i hh;subst hh;split at hj
   ·simp at hj;exact .inl ⟨rfl,hj.symm⟩
   ·cases hj
  ·rename_i hh;rw[oE]at hj;cases hB:st.bx[j]? with
   | none=>simp[hB]at hj
   | some B=>simp[hB]at hj;exact .inr ⟨λhc=>hh hc.symm,B,rfl,hj.symm⟩
 have I:∀ j b,Lives pB e ((st.bx.map (Bx.clo k s z)).set k .gone) j b->j≠k/\Lives pB e st.bx j b:=λj b ⟨h1,h2,B',h3,h4⟩=>by
  rcases Z j B' h3 with⟨_,rfl⟩ | ⟨hj,B,J,rfl⟩
  ·exact absurd rfl h4
  ·refine⟨hj,h1,h2,B,J,λhg=>h4 ?_⟩;subst hg;rfl
 have U:∀ b,zM av pB e ((st.bx.map (Bx.clo k s z)).set k .gone) b->zM av pB e st.bx b:=λb hb=>hb.imp id λ⟨j,hj⟩=>⟨j,(I j b hj).2⟩
 have V:∀ p:PV,p.Ok w (zM av pB e st.bx)->p.Ok w (zM av pB e ((st.bx.map (Bx.clo k s z)).set k .gone)):=λp=>PV.Ok.mono (λ_ _ _=>rfl) (oJ _) (λb _=>U b) p;have hg:Good w (zM av pB e ((st.bx.map (Bx.clo k s z)).set k .gone)) (.sl ((e.at k).map λb=>⟨b,0,none⟩) z es c):=by
  have hr:=h.br k _ hk ac;have ho:=h.bo k _ hk ac;have ae:∀ x∈es,Good w (zM av pB e ((st.bx.map (Bx.clo k s z)).set k .gone)) x:=λx hx=>(ho x hx).mono (λ_ _ _=>rfl) λb _=>U b;rcases hr with⟨g1,g2,g3⟩ | ⟨b,cc,g1,g2,g3,g4,g5,g6,g7⟩
  ·subst g2;subst g3;rw[g1];exact⟨.nil,by simp[D.foot,yF]⟩
  ·rw[g1];refine⟨.sl (λ_=>rfl) g4 g6 (λx hx=>(ae x hx).1) (.inr ⟨cc,t,(0,0),g2,λi u hu=>by simpa using g7 i u hu⟩),λj hj aa=>?_⟩;simp only[oR,D.foot]at hj;split at hj
   ·simp at hj
   ·rcases oG.1 hj with rfl | hj
    ·have ah:Lives pB e st.bx k j:=⟨ac,g1,_,hk,by simp⟩
     rcases aa with aa | ⟨i,hi⟩
     ·exact h.avn k j ah aa
     ·obtain⟨h1,h2⟩:=I i _ hi;exact h1 (h.inj i k _ h2 ah)
    ·obtain⟨x,hx,aj⟩:=zL.1 hj;exact(ae x hx).2 j aj aa
 have Y:∀(i:Nat) (q:PV),(st.sl.map (clo k s z))[i]?=some q->∃ p,st.sl[i]?=some p/\q=clo k s z p/\MG k z es.length c p:=λi q hi=>by
  rw[oE]at hi;cases hp:st.sl[i]? with
  | none=>simp[hp]at hi
  | some p=>simp[hp]at hi;exact⟨p,rfl,hi.symm,hS p (oB hp)⟩
 have O:∀(j:Nat) (cs:List PV),st.bx[j]?=some (.var cs)->∀ q∈cs,Clo k w e (zM av pB e ((st.bx.map (Bx.clo k s z)).set k .gone)) q (GX k s z q):=λj cs hj q hq=>by rw[<-hs];rw[<-hs]at hg;exact p4 hg (hB cs (oB hj) q hq)
 exact {
  el:=by simp[St.clo,h.el]
  br := λj B' hj hn=>by
   rcases Z j B' hj with⟨_,rfl⟩ | ⟨ai,B,J,rfl⟩
   ·exact True.intro
   ·have h6:=h.br j B J hn;cases B with
    | var cs=>
      obtain⟨b,cc,tt,h1,h2,h3,h4⟩:=h6;refine⟨b,cc,tt,h1,h2,by simpa using h3,λi p hp=>?_⟩;rw[oE]at hp;cases ab:cs[i]? with
      | none=>simp[ab]at hp
      | some q=>
        simp[ab]at hp;subst hp;rcases h4 i q ab with h7 | h7
        ·subst h7;exact .inl rfl
        ·rcases(O j cs J q (oB ab)).v1 with h8 | h8
         ·exact .inl h8
         ·exact .inr (by rw[<-h8];exact h7)
    | _=>exact h6
  bo:=λj B' hj hn=>by
   rcases Z j B' hj with⟨_,rfl⟩ | ⟨ai,B,J,rfl⟩
   ·exact True.intro
   ·have h6:=(h.bo j B J hn).mono (w':=w) (live':=zM av pB e ((st.bx.map (Bx.clo k s z)).set k .gone)) (λ_ _ _=>rfl) (oJ _) (λb _=>U b);cases B with
    | var cs=>
      obtain⟨h7,h8⟩:=h6;rw[PV.OkL_iff]at h7;refine⟨PV.OkL_iff.2 λp hp=>?_,λp hp=>?_⟩
      ·obtain⟨q,hq,rfl⟩:=oU.1 hp;exact(O j cs J q hq).ok (h7 q hq)
      ·obtain⟨q,hq,rfl⟩:=oU.1 hp;rcases h8 q hq with h9 | h9
       ·subst h9;exact .inl rfl
       ·exact(O j cs J q hq).c h9
    | _=>exact h6
  bf:=λj B' hj hn i hi=>by
   simp only[St.clo,ma,nP];rcases Z j B' hj with⟨_,rfl⟩ | ⟨ai,B,J,rfl⟩
   ·simp[Bx.refs]at hi
   ·cases B with
    | var cs=>simp only[Bx.clo,Bx.refs]at hi;obtain⟨p,hp,ak⟩:=PV.refsL_mem.1 hi;obtain⟨q,hq,rfl⟩:=oU.1 hp;exact h.bf j _ J hn i (by simp only[Bx.refs];exact PV.refsL_mem.2 ⟨q,hq,((O j cs J q hq).rf i ak).1⟩)
    | _=>exact h.bf j _ J hn i hi
  inj:=λi j b hi hj=>h.inj i j b (I i b hi).2 (I j b hj).2
  ku:=h.ku
  size:=h.size
  old:=h.old
  fz:=h.fz
  nd:=h.nd
  sz:=by simp[St.clo];exact h.sz
  hN:=oJ _
  hs:=λi q hi hn=>by
   obtain⟨p,h1,rfl,h3⟩:=Y i q hi;have h4:=V p (h.so i p h1 hn);rw[<-hs]at hg h4;have J:=CV hg h3 h4;rw[hs]at J;rcases J.1 with h6 | h6
   ·exact .inl h6
   ·rcases h.hs i p h1 hn with h7 | h7
    ·subst h7;left;simp[clo,GX,PV.kill,PV.refs]
    ·exact .inr (h7.trans h6)
  so:=λi q hi hn=>by obtain⟨p,h1,rfl,h3⟩:=Y i q hi;have h4:=V p (h.so i p h1 hn);rw[<-hs]at hg h4;have J:=CV hg h3 h4;rw[hs]at J;exact J.2.1
  sr:=λi q hi hn j hj=>by
   obtain⟨p,h1,rfl,h3⟩:=Y i q hi;have h4:=V p (h.so i p h1 hn);rw[<-hs]at hg h4;have J:=CV hg h3 h4;rw[hs]at J
   have:=h.sr i p h1 hn j (J.2.2 j hj).1
   exact⟨this.1,by simp[St.clo];exact this.2⟩
  own:=λj b hj=>h.own j b (I j b hj).2
  avl:=h.avl
  avn:=λj b hj=>h.avn j b (I j b hj).2
  pin:=h.pin
  pit:=h.pit }
theorem CX {live:Nat->Prop}{p:PV}(h:p.Ok w live):∀ d∈p.ds1,Good w live d:=by
 cases p<;>simp[PV.ds1]<;>simp only[PV.Ok]at h
 ·exact h
 ·exact h
 ·exact h.1
 ·exact h.1
theorem LK {live:Nat->Prop}{p:PV}(h:p.Ok w live):∀ d∈p.ds,Good w live d:=by
 cases p
 case pg cs=>simp only[PV.Ok,PV.OkL_iff]at h;intro d hd;simp only[PV.ds]at hd;obtain⟨q,I,hd⟩:=ni.1 hd;exact CX (h.1 q I) d hd
 all_goals exact CX h
theorem JJ {live:Nat->Prop}{B:Bx}(h:B.Ok w live):∀ d∈B.ds,Good w live d:=by
 cases B with
 | var cs=>have I:=h.1;rw[PV.OkL_iff]at I;intro d hd;simp only[Bx.ds]at hd;obtain⟨q,J,hd⟩:=ni.1 hd;exact CX (I q J) d hd
 | vd x n=>simp only[Bx.ds];intro d hd;simp at hd;subst hd;exact h
 | arr t z es c=>simp only[Bx.ds];intro d hd;simp at hd;subst hd;exact Good.ag h
 | gone=>simp[Bx.ds]
theorem DX (h:Rel av w0 e0 pS pB a w e st) {N0:Option Nat} (Z:NOk N0 w0) {k:Nat} (U:k∉pB) {fs fb:List Nat} (aa:∀ i∈fs,i∉pS) (ab:∀ i∈fb,i∉pB) {K:St->Prop} (hs:He N0 st k fs fb K) :
  ∃ s z N,K (st.clo k s z N)/\Rel av w0 e0 pS pB a w e (st.clo k s z N)/\s.refs=[]:=by
 unfold He at hs;split at hs
 rotate_left
 ·exact hs.elim
 rename_i n0 t z es c hk Y;have Y:=mK Y;obtain rfl:=Z _ rfl;obtain⟨h1,hs⟩:=rp hs;obtain⟨h2,hs⟩:=rn hs;refine⟨_,_,_,hs ((e.at k).map λb=>⟨b,0,none⟩) w.heap.size h.hN ?_,IW h hk U h1 h2,rfl⟩;have O:∀ ad,((e.at k).map λb=>(⟨b,0,none⟩:Addr))=some ad->ad.off=0/\Lives pB e st.bx k ad.block:=λad I=>by
  cases V:e.at k with
  | none=>simp[V]at I
  | some b=>simp[V]at I;subst I;exact⟨rfl,U,V,_,hk,by simp⟩
 have J:∀ b,Lives pB e st.bx k b->∀ d,Good w (zM av pB e st.bx) d->b∉d.foot:=λb hl d hd hc=>hd.2 b hc (.inr ⟨k,hl⟩);refine⟨λad I=>?_,λad I=>Lives.lt h.toMem (O ad I).2,λad I=>(O ad I).1,λad I d hd=>?_⟩
 ·rcases h.own k _ (O ad I).2 with h3 | h3
  ·exact h3
  ·omega
 ·have J:=J _ (O ad I).2;simp only[nA]at hd;rcases oG.1 hd with rfl | hd
  ·exact J _ (Good.ag (h.bo k _ hk U))
  ·rcases oO.1 hd with hd | hd
   ·obtain⟨i,hi,hd⟩:=ni.1 hd;cases hp:st.sl[i]? with
    | none=>rw[oA,hp]at hd;simp[PV.ds,PV.ds1]at hd
    | some p=>rw[oA,hp]at hd;exact J d (LK (h.so i p hp (aa i hi)) d hd)
   ·obtain⟨j,hj,hd⟩:=ni.1 hd;split at hd
    ·simp at hd
    ·cases hB:st.bx[j]? with
     | none=>rw[oA,hB]at hd;simp[Bx.ds]at hd
     | some B=>rw[oA,hB]at hd;exact J d (JJ (h.bo j B hB (ab j hj)) d hd)
variable {av:Nat->Prop} {P:Program} {w0 w w':World} {e0 e:Env} {pS pS' pB:List Nat} {a:Act} {st st':St}
def zV (P:Program):List TypeId->List PV->List PV
 | t::ts,p::ps=>retag P t p::zV P ts ps
 | _,ps=>ps
def MC (P:Program)(p:PV):List TypeId:=
 match p with
 | .fn f _=>match P.funcs[f]? with
   | some fn=>fn.params.toList
   | none=>[]
 | _=>[]
theorem ya:∀(ts:List TypeId)(ps:List PV),(zV P ts ps).length=ps.length
 | [],ps=>rfl
 | t::ts,[]=>rfl
 | t::ts,p::ps=>by simp[zV,ya ts ps]
theorem vX:∀(ts:List TypeId)(ps:List PV)(i:Nat)(q:PV),(zV P ts ps)[i]?=some q->∃ p,ps[i]?=some p/\(q=p\/∃ t,q=retag P t p)
 | [],ps,i,q,h=>⟨q,h,.inl rfl⟩
 | t::ts,[],i,q,h=>by simp[zV]at h
 | t::ts,p::ps,i,q,h=>by
   cases i with
   | zero=>simp[zV]at h;exact⟨p,rfl,.inr ⟨t,h.symm⟩⟩
   | succ i=>simp[zV]at h;simpa using vX ts ps i q h
def OP:List Sh->Option (List Sh)
 | .row _ z::l=>match Nat.beq z 1000007 with
   | true=>some l
   | false=>none
 | _=>none
def MV (P:Program)(sh:FuncId->List Sh)(st:St)(dst:Option Nat)(x:Operand)(args:List PV)(K:St->Prop):Prop:=
 match LQ (opd st.sl x)with
 | some (f,_)=>match OP (sh f)with
   | some rs=>MU P rs st dst x args K
   | none=>LB P sh st dst x args K
 | none=>False
def LC (sh:FuncId->List Sh)(st:St)(x:Operand)(args:List PV):List Nat:=
 match LQ (opd st.sl x)with
 | some (f,caps)=>match OP (sh f)with
   | some _=>sw st.bx 200 (PV.refsL (args++caps)) []
   | none=>[]
 | none=>[]
def Ng (P:Program) (sh:FuncId->List Sh) (o:Oper) (st:St) (K:St->Prop):Prop:=
 match o.op with
 | .store t x y=>stF P (opd st.sl) (λk=>st.bx[k]?) t x y λk B=>K (St.put { st with bx:=st.bx.set k B } o.dst (.tp []))
 | .call c=>match c.callee with
   | .builtin .append=>match c.args.toList,c.argTypes.toList with
     | [x,y],[t,I]=>if t=I then apF false P st o.dst t x y K else match P.underlying I with
       | some .string=>Ip P st o.dst t I x y K
       | _=>Lc P st o.dst t I x y K
     | _,_=>False
   | .builtin .clear=>match c.args.toList,c.argTypes.toList with
     | [x],[t]=>Hc P st o.dst t x K
     | _,_=>False
   | .builtin .cap=>match c.args.toList,c.argTypes.toList with
     | [x],[t]=>match P.underlying t,OJ (opd st.sl x)with
       | some (.slice _),some n=>K (st.put o.dst (.int .i64 n))
       | _,_=>False
     | _,_=>False
   | .value x=>MV P sh st o.dst x (zV P (MC P (opd st.sl x)) (c.args.toList.map (opd st.sl))) K
   | _=>False
 | _=>False
def qN (P:Program) (sh:FuncId->List Sh) (o:Oper) (st:St):List Nat:=
 match o.op with
 | .store t x y=>match opd st.sl x with
   | .pb k _ _ _=>[k]
   | _=>[]
 | .call c=>match c.callee with
   | .builtin .append=>match c.args.toList,c.argTypes.toList with
     | [x,y],[t,I]=>match retag P t (opd st.sl x)with
       | .sb k _ _ _ _=>[k]
       | _=>[]
     | _,_=>[]
   | .builtin .clear=>match c.args.toList with
     | [x]=>match opd st.sl x with
       | .sb k _ _ _ _=>[k]
       | _=>[]
     | _=>[]
   | .value x=>LC sh st x (zV P (MC P (opd st.sl x)) (c.args.toList.map (opd st.sl)))
   | _=>[]
 | _=>[]
def JE (st:St)(T:List Nat):List Nat:=T.filter λk=>(st.bx.getD k .gone).isArr
theorem JF {T:List Nat}:∀ k∈JE st T,k∈T:=λk h=>(mD.1 h).1
structure Stp (T TA:List Nat) (dst:Option Nat) (st st':St):Prop where
 sl:∀(i:Nat) (p:PV),some i≠dst->st.sl[i]?=some p->(∀ k∈TA,k∉p.refs)->st'.sl[i]?=some p
 bx:∀(k:Nat) (B:Bx),st.bx[k]?=some B->k∉T->(∀ j∈T,j∉B.refs)->st'.bx[k]?=some B
 bl:st.bx.length<=st'.bx.length
 ll:st'.sl.length=st.sl.length
theorem Stp.rfl' {T TA:List Nat}{dst:Option Nat}:Stp T TA dst st st:=⟨λ_ _ _ h _=>h,λ_ _ h _ _=>h,oJ _,rfl⟩
theorem Stp.put {T TA:List Nat}{dst:Option Nat}(h:Stp T TA dst st st')(p:PV):Stp T TA dst st (st'.put dst p):=by
 cases dst with
 | none=>exact h
 | some d=>refine⟨λi q hi I J=>?_,λk B O U V=>h.bx k B O U V,h.bl,by simp[St.put,h.ll]⟩;simp only[St.put];rw[nc (λhc=>hi (by rw[hc]))];exact h.sl i q hi I J
theorem Stp.app {T TA:List Nat}{dst:Option Nat}(h:Stp T TA dst st st')(rows:List Bx)(N:Nat):Stp T TA dst st { st' with bx:=st'.bx++rows,N:=N }:=by
 refine⟨h.sl,λk B I J O=>?_,by simp;have:=h.bl;omega,h.ll⟩
 have:=h.bx k B I J O
 simp only;rw[oK (oC.1 this).1];exact this
theorem Stp.set {T TA:List Nat}{dst:Option Nat}(h:Stp T TA dst st st'){k:Nat}(J:k∈T)(B:Bx):Stp T TA dst st { st' with bx:=st'.bx.set k B }:=by refine⟨h.sl,λj C O I U=>?_,by simp;exact h.bl,h.ll⟩;simp only;rw[nc (λhc=>I (by rw[<-hc];exact J))];exact h.bx j C O I U
theorem AH {k:Nat}{p:PV}(h:k∉p.refs):p.kill k=p:=by simp[PV.kill,h]
theorem Stp.kill {T TA:List Nat}{dst:Option Nat}(h:Stp T TA dst st st'){k:Nat}(U:k∈T)(V:k∈TA):Stp T TA dst st (st'.kill k):=by
 refine⟨λi p hi I J=>?_,λj C Y Z O=>?_,by simp[St.kill];exact h.bl,by simp[St.kill,h.ll]⟩
 ·simp only[St.kill,oE,h.sl i p hi I J,oR,AH (J k V)]
 ·simp only[St.kill,oE,h.bx j C Y Z O,oR];congr 1;cases C with
  | var cs=>
    simp only[Bx.kill];congr 1
    conv=>rhs;rw[<-List.map_id cs]
    refine ou λp I=>AH λhc=>O k U ?_;simp only[Bx.refs];exact PV.refsL_mem.2 ⟨p,I,hc⟩
  | _=>rfl
theorem Ai {T TA:List Nat}{dst:Option Nat}{bx:List Bx}:∀(ks:List Nat)(st':St),(∀ k∈ks,k∈T)->(∀ k∈ks,(bx.getD k .gone).isArr=true->k∈TA)->Stp T TA dst st st'->Stp T TA dst st (yo bx ks st')
 | [],st',_,_,h=>h
 | k::ks,st',J,O,h=>by
   simp only[yo];split
   ·rename_i hc;exact Ai ks _ (λj I=>J j (by simp[I])) (λj I=>O j (by simp[I])) (h.kill (J k (by simp)) (O k (by simp) hc))
   ·exact Ai ks _ (λj I=>J j (by simp[I])) (λj I=>O j (by simp[I])) h
theorem M7 {dst:Option Nat}(ks:List Nat)(nb rows:List Bx)(N:Nat):Stp ks (JE st ks) dst st (Ni st ks nb rows N):=by
 have I:=Ai (dst:=dst) (bx:=st.bx) ks st (λ_ h=>h) (λk J hc=>mD.2 ⟨J,hc⟩) Stp.rfl';refine Stp.app (st':={ yo st.bx ks st with bx:=bxN ks (nb.map (Bx.mapR λj=>ks.getD j 0)) 0 (yo st.bx ks st).bx }) ⟨I.sl,λk B J O U=>?_,by simp only[yE];exact I.bl,I.ll⟩ rows N;have V:=I.bx k B J O U;simp only[Ec,V,oR,np];cases Y:pos ks k with
 | none=>rfl
 | some j=>exact absurd (oB (u5 Y)) O
theorem Im {ρ:Operand->PV}{rb:Nat->Option Bx}{t:TypeId}{x y:Operand}{K:Nat->Bx->Prop}(h:stF P ρ rb t x y K):stF P ρ rb t x y λk B=>(∃ z i o,ρ x=.pb k z i o)/\K k B:=by
 unfold stF at h ⊢;split at h
 ·rename_i z k zz i o J I;split at h
  ·rename_i B O;have:(λB=>(∃ z i o,ρ x=.pb k z i o)/\K k B)=K k:=by funext B;exact propext ⟨λh=>h.2,λh=>⟨⟨_,_,_,I⟩,h⟩⟩
   show G2 z zz B i o (retag P t (ρ y)) (λB=>(∃ z i o,ρ x=.pb k z i o)/\K k B);rw[this];exact h
  ·exact h.elim
 ·exact h.elim
theorem HH {g:Bool} {dst:Option Nat} {t:TypeId} {x y:Operand} {K:St->Prop} {T:List Nat} (I:T=match retag P t (opd st.sl x)with | .sb k _ _ _ _=>[k] | _=>[]) (h:apF g P st dst t x y K) :
  apF g P st dst t x y λst'=>Stp T (JE st T) dst st st'/\K st':=by
 have mono:∀(q:PV) (R R':Nat->List D->Prop),(∀ z l,R z l->R' z l)->GP g (λk=>st.bx[k]?) q R->GP g (λk=>st.bx[k]?) q R':=λq R R' U h=>by
  unfold GP at h ⊢;split at h
  ·rename_i k z lo n c;simp only;split at h
   ·rename_i J;simp only[J];split at h
    ·split at h
     ·rename_i hc;rw[if_pos hc];exact U _ _ h
     ·exact h.elim
    ·split at h
     ·rename_i hc;rw[if_pos hc];exact⟨h.1,U _ _ h.2⟩
     ·exact h.elim
   ·exact h.elim
  ·exact U _ _ h
  ·exact h.elim
 unfold apF at h ⊢;split at h
 rotate_left
 ·exact h.elim
 rename_i el V
 try simp only[V]
 split at h
 rotate_left
 ·exact h.elim
 rename_i z i hz hi
 try simp only[hz,hi]
 split at h
 ·exact h.elim
 rename_i hb;rw[if_neg hb];refine mono _ _ _ (λz2 new h=>?_) h;split at h
 rotate_left
 ·exact h.elim
 rename_i Y;rw[if_pos Y];split at h
 ·rename_i k z1 lo n c O;rw[O]at I;simp only at I
  try simp only[O]
  split at h
  ·exact h.elim
  rename_i Z
  try simp only[Z]
  split at h
  ·rename_i t' z' es c' J
   try simp only[J]
   split at h
   ·rename_i hc;rw[if_pos hc];refine⟨h.1,h.2.1,λc2=>(h.2.2 c2).mono λh=>⟨?_,h⟩⟩;refine Stp.put (Stp.set (st':=st.kill k) (Stp.kill Stp.rfl' (by rw[I];simp) (by rw[I];simp[JE,oA,J,Bx.isArr])) (by rw[I];simp) _) _
   ·exact h.elim
  ·exact h.elim
 ·rename_i ad z1 es c O
  try simp only[O]
  split at h
  ·rename_i hc;rw[if_pos hc];refine⟨h.1,h.2.1,λc2=>⟨?_,h.2.2 c2⟩⟩;exact Stp.put (Stp.app Stp.rfl' _ _) _
  ·exact h.elim
 ·exact h.elim
theorem Ji (h:Rel av w0 e0 pS pB a w e st) (ab:∀ k∈pB,k<st.bx.length) {sh:FuncId->List Sh} {o:Oper} {K:St->Prop}
  (Y:∀ x∈o.op.operands,∀ t,x=.tmp t->t∉pS) (Z:∀ i,i∈pS->some i≠o.dst->i∈pS') (hs:Ng P sh o st K)
  {next:Act->World->Prop} {Q:Exit->Act->World->Prop}
  (hn:∀ v w' e' st',K st'->Stp (qN P sh o st) (JE st (qN P sh o st)) o.dst st st'->Rel av w0 e0 pS' pB (a.put o.dst v) w' e' st'->next (a.put o.dst v) w'):o.wp P a w next Q:=by
 unfold Ng at hs;split at hs
 ·rename_i t x y J;have V:qN P sh o st=match opd st.sl x with | .pb k _ _ _=>[k] | _=>[]:=by simp only[qN,J]
  rw[J]at Y;simp only[Op.operands]at Y;obtain⟨w',k,B',h1,⟨⟨z,i,oo,hk⟩,h2⟩,h3⟩:=Il h (Y x (by simp)) (Y y (by simp)) (Im hs);have O:(execOp a.eval o).run P w=.ok .skip w':=by obtain⟨dst,op,ty,pos,after,guard⟩:=o;simp only at J;subst J;simp[execOp,h1]
  unfold Oper.wp;rw[O,Oper.upon_skip];refine hn undef w' e _ h2 ?_ (yQ h3 ⟨.inr rfl,by simp[PV.Ok,PV.OkL],by simp[PV.refs,PV.refsL]⟩ Z);rw[V,hk];exact Stp.put (Stp.set Stp.rfl' (by simp) _) _
 ·rename_i c J;rw[J]at Y;simp only[Op.operands,Call.operands]at Y;split at hs
  ·rename_i hc;split at hs
   ·rename_i x y t t' I U;split at hs
    rotate_left
    ·have hm:∀ z,z∈[x,y]->z∈c.args:=λz hz=>by rw[<-I]at hz;exact oh.1 hz
     split at hs
     ·skip
      obtain⟨v,w',e',st',h1,h3,h4,k,z,lo,n,cc,B,q,hq,⟨t1,z1,ax,c1,hk⟩,h2⟩:=FL h (ty:=o.type) (Y x (by simp[hm])) (Y y (by simp[hm])) Z hs;have ea:c.args=#[x,y]:=by rw[<-nJ,I]
      have et:c.argTypes=#[t,t']:=by rw[<-nJ,U]
      have O:(execOp a.eval o).run P w=.ok (.value v) w':=by obtain⟨dst,op,ty,pos,after,guard⟩:=o;simp only at J h1;subst J;simp[execOp,resolve,hc,invoke,builtin,ea,et,h1]
      unfold Oper.wp;rw[O,Oper.upon_value];refine hn v w' e' st' h3 ?_ h4;rw[h2];have V:qN P sh o st=[k]:=by simp only[qN,J,hc,I,U,hq]
      rw[V];exact Stp.put (Stp.set (st':=st.kill k) (Stp.kill Stp.rfl' (by simp) (by simp[JE,oA,hk,Bx.isArr])) (by simp) _) _
     ·skip
      obtain⟨v,w',e',st',h1,h3,h4,rows,q,h2⟩:=Gm h ab (ty:=o.type) (Y x (by simp[hm])) (Y y (by simp[hm])) Z hs;have ea:c.args=#[x,y]:=by rw[<-nJ,I]
      have et:c.argTypes=#[t,t']:=by rw[<-nJ,U]
      have O:(execOp a.eval o).run P w=.ok (.value v) w':=by obtain⟨dst,op,ty,pos,after,guard⟩:=o;simp only at J h1;subst J;simp[execOp,resolve,hc,invoke,builtin,ea,et,h1]
      unfold Oper.wp;rw[O,Oper.upon_value];refine hn v w' e' st' h3 ?_ h4;rw[h2];exact Stp.put (Stp.app (N:=st.N) Stp.rfl' rows) q
    rename_i al;subst al;have hm:∀ z,z∈[x,y]->z∈c.args:=λz hz=>by rw[<-I]at hz;exact oh.1 hz
    have V:qN P sh o st=match retag P t (opd st.sl x)with | .sb k _ _ _ _=>[k] | _=>[]:=by simp only[qN,J,hc,I,U]
    obtain⟨v,w',e',st',h1,⟨h2,h3⟩,h4⟩:=HG h ab (ty:=o.type) (Y x (by simp[hm])) (Y y (by simp[hm])) Z (HH V hs);have ea:c.args=#[x,y]:=by rw[<-nJ,I]
    have et:c.argTypes=#[t,t]:=by rw[<-nJ,U]
    have O:(execOp a.eval o).run P w=.ok (.value v) w':=by obtain⟨dst,op,ty,pos,after,guard⟩:=o;simp only at J h1;subst J;simp[execOp,resolve,hc,invoke,builtin,ea,et,h1]
    unfold Oper.wp;rw[O,Oper.upon_value];exact hn v w' e' st' h3 h2 h4
   ·exact hs.elim
  ·rename_i hc;split at hs
   ·rename_i x t I U;have hm:∀ z,z∈[x]->z∈c.args:=λz hz=>by rw[<-I]at hz;exact oh.1 hz
    obtain⟨v,w',st',h1,h3,h4,k,B,⟨z,lo,n,cc,hk⟩,h2⟩:=Ei h (ty:=o.type) (Y x (by simp[hm])) Z hs;have V:qN P sh o st=[k]:=by simp only[qN,J,hc,I,hk]
    have ea:c.args=#[x]:=by rw[<-nJ,I]
    have et:c.argTypes=#[t]:=by rw[<-nJ,U]
    have O:(execOp a.eval o).run P w=.ok (.value v) w':=by obtain⟨dst,op,ty,pos,after,guard⟩:=o;simp only at J h1;subst J;simp[execOp,resolve,hc,invoke,builtin,ea,et,h1]
    unfold Oper.wp;rw[O,Oper.upon_value];refine hn v w' e st' h3 ?_ h4;rw[V,h2];exact Stp.put (Stp.set Stp.rfl' (by simp) _) _
   ·exact hs.elim
  ·rename_i hc;split at hs
   ·rename_i x t I U;split at hs
    ·rename_i el n ao ac;have hm:∀ z,z∈[x]->z∈c.args:=λz hz=>by rw[<-I]at hz;exact oh.1 hz
     have ox:=(xU h (Y x (by simp[hm]))).valOk;have ea:c.args=#[x]:=by rw[<-nJ,I]
     have et:c.argTypes=#[t]:=by rw[<-nJ,U]
     have hv:∃(b:Option Addr) (m:Nat),a.eval x=.slice b m n:=by
      cases aq:opd st.sl x<;>rw[aq]at ac ox<;>simp[OJ]at ac
      ·subst ac
       have:=ox.1.resolve_left (by simp)
       exact⟨_,_,this⟩
      ·subst ac
       have:=ox.1.resolve_left (by simp)
       rw[this];simp only[PV.val,PV.val1,PV.cv];split<;>exact⟨_,_,rfl⟩
     obtain⟨b,m,hv⟩:=hv;have O:(execOp a.eval o).run P w=.ok (.value (.int .i64 n)) w:=by obtain⟨dst,op,ty,pos,after,guard⟩:=o;simp only at J;subst J;simp[execOp,resolve,hc,invoke,builtin,ea,et,Builtin.cap_,run_underlying ao,hv,goInt]
     unfold Oper.wp;rw[O,Oper.upon_value];exact hn _ w e _ hs (Stp.put Stp.rfl' _) (yQ h zQ Z)
    ·exact hs.elim
   ·exact hs.elim
  ·rename_i x hc;have V:qN P sh o st=LC sh st x (zV P (MC P (opd st.sl x)) (c.args.toList.map (opd st.sl))):=by simp only[qN,J,hc]
   rw[V]at hn;have ae:∀(i:Nat) (p:PV) (y:Operand),(zV P (MC P (opd st.sl x)) (c.args.toList.map (opd st.sl)))[i]?=some p->c.args[i]?=some y->ValOk av w e pB st.bx (a.eval y) p:=λi p y hp hy=>by
    obtain⟨q,hq,au⟩:=vX _ _ _ _ hp;rw[oE]at hq;simp only[nC,hy,oR,oZ]at hq;subst hq
    have:=(xU h (Y y (by simp[Array.mem_of_getElem? hy]))).valOk
    rcases au with rfl | ⟨t,rfl⟩
    ·exact this
    ·exact this.retag t
   have ah:(zV P (MC P (opd st.sl x)) (c.args.toList.map (opd st.sl))).length=c.args.size:=by rw[ya];simp
   generalize zV P (MC P (opd st.sl x)) (c.args.toList.map (opd st.sl))=args at hs hn ae ah;unfold MV at hs;unfold LC at hn;split at hs
   ·rename_i f caps hf;simp only[hf]at hn;split at hs
    ·rename_i rs ai;simp only[ai]at hn;unfold MU at hs;rw[hf]at hs;simp only at hs;split at hs
     ·rename_i aa;rw[oW]at aa;have aj:∀ k∈PV.refsL (args++caps),k∉pB:=λk hk=>by
       obtain⟨p,hp,ak⟩:=PV.refsL_mem.1 hk;rcases oO.1 hp with hp | hp
       ·obtain⟨i,hi⟩:=oQ.1 hp;have aw:i<c.args.size:=by rw[<-ah];exact(oC.1 hi).1
        exact((ae i p _ hi (oe aw)).2.2 k ak).1
       ·have ox:=rz (xU h (Y x (by simp[hc]))).valOk hf;exact(ox.2.2 k (by simp only[PV.refs];exact PV.refsL_mem.2 ⟨p,hp,ak⟩)).1
      refine Eg h ab J hc (Y x (by simp[hc])) ah ae hf aa (wX 200 _ [] mV) (sx (A:=λk=>k∉pB) (λk hk j hj=>?_) 200 _ [] aj (by simp)) Z hs λv w' e' st' h1 h2 h3=>?_
      ·rw[oA]at hj;cases hB:st.bx[k]? with
       | none=>rw[hB]at hj;simp[Bx.refs]at hj
       | some B=>rw[hB]at hj;exact(h.bf k B hB hk j hj).1
      ·obtain⟨nb,rows,N,q,rfl⟩:=h2;exact hn v w' e' _ h1 (Stp.put (M7 _ _ _ _) _) h3
     ·exact hs.elim
    ·rename_i ai;simp only[ai]at hn;refine Eh h ab J hc (Y x (by simp[hc])) ah ae Z hs λv w' e' st' h1 h2 h3=>?_;obtain⟨rows,q,N,rfl⟩:=h2;exact hn v w' e' _ h1 (Stp.put (Stp.app Stp.rfl' _ _) _) h3
   ·exact hs.elim
  ·exact hs.elim
 ·exact hs.elim
variable {av:Nat->Prop} {P:Program} {w0 w w':World} {e0 e:Env} {pS pS' pB pB':List Nat} {a:Act} {st st':St}
structure MkH where
 place:Option Nat:=none
 keep:List Nat:=[]
 same:Option Nat:=none
structure Ent where
 i:Nat
 hard:Bool:=false
 cl:List Nat:=[]
 fs:List Nat:=[]
 mh:Option MkH:=none
 tr:Bool:=false
def Br (v:Bool)(A B:Prop):Prop:=match v with
 | true=>A
 | false=>B
theorem Br.spec {v:Bool}{A B:Prop}(h:Br v A B):(v=true/\A)\/(v=false/\B):=by
 cases v
 ·exact .inr ⟨rfl,h⟩
 ·exact .inl ⟨rfl,h⟩
def Iz (ops:Array Oper) (o:Oper) (st:St) (A B:St->Prop):Prop:=
 match o.guard with
 | none=>A st
 | some (g,I)=>match ops[g]? with
   | some J=>match J.dst with
     | some d=>match st.sl[d]? with
       | some (.bool v)=>Br v (match I with
         | true=>A (st.put (some d) (.bool true))
         | false=>B (st.put (some d) (.bool true))) (match I with
         | true=>B (st.put (some d) (.bool false))
         | false=>A (st.put (some d) (.bool false)))
       | some (.tp [])=>B st
       | _=>False
     | none=>False
   | none=>False
def L8 (ops:Array Oper)(o:Oper)(st:St):Prop:=∀ g I,o.guard=some (g,I)->∃ J d,ops[g]?=some J/\J.dst=some d/\st.sl[d]?=some (.bool I)
def NP (ops:Array Oper)(o:Oper)(st:St):Prop:=∃ g I J d,o.guard=some (g,I)/\ops[g]?=some J/\J.dst=some d/\(st.sl[d]?=some (.bool (!I))\/st.sl[d]?=some (.tp []))
theorem Cg {d:Nat}{p:PV}(h:st.sl[d]?=some p):st.put (some d) p=st:=
 St.put_same λJ hd I=>by cases hd;exact h
theorem B9 {ops:Array Oper}{o:Oper}{A B:St->Prop}(h:Iz ops o st A B):(L8 ops o st/\A st)\/(NP ops o st/\B st):=by
 unfold Iz at h;split at h
 ·rename_i U;exact .inl ⟨λg I hc=>(by rw[U]at hc;cases hc),h⟩
 ·rename_i g I U;split at h
  ·rename_i Y J;split at h
   ·rename_i d hd;split at h
    ·rename_i v O;rcases h.spec with⟨rfl,h⟩ | ⟨rfl,h⟩
     ·rw[Cg O]at h;cases I
      ·exact .inr ⟨⟨g,false,Y,d,U,J,hd,.inl O⟩,h⟩
      ·exact .inl ⟨λZ V hc=>(by rw[U]at hc;cases hc;exact⟨Y,d,J,hd,O⟩),h⟩
     ·rw[Cg O]at h;cases I
      ·exact .inl ⟨λZ V hc=>(by rw[U]at hc;cases hc;exact⟨Y,d,J,hd,O⟩),h⟩
      ·exact .inr ⟨⟨g,true,Y,d,U,J,hd,.inl O⟩,h⟩
    ·rename_i O;exact .inr ⟨⟨g,I,Y,d,U,J,hd,.inr O⟩,h⟩
    ·exact h.elim
   ·exact h.elim
  ·exact h.elim
theorem ET (h:Rel av w0 e0 pS pB a w e st){ops:Array Oper}{o:Oper}(hw:L8 ops o st)(hl:∀ t∈o.looksAt ops,t∉pS):Region.wanted o (yielded ops a.tmps)=true:=by
 unfold Region.wanted;cases Y:o.guard with
 | none=>rfl
 | some gw=>
   obtain⟨g,I⟩:=gw;obtain⟨og,d,Z,h2,h3⟩:=hw g I Y;have U:d∉pS:=hl d (by simp[Oper.looksAt,Y,Z,h2]);have V:=(h.hs d _ h3 U).resolve_left (by simp);have J:d<a.tmps.size:=oq (oC.1 h3).1 h.sz;have O:a.tmps[d]?=some (.bool I):=by rw[om,oe J]at V;rw[oe J];simp only[o3]at V;rw[V];rfl
   simp[yielded,Z,h2,O]
theorem D5 (h:Rel av w0 e0 pS pB a w e st){ops:Array Oper}{o:Oper}(hw:NP ops o st)(hl:∀ t∈o.looksAt ops,t∉pS):Region.wanted o (yielded ops a.tmps)=false:=by
 obtain⟨g,U,og,d,hg,Y,Z,h3⟩:=hw;have V:d∉pS:=hl d (by simp[Oper.looksAt,hg,Y,Z]);unfold Region.wanted;rw[hg];rcases h3 with h3 | h3
 ·have O:=(h.hs d _ h3 V).resolve_left (by simp);have J:d<a.tmps.size:=oq (oC.1 h3).1 h.sz;have I:a.tmps[d]?=some (.bool (!U)):=by rw[om,oe J]at O;rw[oe J];simp only[o3]at O;rw[O];rfl
  simp[yielded,Y,Z,I]
 ·have O:=(h.hs d _ h3 V).resolve_left (by simp);have J:d<a.tmps.size:=oq (oC.1 h3).1 h.sz;have I:∃ l',a.tmps[d]?=some (.tuple l'):=by rw[om,oe J]at O;rw[oe J];simp only[o3]at O;rw[O];exact⟨_,rfl⟩
  obtain⟨l',I⟩:=I;simp[yielded,Y,Z,I]
theorem ud (h:Rel av w0 e0 pS pB a w e st)(hp:∀ k,k∈pB'↔k∈pB)(hs:∀ i,i∈pS->i∈pS'):Rel av w0 e0 pS' pB' a w e st:=by
 have U:∀ k,k∉pB'↔k∉pB:=λk=>not_congr (hp k);have Y:∀ k b,Lives pB' e st.bx k b↔Lives pB e st.bx k b:=λk b=>by unfold Lives;rw[U]
 have Z:zM av pB' e st.bx=zM av pB e st.bx:=by funext b;unfold zM;exact propext (or_congr mf (exists_congr λk=>Y k b))
 have V:∀ i,i∉pS'->i∉pS:=λi hi hc=>hi (hs i hc);exact {
  el:=h.el
  br:=λk B I J=>h.br k B I ((U k).1 J)
  bo:=λk B I J=>by rw[Z];exact h.bo k B I ((U k).1 J)
  bf:=λk B I J j hj=>by have:=h.bf k B I ((U k).1 J) j hj;exact⟨(U j).2 this.1,this.2⟩
  inj:=λk j b h1 h2=>h.inj k j b ((Y k b).1 h1) ((Y j b).1 h2)
  ku:=h.ku
  size:=h.size
  old:=h.old
  fz:=h.fz
  nd:=h.nd
  sz:=h.sz
  hN:=h.hN
  hs:=λi p hi O=>h.hs i p hi (V i O)
  so:=λi p hi O=>by rw[Z];exact h.so i p hi (V i O)
  sr:=λi p hi O k I=>by have:=h.sr i p hi (V i O) k I;exact⟨(U k).2 this.1,this.2⟩
  own:=λk b I=>h.own k b ((Y k b).1 I)
  avl:=h.avl
  avn:=λk b I=>h.avn k b ((Y k b).1 I)
  pin:=λk b hb=>by have:=h.pin k b hb;exact⟨this.1,(U k).2 this.2⟩
  pit:=h.pit }
theorem Ld (h:Rel av w0 e0 pS pB a w e st) (Z:∀ k∈pB,k<st.bx.length) {o:Oper} (hx:∀ x∈o.op.operands,∀ t,x=.tmp t->t∉pS) {K:Res->Prop}
  (hs:nev P (opd st.sl) (λk=>st.bx[k]?) o.op o.type K) :
  ∃ v w' e' r,(execOp a.eval o).run P w=.ok (.value v) w'/\K r/\Rel av w0 e0 pS pB (a.put o.dst v) w' e' (st.push o.dst r):=by
 obtain⟨r,hK,V⟩:=H5 _ hs;have V:=V (λq=>q=r) rfl;cases r with
 | v p=>
   rcases pN h hx V with⟨v,q,O,J,I⟩ | ⟨v,c,t,B,f,O,J,I⟩
   ·cases J;exact⟨v,w,e,.v p,O,hK,yQ h I λi hi _=>hi⟩
   ·cases J
 | b B f=>
   have O:=vW h (B:=B);have aa:nev P (opd st.sl) (λk=>(st.bx++[B])[k]?) o.op o.type (λq=>q=.b B f):=by
    rw[AO (ρ:=opd st.sl) (rb:=λk=>st.bx[k]?) (λ_ _=>rfl) λx ab k Y=>?_]
    ·exact V
    ·have:=(xU h (hx x ab)).rf k Y
     exact oK this.2
   rcases pN O hx aa with⟨v,q,O,J,I⟩ | ⟨v,c,t,B',f',h4,J,I⟩
   ·cases J
   ·cases J;have h5:=tj O (k:=st.bx.length) (B:=B) (by simp) (by simp) I;have U:st.bx.length<(e++[none]).length:=by simp[h.el]
    have h6:ValOk av (w.alloc (.cells c t)) ((e++[none]).set st.bx.length (some w.heap.size)) ((st.bx.length::pB).filter (·≠st.bx.length)) (st.bx++[B]) v (f st.bx.length):=
     ⟨.inr (I.val _ _ (Env.at_set_eq U)),I.fok _ _ _,by rw[I.fr];simp⟩
    refine⟨v,_,_,.b B f,h4,hK,ud (pS:=pS) (yQ h5 h6 λi hi _=>hi) (λk=>?_) λ_=>id⟩;simp only[mD,oG,ne_eq,oc];constructor
    ·intro Y;have:=Z k Y;exact⟨.inr Y,by omega⟩
    ·rintro⟨h7 | h7,h8⟩
     ·exact absurd h7 h8
     ·exact h7
def Jh (P:Program)(sh:FuncId->List Sh)(o:Oper)(st:St)(K:St->Prop):Prop:=
 match LX o.op with
 | true=>nev P (opd st.sl) (λk=>st.bx[k]?) o.op o.type λr=>K (st.push o.dst r)
 | false=>Ng P sh o st K
def GF (P:Program)(sh:FuncId->List Sh)(o:Oper)(st:St):List Nat:=
 match LX o.op with
 | true=>[]
 | false=>qN P sh o st
theorem GB {dst:Option Nat}{r:Res}:Stp [] [] dst st (st.push dst r):=by
 cases r with
 | v p=>exact Stp.put Stp.rfl' p
 | b B f=>exact Stp.put (Stp.app Stp.rfl' [B] st.N) _
theorem Dk (h:Rel av w0 e0 pS pB a w e st) (J:∀ k∈pB,k<st.bx.length) {sh:FuncId->List Sh} {o:Oper} {K:St->Prop}
  (U:∀ x∈o.op.operands,∀ t,x=.tmp t->t∉pS) (hs:Jh P sh o st K)
  {next:Act->World->Prop} {Q:Exit->Act->World->Prop}
  (O:∀ v w' e' st',K st'->Stp (GF P sh o st) (JE st (GF P sh o st)) o.dst st st'->Rel av w0 e0 pS pB (a.put o.dst v) w' e' st'->next (a.put o.dst v) w'):o.wp P a w next Q:=by
 unfold Jh at hs;unfold GF at O;split at hs
 ·rename_i I;simp only[I]at O;obtain⟨v,w',e',r,V,Y,Z⟩:=Ld h J U hs;unfold Oper.wp;rw[V,Oper.upon_value];exact O v w' e' _ Y GB Z
 ·rename_i I;simp only[I]at O;exact Ji h J U (λi hi _=>hi) hs O
abbrev Pend:=List (Nat × Option Nat)
def tI (ops:Array Oper)(i:Nat):Option Nat:=(ops[i]?).bind (·.dst)
def KG (T:List Nat)(st:St)(p:PV):Bool:=
 p.refs.all λk=>!T.contains k&&match st.bx[k]? with
  | some B=>B.refs.all λj=>!T.contains j
  | none=>true
def Ig (ops:Array Oper)(T:List Nat)(st:St)(x:Nat × Option Nat):Bool:=
 match ops[x.1]? with
 | some o=>(match x.2 with
   | some k=>!T.contains k&&(match st.bx[k]? with
     | some B=>B.refs.all λj=>!T.contains j
     | none=>true)
   | none=>true)&&(o.op.operands.toList.all λy=>KG T st (opd st.sl y))&&(match o.dst with
   | some d=>KG T st (st.sl.getD d .any)
   | none=>true)
 | none=>false
def mvP (ops:Array Oper)(x:Nat × Option Nat):Bool:=match x.2,ops[x.1]? with
 | none,some o=>match o.op with
   | .move _=>true
   | _=>false
 | _,_=>false
def KF (ops:Array Oper)(T:List Nat)(st:St)(pf:Pend):Bool:=
 match T with
 | []=>true
 | T=>pf.all (Ig ops T st)
def Nz (ops:Array Oper)(T:List Nat)(st:St)(pf:Pend):Bool:=
 match T with
 | []=>true
 | T=>pf.all λx=>Ig ops T st x||(mvP ops x&&Ig ops (JE st T) st x)
def KC:Res->Option Nat->Option PV
 | .v p,none=>some p
 | .b _ f,some k=>some (f k)
 | _,_=>none
def L7 (ops:Array Oper)(P:Program)(st:St)(o:Oper)(b:Option Nat):Prop:=
 (L8 ops o st/\(∀ y∈o.op.operands,∀ k∈(opd st.sl y).refs,k<st.bx.length)/\∃ r q,nev P (opd st.sl) (fun k=>st.bx[k]?) o.op o.type (fun q=>q=r)/\KC r b=some q /\
  (∀ d,o.dst=some d->d<st.sl.length->st.sl[d]?=some q)/\∀ B f k,r=.b B f->b=some k->st.bx[k]?=some B) \/
 (NP ops o st/\b=none/\∀ d,o.dst=some d->d<st.sl.length->st.sl[d]?=some (.tp []))
def OU (ops:Array Oper)(P:Program)(st:St)(x:Nat × Option Nat):Prop:=∃ o,ops[x.1]?=some o/\L7 ops P st o x.2
structure SafeP (T:List Nat) (st:St) (p:PV):Prop where
 r:∀ k∈T,k∉p.refs
 b:∀ k∈p.refs,k∉T/\∀ B,st.bx[k]?=some B->∀ j∈T,j∉B.refs
theorem Bz {T:List Nat}{p:PV}(h:KG T st p=true):SafeP T st p:=by
 simp only[KG,oW,oL,o6]at h;have O:∀ k∈p.refs,k∉T:=λk I=>by have:=(h k I).1;simpa using this
 refine⟨λk I hc=>O k hc I,λk I=>⟨O k I,λB U j V J=>?_⟩⟩
 have:=(h k I).2
 rw[U]at this;simp only[oW,o6]at this
 have:=this j J
 simp at this;exact this V
structure Safe1 (T:List Nat) (st:St) (o:Oper) (b:Option Nat):Prop where
 op:∀ y∈o.op.operands,SafeP T st (opd st.sl y)
 ds:∀ d,o.dst=some d->SafeP T st (st.sl.getD d .any)
 bx:∀ k,b=some k->k∉T/\∀ B,st.bx[k]?=some B->∀ j∈T,j∉B.refs
theorem pQ {o:Oper}{b:Option Nat}:Safe1 [] st o b:=⟨λ_ _=>⟨by simp,by simp⟩,λ_ _=>⟨by simp,by simp⟩,by simp⟩
theorem qJ {ops:Array Oper}{T:List Nat}{x:Nat × Option Nat}{o:Oper}(U:ops[x.1]?=some o)(h:Ig ops T st x=true):Safe1 T st o x.2:=by
 unfold Ig at h;rw[U]at h;simp only[oL]at h;obtain⟨⟨I,V⟩,O⟩:=h;refine⟨λy Y=>Bz (oW.1 V y (oh.2 Y)),λd hd=>?_,λk Z=>?_⟩
 ·rw[hd]at O;exact Bz O
 ·rw[Z]at I;simp only[oL,o6]at I;refine⟨by have:=I.1;simpa using this,λB hB j hj J=>?_⟩
  have:=I.2
  rw[hB]at this;simp only[oW,o6]at this
  have:=this j J
  simp at this;exact this hj
def OG (T TA:List Nat)(st:St)(o:Oper)(b:Option Nat):Prop:=Safe1 T st o b\/((∃ y,o.op=.move y)/\b=none/\Safe1 TA st o b)
theorem G1 {ops:Array Oper}{T:List Nat}{pf:Pend}(h:KF ops T st pf=true){x:Nat × Option Nat}(I:x∈pf){o:Oper}(J:ops[x.1]?=some o):Safe1 T st o x.2:=by
 unfold KF at h;split at h
 ·exact pQ
 ·exact qJ J (oW.1 h x I)
theorem Ih {ops:Array Oper}{T:List Nat}{pf:Pend}(h:Nz ops T st pf=true){x:Nat × Option Nat}(U:x∈pf){o:Oper}(J:ops[x.1]?=some o):OG T (JE st T) st o x.2:=by
 unfold Nz at h;split at h
 ·exact .inl pQ
 ·have:=oW.1 h x U
  rw[ny,oL]at this;rcases this with I | ⟨I,V⟩
  ·exact .inl (qJ J I)
  ·refine .inr ⟨?_,?_,qJ J V⟩<;>unfold mvP at I<;>split at I
   ·rename_i Y e1 O;rw[J]at O;cases O;split at I
    ·exact⟨_,by assumption⟩
    ·cases I
   ·cases I
   ·assumption
   ·cases I
theorem pM {ops:Array Oper}{o:Oper}{b:Option Nat}{T TA:List Nat}{dst:Option Nat}(h:L7 ops P st o b)(U:Stp T TA dst st st')(hA:∀ k∈TA,k∈T)(hs:OG T TA st o b)(hd:∀ d,dst=some d->d∉o.looksAt ops/\o.dst≠some d):L7 ops P st' o b:=by
 have ai:∀ y∈o.op.operands,∀ k∈TA,k∉(opd st.sl y).refs:=λy Y k J=>by
  rcases hs with hs | ⟨_,_,hs⟩
  ·exact(hs.op y Y).r k (hA k J)
  ·exact(hs.op y Y).r k J
 have aj:∀ d,o.dst=some d->∀ k∈TA,k∉(st.sl.getD d .any).refs:=λd I k J=>by
  rcases hs with hs | ⟨_,_,hs⟩
  ·exact(hs.ds d I).r k (hA k J)
  ·exact(hs.ds d I).r k J
 have O:∀ t p,t∈o.looksAt ops->st.sl[t]?=some p->(∀ k∈TA,k∉p.refs)->st'.sl[t]?=some p:=λt p ht hp J=>U.sl t p (λhc=>(hd t hc.symm).1 ht) hp J;have Z:∀ y∈o.op.operands,opd st'.sl y=opd st.sl y:=λy Y=>by
  cases y with
  | tmp t=>
    have V:=ai _ Y;simp only[opd]at V ⊢;rw[oA]at V;rw[oA,oA];cases hp:st.sl[t]? with
    | none=>have:st'.sl[t]?=none:=ob (by rw[U.ll];exact nj.1 hp);rw[this]
    | some p=>rw[hp]at V;rw[O t p (by unfold Oper.looksAt;exact nS _ (nN.2 ⟨.tmp t,oh.2 Y,rfl⟩)) hp V]
  | _=>rfl
 have ae:L8 ops o st->L8 ops o st':=λhw g aa hg=>by obtain⟨og,d,h1,h2,h3⟩:=hw g aa hg;exact⟨og,d,h1,h2,O d _ (by simp[Oper.looksAt,hg,h1,h2]) h3 (by simp[PV.refs])⟩
 have ac:∀ d q,o.dst=some d->st.sl[d]?=some q->(∀ k∈TA,k∉q.refs)->st'.sl[d]?=some q:=λd q I hq J=>U.sl d q (λhc=>(hd d hc.symm).2 I) hq J;rcases h with⟨h1,h0,r,q,h2,h3,h4,h5⟩ | ⟨⟨g,aa,og,d,g1,g2,g3,g4⟩,h2,h3⟩
 ·refine .inl ⟨ae h1,λy Y k J=>?_,r,q,?_,h3,λd I ab=>?_,λB f k hr J=>?_⟩
  ·rw[Z y Y]at J;have:=h0 y Y k J;have:=U.bl;omega
  ·rcases hs with hs | ⟨⟨z,hz⟩,_,_⟩
   ·rw[AO (ρ:=opd st.sl) (rb:=λk=>st.bx[k]?) Z λy Y k J=>?_]
    ·exact h2
    ·have ak:=h0 y Y k J;have ah:=(hs.op y Y).b k J;have hB:st.bx[k]?=some st.bx[k]:=oF ak;show st'.bx[k]?=st.bx[k]?;rw[U.bx k _ hB ah.1 (ah.2 _ hB),hB]
   ·have Z:=Z z (by rw[hz];simp[Op.operands]);rw[hz]at h2 ⊢;simp only[nev,sq]at h2 ⊢;rw[Z];exact h2
  ·rw[U.ll]at ab;have hq:=h4 d I ab;have V:=aj d I;rw[oA,hq]at V;exact ac d q I hq V
  ·rcases hs with hs | ⟨_,hb,_⟩
   ·have hB:=h5 B f k hr J
    have:=hs.bx k J
    exact U.bx k B hB this.1 (this.2 B hB)
   ·rw[hb]at J;cases J
 ·refine .inr ⟨⟨g,aa,og,d,g1,g2,g3,?_⟩,h2,λd' I ab=>?_⟩
  ·have hm:d∈o.looksAt ops:=by simp[Oper.looksAt,g1,g2,g3]
   rcases g4 with g4 | g4
   ·exact .inl (O d _ hm g4 (by simp[PV.refs]))
   ·exact .inr (O d _ hm g4 (by simp[PV.refs,PV.refsL]))
  ·rw[U.ll]at ab;exact ac d' _ I (h3 d' I ab) (by simp[PV.refs,PV.refsL])
variable {av:Nat->Prop} {P:Program} {w0 w w':World} {e0 e:Env} {pS pS' pB pB':List Nat} {a:Act} {st st':St}
mutual
def D.Flat0:D->Prop
 | .lit _=>True
 | .ag cs=>p9 cs
 | .sl a _ es _=>(∀ ad,a=some ad->ad.off=0)/\p9 es
 | .pt ..=>False
 | .fn ..=>False
 | .mp ..=>False
def p9:List D->Prop
 | []=>True
 | d::ds=>d.Flat0/\p9 ds
end
def D.elems:D->List D
 | .sl _ _ es _=>es
 | _=>[]
theorem Good.apart {F:List Nat}{live:Nat->Prop}(hold:∀ b,b<w.heap.size->b∉F->w'.heap[b]?=w.heap[b]?){x:D}(h:Good w live x)(I:∀ b∈x.foot,b∉F):Good w' live x:=
 ⟨h.1.mono λb hb=>hold b (h.1.lt b hb) (I b hb),h.2⟩
variable {av:Nat->Prop} {P:Program} {w0 w w':World} {e0 e:Env} {pS pS' pB pB':List Nat} {a:Act} {st st':St}
variable {av:Nat->Prop} {P:Program} {w0 w w':World} {e0 e:Env} {pS pS' pB pB':List Nat} {a:Act} {st st':St}
def DY (N0:Option Nat)(fs I:List Nat):List Nat->St->(St->Prop)->Prop
 | [],st,K=>K st
 | k::ks,st,K=>He N0 st k fs I λst'=>DY N0 fs I ks st' K
def OQ (ops:Array Oper)(pf:Pend)(t:Nat):Bool:=pf.all λx=>match tI ops x.1 with
 | some d=>!(d==t)
 | none=>true
def uo (N0:Option Nat)(ops:Array Oper)(pf:Pend)(cl fs:List Nat)(st:St)(K:St->Prop):Prop:=
 match cl with
 | []=>K st
 | t :: cl=>match(sw st.bx 200 ((t::cl).flatMap λt=>(st.sl.getD t .any).refs) []).filter (Mj st)with
   | []=>K st
   | k::ks=>match KF ops (k::ks) st pf&&((t::cl)++fs).all (OQ ops pf)with
     | true=>DY N0 fs (sw st.bx 200 (fs.flatMap λt=>(st.sl.getD t .any).refs) []) (k::ks) st K
     | false=>False
theorem Stp.trans {T:List Nat}{st I st2:St}(J:Stp T T none st I)(O:Stp T T none I st2):Stp T T none st st2:=
 ⟨λi p hi Z U=>O.sl i p hi (J.sl i p hi Z U) U,λk B hk V Y=>O.bx k B (J.bx k B hk V Y) V Y,o8 J.bl O.bl,O.ll.trans J.ll⟩
theorem Stp.wide {T I:List Nat}{dst:Option Nat}(h:Stp T T dst st st')(J:∀ k∈T,k∈I):Stp I I dst st st':=
 ⟨λi p hi V O=>h.sl i p hi V λk U=>O k (J k U),λk B O Y Z=>h.bx k B O (λhc=>Y (J k hc)) λj hj=>Z j (J j hj),h.bl,h.ll⟩
theorem DW {k z:Nat}{s p:PV}(h:k∉p.refs):GX k s z p=p:=by
 cases p<;>simp only[GX]<;>first
  | exact AH h
  | (simp[PV.refs]at h;rw[if_neg (Ne.symm h)])
theorem JS {k z:Nat}{s p:PV}(h:k∉p.refs):Proofs.YtidiofobanefmaaGreatDoor.clo k s z p=p:=by
 cases p
 case pg cs=>simp only[Proofs.YtidiofobanefmaaGreatDoor.clo];rw[if_neg];simpa [PV.refs]using h
 all_goals exact @DW _ k z s _ h
theorem stp_clo {k z N:Nat}{s:PV}:Stp [k] [k] none st (st.clo k s z N):=by
 refine⟨λi p _ I J=>?_,λj B O U V=>?_,by simp[St.clo],by simp[St.clo]⟩
 ·simp only[St.clo,oE,I,oR,JS (J k (by simp))]
 ·simp only[St.clo];rw[nc (by simp at U;omega),oE,O];simp only[oR];congr 1;cases B with
  | var cs=>
    simp only[Bx.clo];congr 1
    conv=>rhs;rw[<-List.map_id cs]
    refine ou λp I=>DW λhc=>V k (by simp) ?_;simp only[Bx.refs];exact PV.refsL_mem.2 ⟨p,I,hc⟩
  | _=>rfl
theorem uC {N0:Option Nat} (I:NOk N0 w0) {fs V:List Nat} {K:St->Prop} (J:∀ i∈fs,i∉pS) (O:∀ i∈V,i∉pB) :
  ∀(ks:List Nat) (st:St),Rel av w0 e0 pS pB a w e st->(∀ k∈ks,k∉pB)->DY N0 fs V ks st K->∃ st',K st'/\Stp ks ks none st st'/\Rel av w0 e0 pS pB a w e st'
 | [],st,h,_,hs=>⟨st,hs,Stp.rfl',h⟩
 | k::ks,st,h,U,hs=>by simp only[DY]at hs;obtain⟨s,z,N,Y,Z,_⟩:=DX h I (U k (by simp)) J O hs;obtain⟨st',h3,h4,h5⟩:=uC I J O ks _ Z (λj hj=>U j (by simp[hj])) Y;exact⟨st',h3,(stp_clo.wide (by simp)).trans (h4.wide λk U=>by simp[U]),h5⟩
theorem IC {ops:Array Oper}{pf:Pend}{t:Nat}(h:OQ ops pf t=true):∀ x∈pf,tI ops x.1≠some t:=by
 intro x I hc
 have:=oW.1 h x I
 rw[hc]at this;simp at this
theorem xp (h:Rel av w0 e0 pS pB a w e st) {N0:Option Nat} (Y:NOk N0 w0) {ops:Array Oper} {pf:Pend} (Z:∀ t∈pS,∃ x∈pf,tI ops x.1=some t) {cl fs:List Nat} {K:St->Prop} (hs:uo N0 ops pf cl fs st K) :
  ∃ st' T,K st'/\Stp T T none st st'/\KF ops T st pf=true/\Rel av w0 e0 pS pB a w e st':=by
 unfold uo at hs;split at hs
 ·exact⟨st,[],hs,Stp.rfl',rfl,h⟩
 ·rename_i t cl;split at hs
  ·exact⟨st,[],hs,Stp.rfl',rfl,h⟩
  ·rename_i k ks aa;split at hs
   ·rename_i U;simp only[oL]at U;obtain⟨h1,h2⟩:=U;have J:∀ i∈(t::cl)++fs,i∉pS:=λi hi hc=>by obtain⟨x,hx,hd⟩:=Z i hc;exact IC (oW.1 h2 i hi) x hx hd
    have V:∀ i,i∈(t::cl)++fs->∀ j∈(st.sl.getD i .any).refs,j∉pB:=λi hi j I=>by
     rw[oA]at I;cases hp:st.sl[i]? with
     | none=>rw[hp]at I;simp[PV.refs]at I
     | some p=>rw[hp]at I;exact(h.sr i p hp (J i hi) j I).1
    have O:∀ l:List Nat,(∀ i∈l,i∈(t::cl)++fs)->∀ j∈sw st.bx 200 (l.flatMap λt=>(st.sl.getD t .any).refs) [],j∉pB:=λl hl=>by
     refine sx (A:=λj=>j∉pB) (λk hk j I=>?_) _ _ _ (λj I=>?_) (by simp)
     ·rw[oA]at I;cases hB:st.bx[k]? with
      | none=>rw[hB]at I;simp[Bx.refs]at I
      | some B=>rw[hB]at I;exact(h.bf k B hB hk j I).1
     ·obtain⟨i,hi,I⟩:=ni.1 I;exact V i (hl i hi) j I
    obtain⟨st',g1,g2,g3⟩  :=uC Y (λi hi=>J i (mJ _ hi)) (O fs λi hi=>mJ _ hi) (k::ks) st h (λj I=>by rw[<-aa]at I;exact O (t::cl) (λi hi=>nS _ hi) j (mD.1 I).1) hs;exact⟨st',_,g1,g2,h1,g3⟩
   ·exact hs.elim
def Kc (ops:Array Oper)(i j:Nat):Bool:=match ops[j]? with
 | some o=>o.after.any λe=>e.on==i&&Region.binds .any e
 | none=>false
def BK (ops:Array Oper)(j:Nat):List Nat:=match ops[j]? with
 | some o=>(o.after.toList.filter (Region.binds .any)).map (·.on)
 | none=>[]
def K3 (ops:Array Oper):Nat->List Nat->List Nat->List Nat
 | 0,_,I=>I
 | _+1,[],I=>I
 | n+1,k::J,I=>match I.contains k with
   | true=>K3 ops n J I
   | false=>K3 ops n (BK ops k++J) (k::I)
theorem CN {ops:Array Oper}{A:Nat->Prop}(U:∀ k,A k->∀ j∈BK ops k,A j):∀(n:Nat)(J I:List Nat),(∀ k∈J,A k)->(∀ k∈I,A k)->∀ k∈K3 ops n J I,A k
 | 0,_,I,_,h=>h
 | _+1,[],I,_,h=>h
 | n + 1,k::J,I,O,V=>by
   simp only[K3];split
   ·exact CN U n J I (λj hj=>O j (by simp[hj])) V
   ·refine CN U n _ _ (λj hj=>?_) λj hj=>?_
    ·rcases oO.1 hj with hj | hj
     ·exact U k (O k (by simp)) j hj
     ·exact O j (by simp[hj])
    ·rcases oG.1 hj with rfl | hj
     ·exact O j (by simp)
     ·exact V j hj
def KO (I:List Nat)(nv:Pend):Pend:=nv.filter λx=>!I.contains x.1
def Cv (ops:Array Oper)(j:Nat)(nv:Pend):Pend:=match nv with
 | []=>[]
 | nv=>KO (K3 ops 1000 (BK ops j) []) nv
def LU (P:Program)(sh:FuncId->List Sh)(N0:Option Nat)(ops:Array Oper)(pf:Pend)(en:Ent)(o:Oper)(st:St)(K:St->Prop):Prop:=
 match en.mh with
 | none=>match en.tr with
   | false=>uo N0 ops pf en.cl en.fs st λst=>match Nz ops (GF P sh o st) st pf with
     | true=>Jh P sh o st K
     | false=>False
   | true=>match pf with
     | []=>Jh P sh o st λst=>Iv st o.dst K
     | _=>False
 | some mh=>match pf with
   | []=>False
   | _=>False
def Nn (o:Oper)(st:St):Bool:=o.op.operands.toList.all λy=>(opd st.sl y).refs.all λk=>decide (k<st.bx.length)
def Res.bk (r:Res)(n:Nat):Option Nat:=match r with
 | .v _=>none
 | .b ..=>some n
def F3 (P:Program)(sh:FuncId->List Sh)(N0:Option Nat)(ops:Array Oper):List Ent->Pend->St->(St->Prop)->Prop
 | [],_,st,K=>K st
 | en :: l,nv,st,K=>match ops[en.i]? with
   | none=>False
   | some o=>match en.hard with
     | true=>Iz ops o st (λst=>LU P sh N0 ops (Cv ops en.i nv) en o st λst=>F3 P sh N0 ops l nv st K) (λst=>F3 P sh N0 ops l nv (st.put o.dst (.tp [])) K)
     | false=>Iz ops o st (λst=>match LX o.op&&Nn o st with
      | true=>nev P (opd st.sl) (λk=>st.bx[k]?) o.op o.type λr=>F3 P sh N0 ops l ((en.i,r.bk st.bx.length)::nv) (st.push o.dst r) K
      | false=>False) (λst=>F3 P sh N0 ops l ((en.i,none)::nv) (st.put o.dst (.tp [])) K)
theorem Aw {bx:List Bx}:ValOk av w e pB bx undef (.tp []):=⟨.inr rfl,by simp[PV.Ok,PV.OkL],by simp[PV.refs,PV.refsL]⟩
theorem wv {ops:Array Oper}{o:Oper}{y:Operand}{t:Nat}(I:y∈o.op.operands)(J:y=.tmp t):t∈o.looksAt ops:=by subst J;exact nS _ (nN.2 ⟨.tmp t,oh.2 I,rfl⟩)
theorem Dl (h:Rel av w0 e0 pS pB a w e st) {N0:Option Nat} (hN0:NOk N0 w0) (hpl:∀ k∈pB,k<st.bx.length) {sh:FuncId->List Sh} {ops:Array Oper} {pf:Pend} (hpf:∀ t∈pS,∃ x∈pf,tI ops x.1=some t) (hpb:∀ k∈pB,∃ x∈pf,x.2=some k)
  {en:Ent} {o:Oper} (ho:ops[en.i]?=some o) (hl:∀ t∈o.looksAt ops,t∉pS) {K:St->Prop}
  (hs:Iz ops o st (fun st=>LU P sh N0 ops pf en o st K) (fun st=>K (st.put o.dst (.tp [])))) {next:Act->World->Prop} {Q:Exit->Act->World->Prop}
  (hn:∀ v w' e' st',K st'->st.bx.length<=st'.bx.length->(∀ x∈pf,∀ ox,ops[x.1]?=some ox->L7 ops P st ox x.2->(∀ d,o.dst=some d->d∉ox.looksAt ops/\ox.dst≠some d)->L7 ops P st' ox x.2) ->
   Rel av w0 e0 pS pB (a.put o.dst v) w' e' st'->next (a.put o.dst v) w'):wpOp P ops Q en.i next a w:=by
 unfold wpOp;rw[ho];simp only;rcases B9 hs with⟨hw,hs⟩ | ⟨hw,hs⟩
 ·rw[if_pos (ET h hw hl)];refine .inl ?_;unfold LU at hs;split at hs
  rotate_left
  ·split at hs
   rotate_left
   ·exact hs.elim
   have e1:pS=[]:=nI.2 fun t ht=>by obtain⟨x,hx,_⟩:=hpf t ht;simp at hx
   have e2:pB=[]:=nI.2 fun t ht=>by obtain⟨x,hx,_⟩:=hpb t ht;simp at hx
   subst e1;subst e2;have hn':=fun v w' e' st' g1 g2 g3=>hn v w' e' st' g1 g2 (fun x hx=>by simp at hx) g3;exact hs.elim
  split at hs
  rotate_left
  ·split at hs
   rotate_left
   ·exact hs.elim
   have e1:pS=[]:=nI.2 fun t ht=>by obtain⟨x,hx,_⟩:=hpf t ht;simp at hx
   have e2:pB=[]:=nI.2 fun t ht=>by obtain⟨x,hx,_⟩:=hpb t ht;simp at hx
   subst e1;subst e2;refine Dk h hpl (fun y hy t ht=>hl t (wv hy ht)) hs fun v w' e' st' g1 g2 g3=>?_;obtain⟨st2,k1,k2,k3⟩:=FN g3 g1;exact hn v w' e' st2 k1 (by rw[k3];exact g2.bl) (fun x hx=>by simp at hx) k2
  obtain⟨st1,T,h1,h2,h3,h4⟩:=xp h hN0 hpf hs;split at h1
  ·rename_i hsf;refine Dk h4 (fun k hk=>oq (hpl k hk) h2.bl) (fun y hy t ht=>hl t (wv hy ht)) h1 fun v w' e' st' g1 g2 g3=>hn v w' e' st' g1 (o8 h2.bl g2.bl) (fun x hx ox hox hk hd=>?_) g3;exact pM (pM hk h2 (fun _ h=>h) (.inl (G1 h3 hx hox)) fun d hd=>by cases hd) g2 JF (Ih hsf hx hox) hd
  ·exact h1.elim
 ·rw[if_neg (by rw[D5 h hw hl];simp)];exact hn undef w e _ hs (by cases o.dst<;>exact oJ _) (fun x hx ox hox hk hd=>pM hk (Stp.put (T:=[]) (TA:=[]) Stp.rfl' _) (fun _ h=>h) (.inl pQ) hd) (yQ h Aw fun i hi _=>hi)
theorem D2 {N0:Option Nat} (I:NOk N0 w0) {sh:FuncId->List Sh} {ops:Array Oper} {K:St->Prop} {Q:Exit->Act->World->Prop} (O:∀ a w e st,K st->Rel av w0 e0 [] [] a w e st->Q .normal a w) :
  ∀(l:List Ent) (a:Act) (w:World) (e:Env) (st:St),(∀ en∈l,en.hard=true)->Rel av w0 e0 [] [] a w e st->F3 P sh N0 ops l [] st K->wpOps P ops Q (l.map (·.i)) a w
 | [],a,w,e,st,_,h,hs=>O a w e st hs h
 | en::l,a,w,e,st,U,h,hs=>by
   rw[o7,wpOps_cons];simp only[F3]at hs;cases J:ops[en.i]? with
   | none=>rw[J]at hs;exact hs.elim
   | some o=>rw[J]at hs;simp only[U en (by simp)]at hs;exact Dl h I (by simp) (by simp) (by simp) J (by simp) hs λv w' e' st' V _ _ Y=>D2 I O l _ _ _ _ (λx Z=>U x (by simp[Z])) Y V
def Et (n:Nat)(l:List Ent):Bool:=(l.map (·.i))==List.range n&&l.all (·.hard)
theorem Gw {N0:Option Nat} (I:NOk N0 w0) {sh:FuncId->List Sh} {id:Nat} {ops:Array Oper} {l:List Ent} {K:St->Prop} {Q:Exit->Act->World->Prop} (hl:Et ops.size l=true) (h:Rel av w0 e0 [] [] a w e st)
  (hs:F3 P sh N0 ops l [] st K) (J:∀ a w e st,K st->Rel av w0 e0 [] [] a w e st->Q .normal a w):(Code.region id ops false).wp P Q a w:=by
 simp only[Et,oL,mH,oW]at hl;refine wp_region ?_;rw[<-hl.1];exact D2 I J l a w e st hl.2 h hs
variable {av:Nat->Prop} {P:Program} {w0 w w':World} {e0 e:Env} {pS pS' pB pB':List Nat} {a:Act} {st st':St}
def s5 (ops:Array Oper)(i:Nat):List Ent->Bool
 | []=>true
 | b::bs=>Kc ops b.i i||(!b.hard&&s5 ops i bs)
def Nc (ops:Array Oper) (bf:List Ent) (en:Ent) (aft:List Ent):Bool:=
 match ops[en.i]? with
 | none=>false
 | some o=>
   (o.after.toList.all fun e=>!Region.binds .any e||bf.any fun b=>b.i==e.on) &&
   s5 ops en.i bf &&
   (bf.all fun b=>match tI ops b.i with
    | none=>true
    | some d=>!(o.looksAt ops).contains d||Kc ops b.i en.i) &&
   (aft.all fun r=>match tI ops r.i with
    | none=>true
    | some d=>!((o.looksAt ops).contains d||o.dst==some d)||(r.hard&&Kc ops en.i r.i)) &&
   (en.hard||match o.dst with
    | none=>true
    | some d=>!(o.looksAt ops).contains d)
def JQ (ops:Array Oper):List Ent->List Ent->Bool
 | _,[]=>true
 | bf,en::l=>Nc ops bf en l&&JQ ops (en::bf) l
def Fr:List Nat->Bool
 | []=>true
 | k::ks=>!ks.contains k&&Fr ks
def chk (ops:Array Oper)(ord:List Ent):Bool:=
 ord.length==ops.size&&Fr (ord.map (·.i))&&((List.range ops.size).all λi=>ord.any λb=>b.i==i)&&JQ ops [] ord
structure Spot (ops:Array Oper) (l1:List Ent) (en:Ent) (l2:List Ent) (o:Oper):Prop where
 op:ops[en.i]?=some o
 ed:∀ e∈o.after,Region.binds .any e=true->∃ b∈l1,b.i=e.on
 hd:s5 ops en.i l1.reverse=true
 pr:∀ b∈l1,∀ d,tI ops b.i=some d->d∈o.looksAt ops->Kc ops b.i en.i=true
 af:∀ r∈l2,∀ d,tI ops r.i=some d->(d∈o.looksAt ops\/o.dst=some d)->r.hard=true/\Kc ops en.i r.i=true
 se:en.hard=false->∀ d,o.dst=some d->d∉o.looksAt ops
theorem Hb {ops:Array Oper}{l1:List Ent}{en:Ent}{l2:List Ent}(h:Nc ops l1.reverse en l2=true):∃ o,Spot ops l1 en l2 o:=by
 unfold Nc at h;split at h
 ·cases h
 ·rename_i o U;simp only[oL,oW]at h;obtain⟨⟨⟨⟨V,Y⟩,Z⟩,h4⟩,O⟩:=h;refine⟨o,U,λe he hb=>?_,Y,λb hb d hd hm=>?_,λr hr d hd hm=>?_,λhh d hd hm=>?_⟩
  ·have:=V e (oh.2 he)
   rw[hb]at this;simp only[Bool.not_true,Bool.false_or,List.any_eq_true,mH]at this;obtain⟨b,I,J⟩:=this;exact⟨b,mF.1 I,J⟩
  ·have:=Z b (mF.2 hb)
   rw[hd]at this;simpa [hm]using this
  ·have:=h4 r hr
   rw[hd]at this;rcases hm with hm | hm
   ·simpa [hm]using this
   ·simpa [hm]using this
  ·rw[hh,hd]at O;simp[hm]at O
theorem BZ {ops:Array Oper}:∀(l bf:List Ent),JQ ops bf.reverse l=true->∀ l1 en l2,l=l1++en::l2->∃ o,Spot ops (bf++l1) en l2 o
 | [],bf,_,l1,en,l2,h=>by cases l1<;>cases h
 | x :: l,bf,hc,l1,en,l2,h=>by
   simp only[JQ,oL]at hc;cases l1 with
   | nil=>cases h;simpa using Hb hc.1
   | cons y l1=>
     cases h
     have:=BZ _ (bf++[x]) (by simpa using hc.2) l1 en l2 rfl
     simpa using this
theorem s6 {ops:Array Oper}{i:Nat}:∀(l m:List Ent),s5 ops i (l++m)=true->(∃ b∈l,b.hard=true)->∃ b∈l,Kc ops b.i i=true
 | [],m,_,h=>by simp at h
 | b :: l,m,h,O=>by
   simp only[nA,s5,ny,oL,o6]at h;rcases h with h | ⟨U,V⟩
   ·exact⟨b,by simp,h⟩
   ·obtain⟨x,hx,I⟩:=O;rcases oG.1 hx with rfl | hx
    ·rw[U]at I;cases I
    ·obtain⟨y,Y,J⟩:=s6 l m V ⟨x,hx,I⟩;exact⟨y,by simp[Y],J⟩
theorem AP:∀ {l:List Nat},Fr l=true->l.Nodup
 | [],_=>mV
 | k::ks,h=>by
   simp only[Fr,oL,o6]at h;refine nk.2 ⟨λhc=>?_,AP h.2⟩
   have:=h.1
   simp[hc]at this
structure Chk (ops:Array Oper) (ord:List Ent):Prop where
 len:ord.length=ops.size
 nd:(ord.map (·.i)).Nodup
 all:∀ i,i<ops.size->∃ b∈ord,b.i=i
 at_:∀ l1 en l2,ord=l1++en::l2->∃ o,Spot ops l1 en l2 o
theorem JR {ops:Array Oper}{ord:List Ent}(h:chk ops ord=true):Chk ops ord:=by
 simp only[chk,oL,mH,oW]at h;obtain⟨⟨⟨I,J⟩,O⟩,U⟩:=h;refine⟨I,AP J,λi hi=>?_,λl1 en l2 hl=>by simpa using BZ ord [] (by simpa using U) l1 en l2 hl⟩
 have:=O i (List.mem_range.2 hi)
 simpa using this
def I3 (ops:Array Oper)(pend:Pend):List Nat:=pend.filterMap λx=>tI ops x.1
def J0 (pend:Pend):List Nat:=pend.filterMap (·.2)
theorem Fo {ops:Array Oper}{pend:Pend}{t:Nat}:t∈I3 ops pend↔∃ x∈pend,tI ops x.1=some t:=nN
theorem yw {pend:Pend}{k:Nat}:k∈J0 pend↔∃ x∈pend,x.2=some k:=nN
structure RI (P:Program) (sh:FuncId->List Sh) (ops:Array Oper) (ord:List Ent) (K:St->Prop) (av:Nat->Prop) (w0:World) (e0:Env) (N0:Option Nat)
  (done rest:List Ent) (nv pend:Pend) (listed:Array Bool) (a:Act) (w:World) (e:Env) (st:St):Prop where
 ord:ord=done++rest
 rel:Rel av w0 e0 (I3 ops pend) (J0 pend) a w e st
 pb:∀ k∈J0 pend,k<st.bx.length
 pd:∀ x∈pend,∃ en∈done,en.i=x.1/\en.hard=false
 nd:pend.Nodup
 un:∀ x∈pend,∀ y∈pend,x.1=y.1->x=y
 bu:∀ x∈pend,∀ y∈pend,∀ k,x.2=some k->y.2=some k->x=y
 pr:∀ x∈pend,OU ops P st x
 ls:listed.size=ops.size
 li:∀ i,i<ops.size->(listed.getD i false=true↔(∃ en∈done,en.i=i)/\∀ x∈pend,x.1≠i)
 nvs:∀ x∈pend,x∈nv
 lc:∀ m,listed.getD m false=true->∀ i∈BK ops m,listed.getD i false=true
 f:F3 P sh N0 ops rest nv st K
section
variable {N0:Option Nat} {sh:FuncId->List Sh} {ops:Array Oper} {ord:List Ent} {K:St->Prop} {done rest:List Ent} {nv pend:Pend} {listed:Array Bool}
theorem ru {i j:Nat}(O:j∈Region.ready .any ops listed)(J:Kc ops i j=true):listed.getD i false=true:=by obtain⟨_,o,U,I⟩:=mem_ready.1 O;unfold Kc at J;rw[U]at J;simp only[Array.any_eq_true,oL,mH]at J;obtain⟨n,V,Y,Z⟩:=J;rw[<-Y];exact I _ (Array.getElem_mem V) Z
theorem AX {j:Nat}(J:j∈Region.ready .any ops listed):∀ i∈BK ops j,listed.getD i false=true:=by obtain⟨_,o,O,I⟩:=mem_ready.1 J;intro i hi;simp only[BK,O,oU,mD]at hi;obtain⟨e,⟨U,hb⟩,rfl⟩:=hi;exact I e (oh.1 U) hb
theorem H2 {j:Nat} (O:j∈Region.ready .any ops listed) (h:∀ m,listed.getD m false=true->∀ i∈BK ops m,listed.getD i false=true) :
  ∀ m,(listed.setIfInBounds j true).getD m false=true->∀ i∈BK ops m,(listed.setIfInBounds j true).getD i false=true:=λm J i hi=>by
 refine getD_set_true ?_;by_cases I:j=m
 ·subst I;exact AX O i hi
 ·rw[getD_set_ne false I]at J;exact h m J i hi
theorem Lt (hc:Chk ops ord)(h:RI P sh ops ord K av w0 e0 N0 done rest nv pend listed a w e st){en:Ent}(I:en∈ord):en.i<ops.size:=by obtain⟨l1,l2,hl⟩:=mI I;obtain⟨o,J⟩:=hc.at_ l1 en l2 hl;exact(oP.1 J.op).1
theorem vU (hc:Chk ops ord)(h:RI P sh ops ord K av w0 e0 N0 done rest nv pend listed a w e st){x:Nat × Option Nat}(J:x∈pend):listed.getD x.1 false≠true:=by obtain⟨en,O,U,_⟩:=h.pd x J;have I:=Lt hc h (en:=en) (by rw[h.ord];simp[O]);rw[U]at I;intro hl;exact((h.li x.1 I).1 hl).2 x J rfl
theorem Aa (hc:Chk ops ord) (h:RI P sh ops ord K av w0 e0 N0 done rest nv pend listed a w e st) {l1 l2:List Ent} {en:Ent} {o:Oper} (hl:ord=l1++en::l2) (J:Spot ops l1 en l2 o)
  (hr:en.i∈Region.ready .any ops listed) (hp:en.hard=true->∀ x∈pend,x.1≠en.i):∀ t∈o.looksAt ops,t∉I3 ops pend:=by
 intro t O U;obtain⟨x,V,hd⟩:=Fo.1 U;obtain⟨ex,h1,Y,Z⟩:=h.pd x V;have I:ex∈l1++en::l2:=by rw[<-hl,h.ord];simp[h1]
 rw[<-Y]at hd;rcases oO.1 I with hm | hm
 ·have he:=ru hr (J.pr ex hm t hd O);rw[Y]at he;exact vU hc h V he
 ·rcases oG.1 hm with rfl | hm
  ·refine J.se Z t ?_ O;simpa [tI,J.op]using hd
  ·have:=(J.af ex hm t hd (.inl O)).1
   rw[Z]at this;cases this
theorem Dq {j:Nat}{d:Bool}(I:j<listed.size)(i:Nat):(listed.setIfInBounds j true).getD i false=true↔i=j\/listed.getD i false=true:=by
 by_cases h:j=i
 ·subst h;simp[I]
 ·rw[getD_set_ne false h];constructor
  ·exact .inr
  ·rintro(h1 | h1)
   ·exact absurd h1.symm h
   ·exact h1
theorem D8 (hc:Chk ops ord) (h:RI P sh ops ord K av w0 e0 N0 done rest nv pend listed a w e st) {x:Nat × Option Nat} (hx:x∈pend) (hr:x.1∈Region.ready .any ops listed)
  {next:Act->World->Prop} {Q:Exit->Act->World->Prop}
  (hn:∀ a' w' e',RI P sh ops ord K av w0 e0 N0 done rest nv (pend.erase x) (listed.setIfInBounds x.1 true) a' w' e' st->next a' w'):wpOp P ops Q x.1 next a w:=by
 obtain⟨en,aj,hi,hh⟩:=h.pd x hx;obtain⟨l1,l2,hl⟩:=mI (show en∈ord by rw[h.ord];simp[aj]);obtain⟨o,ho⟩:=hc.at_ l1 en l2 hl;have V:=Aa hc h hl ho (by rw[hi];exact hr) (by rw[hh];intro hc;cases hc);have aa:=ho.op;rw[hi]at aa;have hd:tI ops x.1=o.dst:=by simp[tI,aa]
 have J:∀ y,y∈pend.erase x↔y≠x/\y∈pend:=λy=>List.Nodup.mem_erase_iff h.nd;have ax:x.1<listed.size:=by rw[h.ls];exact(oP.1 aa).1
 have ak:∀ i,i∈I3 ops pend->some i≠o.dst->i∈I3 ops (pend.erase x):=λi ac ay=>by obtain⟨y,O,al⟩:=Fo.1 ac;refine Fo.2 ⟨y,(J y).2 ⟨λZ=>ay ?_,O⟩,al⟩;subst Z;rw[<-al,hd]
 have ab:∀ a' w' e',Rel av w0 e0 (I3 ops (pend.erase x)) (J0 (pend.erase x)) a' w' e' st->next a' w':=λa' w' e' hR=>hn a' w' e' {
  ord:=h.ord
  rel:=hR
  pb:=λk U=>by obtain⟨y,O,I⟩:=yw.1 U;exact h.pb k (yw.2 ⟨y,((J y).1 O).2,I⟩)
  pd:=λy O=>h.pd y ((J y).1 O).2
  nd:=h.nd.erase x
  un:=λy O z hz=>h.un y ((J y).1 O).2 z ((J z).1 hz).2
  bu:=λy O z hz=>h.bu y ((J y).1 O).2 z ((J z).1 hz).2
  pr:=λy O=>h.pr y ((J y).1 O).2
  ls:=by simp[h.ls]
  li := λi ac=>by
   rw[Dq (d:=false) ax i];constructor
   ·rintro(rfl | h1)
    ·refine⟨⟨en,aj,hi⟩,λy O Z=>?_⟩
     have:=(J y).1 O
     exact this.1 (h.un y this.2 x hx Z)
    ·have:=(h.li i ac).1 h1
     exact⟨this.1,λy O=>this.2 y ((J y).1 O).2⟩
   ·rintro⟨h1,h2⟩
    by_cases ao:i=x.1
    ·exact .inl ao
    ·refine .inr ((h.li i ac).2 ⟨h1,λy O aq=>?_⟩);by_cases Z:y=x
     ·subst Z;exact ao aq.symm
     ·exact h2 y ((J y).2 ⟨Z,O⟩) aq
  nvs:=λy O=>h.nvs y ((J y).1 O).2
  lc:=H2 hr h.lc
  f:=h.f }
 obtain⟨o',au,U⟩:=h.pr x hx;rw[aa]at au;cases au;unfold wpOp;rw[aa];simp only;rcases U with⟨hw,_,r,q,h2,h3,h4,h5⟩ | ⟨hw,hb,h3⟩
 ·rw [if_pos (ET h.rel hw V)];refine .inl ?_;have ae:∀ B f,r=.b B f->∃ k,x.2=some k:=λB f hr=>by
   subst hr;cases Y:x.2 with
   | none=>rw[Y]at h3;cases h3
   | some k=>exact⟨k,rfl⟩
  obtain⟨v,w',e',g1,g2⟩:=J9 h.rel (o:=o) (r:=r) (k:=x.2.getD 0) (λy O t ht=>V t (wv O ht)) h2 (λd az a1=>by
   rw[h4 d az a1];cases r with
   | v p=>cases Y:x.2<;>rw[Y]at h3<;>simp[KC]at h3;simp[h3]
   | b B f=>obtain⟨k,U⟩:=ae B f rfl;rw[U]at h3;simp[KC]at h3;simp[U,h3]) (λB f aw=>by
   obtain⟨k,U⟩:=ae B f aw;rw[U];exact⟨h5 B f k aw U,yw.2 ⟨x,hx,U⟩⟩) ak
  unfold Oper.wp;rw[g1,Oper.upon_value];refine ab _ _ _ (ud g2 (λk=>?_) λ_=>id);cases r with
  | v p=>
    have Y:x.2=none:=by cases Y:x.2<;>rw[Y]at h3<;>simp[KC]at h3<;>rfl
    simp only[Res.isB,nf,nL];constructor
    ·intro U;obtain⟨y,O,I⟩:=yw.1 U;exact yw.2 ⟨y,((J y).1 O).2,I⟩
    ·intro U;obtain⟨y,O,I⟩:=yw.1 U;exact yw.2 ⟨y,(J y).2 ⟨λhc=>(by rw[hc,Y]at I;cases I),O⟩,I⟩
  | b B f=>
    obtain⟨k0,ah⟩:=ae B f rfl;simp only[Res.isB,nl,ah,o3,mD,oc,ne_eq];constructor
    ·intro U;obtain⟨y,O,I⟩:=yw.1 U
     have:=(J y).1 O
     exact⟨yw.2 ⟨y,this.2,I⟩,λai=>this.1 (h.bu y this.2 x hx k I (by rw[ah,ai]))⟩
    ·rintro⟨U,ai⟩
     obtain⟨y,O,I⟩:=yw.1 U;exact yw.2 ⟨y,(J y).2 ⟨λhc=>(by rw[hc,ah]at I;cases I;exact ai rfl),O⟩,I⟩
 ·rw[if_neg (by rw[D5 h.rel hw V];simp)];have h4:=yQ h.rel (dst:=o.dst) Aw ak;rw[St.put_same h3]at h4;refine ab _ _ _ (ud h4 (λk=>?_) λ_=>id);constructor
  ·intro U;obtain⟨y,O,I⟩:=yw.1 U;exact yw.2 ⟨y,((J y).1 O).2,I⟩
  ·intro U;obtain⟨y,O,I⟩:=yw.1 U;exact yw.2 ⟨y,(J y).2 ⟨λhc=>(by rw[hc,hb]at I;cases I),O⟩,I⟩
theorem wW {l1 l2:List Ent}{en:Ent}(h:((l1++en::l2).map (·.i)).Nodup):∀ x∈l1,x.i≠en.i:=by intro x I hc;rw[mL,mi]at h;exact h.2.2 x.i (oU.2 ⟨x,I,rfl⟩) en.i (by simp) hc
theorem AZ (hc:Chk ops ord) {en:Ent} (hh:en.hard=false) (h:RI P sh ops ord K av w0 e0 N0 done (en::rest) nv pend listed a w e st) :
  ∃ b nv' e' st',RI P sh ops ord K av w0 e0 N0 (done++[en]) rest nv' ((en.i,b)::pend) listed a w e' st':=by
 obtain⟨o,ho⟩:=hc.at_ done en rest h.ord;have ae:=hc.nd;rw[h.ord]at ae;have O:∀ x∈pend,x.1≠en.i:=λx hx=>by obtain⟨ex,h1,V,_⟩:=h.pd x hx;rw[<-V];exact wW ae ex h1
 have hf:=h.f;simp only[F3,ho.op,hh]at hf;have fin:∀(b:Option Nat) (nv':Pend) (e':Env) (st':St),nv'=(en.i,b)::nv->Rel av w0 e0 (I3 ops ((en.i,b)::pend)) (J0 ((en.i,b)::pend)) a w e' st'->(∀ k,b=some k->st.bx.length<=k/\k<st'.bx.length)->Stp [] [] o.dst st st' ->
   L7 ops P st' o b->F3 P sh N0 ops rest nv' st' K->RI P sh ops ord K av w0 e0 N0 (done++[en]) rest nv' ((en.i,b)::pend) listed a w e' st':=λb nv' e' st' ax hR hb I hK hF=>{
  ord:=by rw[h.ord];simp
  rel:=hR
  pb:=λk J=>by
   obtain⟨y,hy,Y⟩:=yw.1 J;rcases oG.1 hy with rfl | hy
   ·exact(hb k Y).2
   ·exact oq (h.pb k (yw.2 ⟨y,hy,Y⟩)) I.bl
  pd:=λx hx=>by
   rcases oG.1 hx with rfl | hx
   ·exact⟨en,by simp,rfl,hh⟩
   ·obtain⟨ex,h1,V⟩:=h.pd x hx;exact⟨ex,by simp[h1],V⟩
  nd:=nk.2 ⟨λhm=>O _ hm rfl,h.nd⟩
  un:=λx hx y hy ah=>by
   rcases oG.1 hx with rfl | hx<;>rcases oG.1 hy with rfl | hy
   ·rfl
   ·exact absurd ah.symm (O y hy)
   ·exact absurd ah (O x hx)
   ·exact h.un x hx y hy ah
  bu:=λx hx y hy k ai Y=>by
   rcases oG.1 hx with rfl | hx<;>rcases oG.1 hy with rfl | hy
   ·rfl
   ·have:=(hb k ai).1;have:=h.pb k (yw.2 ⟨y,hy,Y⟩);omega
   ·have:=(hb k Y).1;have:=h.pb k (yw.2 ⟨x,hx,ai⟩);omega
   ·exact h.bu x hx y hy k ai Y
  pr:=λx hx=>by
   rcases oG.1 hx with rfl | hx
   ·exact⟨o,ho.op,hK⟩
   ·obtain⟨ox,ao,ay⟩:=h.pr x hx;refine⟨ox,ao,pM ay I (λ_ h=>h) (.inl pQ) λd hd=>?_⟩;obtain⟨ex,h1,V,h3⟩:=h.pd x hx;obtain⟨m1,m2,hm⟩:=mI h1;obtain⟨az,aq⟩:=hc.at_ m1 ex (m2++en::rest) (by rw[h.ord,hm];simp);have:az=ox:=by have:=aq.op;rw[V,ao]at this;exact(o9 this).symm
    subst this;have au:=aq.af en (by simp) d (by simp[tI,ho.op,hd]);refine⟨λhc=>?_,λhc=>?_⟩
    ·have:=(au (.inl hc)).1;rw[hh]at this;cases this
    ·have:=(au (.inr hc)).1;rw[hh]at this;cases this
  ls:=h.ls
  li:=λi hi=>by
   rw[h.li i hi];constructor
   ·rintro⟨⟨x,h1,V⟩,h3⟩
    refine⟨⟨x,by simp[h1],V⟩,λy hy=>?_⟩;rcases oG.1 hy with rfl | hy
    ·simp only;rw[<-V];exact(wW ae x h1).symm
    ·exact h3 y hy
   ·rintro⟨⟨x,h1,V⟩,h3⟩
    refine⟨⟨x,?_,V⟩,λy hy=>h3 y (by simp[hy])⟩;rcases oO.1 h1 with h1 | h1
    ·exact h1
    ·simp at h1;subst h1;exact absurd V (h3 (x.i,b) (by simp))
  nvs:=λx hx=>by
   subst ax;rcases oG.1 hx with rfl | hx
   ·simp
   ·simp[h.nvs x hx]
  lc:=h.lc
  f:=hF }
 have Z:∀ b,I3 ops ((en.i,b)::pend)=o.dst.toList++I3 ops pend:=λb=>by simp only[I3,nY,tI,ho.op,oI];cases o.dst<;>rfl
 have aj:=ho.se hh;rcases B9 hf with⟨hw,hf⟩ | ⟨hw,hf⟩
 ·split at hf
  rotate_left
  ·exact hf.elim
  rename_i hb;simp only[oL]at hb;obtain⟨a8,a1⟩:=hb;obtain⟨r,hK,hr⟩:=H5 _ hf;have hr:=hr (λq=>q=r) rfl;have hR:=KA h.rel o.dst r;have I:Stp [] [] o.dst st (st.push o.dst r):=GB;have aw:∀ y∈o.op.operands,∀ k∈(opd st.sl y).refs,k<st.bx.length:=λy hy k J=>by
   have:=oW.1 (oW.1 a1 y (oh.2 hy)) k J
   simpa using this
  have ac:∀ y∈o.op.operands,opd (st.push o.dst r).sl y=opd st.sl y:=λy hy=>by
   cases y with
   | tmp t=>
     have ab:o.dst≠some t:=λhc=>aj t hc (wv hy rfl);simp only[opd];rw[oA,oA];cases hp:st.sl[t]? with
     | none=>have:(st.push o.dst r).sl[t]?=none:=ob (by rw[I.ll];exact nj.1 hp);rw[this]
     | some p=>rw[I.sl t p (λhc=>ab hc.symm) hp (by simp)]
   | _=>rfl
  have ak:L8 ops o (st.push o.dst r):=λg aa hg=>by obtain⟨og,d,h1,V,h3⟩:=hw g aa hg;exact⟨og,d,h1,V,I.sl d _ (λhc=>aj d hc.symm (by simp[Oper.looksAt,hg,h1,V])) h3 (by simp)⟩
  have a6:∀ k,k<st.bx.length->(st.push o.dst r).bx[k]?=st.bx[k]?:=λk J=>by rw[I.bx k _ (oF J) (by simp) (by simp),oF J]
  have al:∀ d q,o.dst=some d->d<(st.push o.dst r).sl.length->KC r (r.bk st.bx.length)=some q->(st.push o.dst r).sl[d]?=some q:=λd q hd U hq=>by
   rw[I.ll]at U;cases r with
   | v p=>simp[Res.bk,KC]at hq;subst hq;simp[St.push,St.put,hd,U]
   | b B f=>simp[Res.bk,KC]at hq;subst hq;simp[St.push,St.put,hd,U]
  refine⟨r.bk st.bx.length,(en.i,r.bk st.bx.length)::nv,(if r.isB then e++[none]else e),_,fin _ _ _ _ rfl ?_ ?_ I (.inl ⟨ak,?_,r,?_⟩) hK⟩
  ·rw[Z];refine ud hR (λk=>?_) λ_=>id;cases r with
   | v p=>simp[Res.isB,Res.bk,J0]
   | b B f=>simp[Res.isB,Res.bk,J0]
  ·intro k J;cases r with
   | v p=>cases J
   | b B f=>simp[Res.bk]at J;subst J;refine⟨oJ _,?_⟩;cases o.dst<;>simp[St.push,St.put]
  ·intro y hy k J;rw[ac y hy]at J
   have:=aw y hy k J
   exact oq this I.bl
  ·have hq:∃ q,KC r (r.bk st.bx.length)=some q:=by cases r<;>simp[Res.bk,KC]
   obtain⟨q,hq⟩:=hq;refine⟨q,?_,hq,λd hd U=>al d q hd U hq,λB f k a7 J=>?_⟩
   ·rw[AO (ρ:=opd st.sl) (rb:=λk=>st.bx[k]?) ac λy hy k J=>a6 k (aw y hy k J)];exact hr
   ·subst a7;simp[Res.bk]at J;subst J;cases o.dst<;>simp[St.push,St.put]
 ·have I:Stp [] [] o.dst st (st.put o.dst (.tp [])):=Stp.put Stp.rfl' _;refine⟨none,(en.i,none)::nv,e,st.put o.dst (.tp []),fin _ _ _ _ rfl ?_ (λk J=>by cases J) I (.inr ⟨?_,rfl,λd hd U=>?_⟩) hf⟩
  ·rw[Z];exact ud (Cl h.rel) (λk=>by simp[J0]) λ_=>id
  ·obtain⟨g,aa,og,d,g1,g2,g3,g4⟩:=hw;have ab:some d≠o.dst:=λhc=>aj d hc.symm (by simp[Oper.looksAt,g1,g2,g3]);refine⟨g,aa,og,d,g1,g2,g3,?_⟩;rcases g4 with g4 | g4
   ·exact .inl (I.sl d _ ab g4 (by simp))
   ·exact .inr (I.sl d _ ab g4 (by simp))
  ·rw[I.ll]at U;simp[St.put,hd,U]
theorem AY (hc:Chk ops ord):∀(pre rest done:List Ent) (nv pend:Pend) (e:Env) (st:St),(∀ en∈pre,en.hard=false)->RI P sh ops ord K av w0 e0 N0 done (pre++rest) nv pend listed a w e st ->
  ∃ nv' I e' st',RI P sh ops ord K av w0 e0 N0 (done++pre) rest nv' I listed a w e' st'/\I.length=pend.length+pre.length
 | [],rest,done,nv,pend,e,st,_,h=>⟨nv,pend,e,st,by simpa using h,rfl⟩
 | en::pre,rest,done,nv,pend,e,st,U,h=>by obtain⟨b,J,e1,O,V⟩:=AZ hc (U en (by simp)) h;obtain⟨nv',I,e',st',Y,Z⟩:=AY hc pre rest (done++[en]) J _ e1 O (λx hx=>U x (by simp[hx])) V;exact⟨nv',I,e',st',by simpa using Y,by rw[Z];simp;omega⟩
theorem HF (bc:NOk N0 w0) (hc:Chk ops ord) {Q:Exit->Act->World->Prop} (hQ:∀ a w e st,K st->Rel av w0 e0 [] [] a w e st->Q .normal a w) :
  ∀ (V:Nat) (done rest:List Ent) (nv pend:Pend) (listed:Array Bool) (a:Act) (w:World) (e:Env) (st:St),RI P sh ops ord K av w0 e0 N0 done rest nv pend listed a w e st->V=rest.length+pend.length ->
    wpAny P .any ops Q V listed a w:=by
 have fin:∀(done rest:List Ent) (nv pend:Pend) (listed:Array Bool) (a:Act) (w:World) (e:Env) (st:St),RI P sh ops ord K av w0 e0 N0 done rest nv pend listed a w e st->rest=[]->pend=[]->Q .normal a w:=by intro done rest nv pend listed a w e st h hr hp;subst hr;subst hp;exact hQ a w e st h.f h.rel
 have prog:∀(done rest:List Ent) (nv pend:Pend) (listed:Array Bool) (a:Act) (w:World) (e:Env) (st:St),RI P sh ops ord K av w0 e0 N0 done rest nv pend listed a w e st->Region.ready .any ops listed=[]->rest=[]/\pend=[]:=by
  intro done rest nv pend listed a w e st h hr
  have key:∀(l1 l2:List Ent),ord=l1++l2->∀ en∈l1,listed.getD en.i false=true:=by
   intro l1
   suffices ∀ n,∀ l1 l2:List Ent,l1.length=n->ord=l1++l2->∀ en∈l1,listed.getD en.i false=true from λl2=>this l1.length l1 l2 rfl
   intro n
   induction n with
   | zero=>intro l1 l2 hl _ en O;simp at hl;subst hl;simp at O
   | succ n ih=>
     intro l1 l2 hl ho en O;rcases List.eq_nil_or_concat l1 with rfl | ⟨m,x,rfl⟩
     ·simp at hl
     ·rw [List.concat_eq_append]at hl ho O;simp only[oH,oN,oa]at hl;have hm:=ih m (x::l2) (by omega) (by rw[ho];simp);rcases oO.1 O with h1 | h1
      ·exact hm en h1
      ·simp at h1;subst h1;obtain⟨o,hs⟩:=hc.at_ m en l2 (by rw[ho];simp);cases ai:listed.getD en.i false with
       | true=>rfl
       | false=>
         exfalso;have U:=(oP.1 hs.op).1;have:en.i∈Region.ready .any ops listed:=mem_ready.2 ⟨by
          rw[om]at ai ⊢;rw[oe (by rw[h.ls];exact U)]at ai ⊢;exact ai,o,hs.op,λe he hb=>by
          obtain⟨b,bg,bh⟩:=hs.ed e he hb;rw[<-bh];exact hm b bg⟩
         rw[hr]at this;simp at this
  have aw:=key ord [] (by simp);have ax:∀ en∈ord,(∃ x∈done,x.i=en.i)/\∀ x∈pend,x.1≠en.i:=λen O=>(h.li en.i (Lt hc h O)).1 (aw en O);constructor
  ·cases aj:rest with
   | nil=>rfl
   | cons en l=>exfalso;have ho:=h.ord;rw[aj]at ho;obtain⟨⟨x,J,bi⟩,_⟩:=ax en (by rw[ho];simp);have ae:=hc.nd;rw[ho]at ae;exact wW ae x J bi
  ·cases ab:pend with
   | nil=>rfl
   | cons x l=>exfalso;obtain⟨en,h1,h2,_⟩:=h.pd x (by rw[ab];simp);exact(ax en (by rw[h.ord];simp[h1])).2 x (by rw[ab];simp) h2.symm
 intro V
 induction V with
 | zero=>
   intro done rest nv pend listed a w e st h hf;have h1:rest=[]:=oV (by omega);have h2:pend=[]:=oV (by omega);refine⟨?_,fin _ _ _ _ _ _ _ _ _ h h1 h2⟩;subst h1;subst h2;cases hr:Region.ready .any ops listed with
   | nil=>rfl
   | cons j l=>
     exfalso;have hj:j∈Region.ready .any ops listed:=by rw[hr];simp
     obtain⟨g1,o,g2,_⟩:=mem_ready.1 hj;have U:=(oP.1 g2).1;obtain⟨b,hb,bj⟩:=hc.all j U;have ho:=h.ord;rw[nh]at ho
     have:=(h.li j U).2 ⟨⟨b,by rw[<-ho];exact hb,bj⟩,by simp⟩
     rw[om]at this g1;rw[oe (by rw[h.ls];exact U)]at this g1;simp only[o3]at this g1;rw[this]at g1;cases g1
 | succ V ih=>
   intro done rest nv pend listed a w e st h hf;refine⟨λhr=>by obtain⟨h1,h2⟩:=prog _ _ _ _ _ _ _ _ _ h hr;exact fin _ _ _ _ _ _ _ _ _ h h1 h2,λj hj=>?_⟩;by_cases ay:∃ x∈pend,x.1=j
   ·obtain⟨x,J,rfl⟩:=ay;refine D8 hc h J hj λa' w' e' I=>ih _ _ _ _ _ _ _ _ _ I ?_
    have:=List.length_erase_of_mem J
    have:=List.length_pos_of_mem J
    omega
   ·have bm:∀ x∈pend,x.1≠j:=λx J hc=>ay ⟨x,J,hc⟩;obtain⟨g1,oj,g2,g3⟩:=mem_ready.1 hj;have U:=(oP.1 g2).1;obtain⟨en,O,hi⟩:=hc.all j U;have bp:listed.getD j false=false:=by rw[om]at g1 ⊢;rw[oe (by rw[h.ls];exact U)]at g1 ⊢;exact g1
    have ae:∀ x∈done,x.i≠j:=λx J bq=>by
     have:=(h.li j U).2 ⟨⟨x,J,bq⟩,bm⟩
     rw[bp]at this;cases this
    have bt:en∈rest:=by
     rw[h.ord]at O;rcases oO.1 O with h1 | h1
     ·exact absurd hi (ae en h1)
     ·exact h1
    obtain⟨pre,post,ac⟩:=mI bt;obtain⟨o,hs⟩:=hc.at_ (done++pre) en post (by rw[h.ord,ac];simp);have az:∀ b∈pre,b.hard=false:=by
     intro b hb;cases bv:b.hard with
     | false=>rfl
     | true=>
       exfalso;have a1:=hs.hd;rw[List.reverse_append]at a1;obtain⟨x,J,ak⟩:=s6 pre.reverse done.reverse a1 ⟨b,mF.2 hb,bv⟩;have bw:=ru (by rw[hi];exact hj) ak;have bz:x∈ord:=by rw[h.ord,ac];simp[mF.1 J]
       obtain⟨⟨y,hy,b3⟩,_⟩:=(h.li x.i (Lt hc h bz)).1 bw;have Y:=hc.nd;obtain⟨q1,q2,hq⟩:=mI (mF.1 J);have ho:ord=(done++q1)++x::(q2++en::post):=by rw[h.ord,ac,hq];simp
       rw[ho]at Y;exact wW Y y (by simp[hy]) b3
    rw[ac]at h;obtain⟨nv',Z,e',st',I,cd⟩:=AY hc pre (en::post) done nv pend e st az h;have ce:rest.length=pre.length+(post.length+1):=by rw[ac];simp
    cases hh:en.hard with
    | false=>
      obtain⟨b,cf,e2,st2,h2⟩:=AZ hc hh I;have b7:(en.i,b).1∈Region.ready .any ops listed:=by rw[<-hi]at hj;exact hj
      rw[<-hi];refine D8 hc h2 (x:=(en.i,b)) (by simp) b7 λa' w' e' h3=>ih _ _ _ _ _ _ _ _ _ h3 ?_;rw[List.length_erase_of_mem (by simp)];simp only[oN];omega
    | true=>
      have ah:∀ x∈Z,x.1≠en.i:=λx J ak=>by obtain⟨ex,k1,k2,_⟩:=I.pd x J;have Y:=hc.nd;rw[I.ord]at Y;exact wW Y ex k1 (by rw[k2,ak])
      have al:=Aa hc I I.ord hs (by rw[hi];exact hj) (λ_=>ah);have a6:=I.f;simp only[F3,hs.op,hh]at a6;rw[<-hi];have ao:∀ x∈Z,x∈Cv ops en.i nv':=λx J=>by
       have a7:=I.nvs x J;unfold Cv;split
       ·simp at a7
       ·refine mD.2 ⟨a7,?_⟩;cases b8:(K3 ops 1000 (BK ops en.i) []).contains x.1 with
        | false=>rfl
        | true=>
          have hm:x.1∈K3 ops 1000 (BK ops en.i) []:=by simpa using b8
          exact absurd (CN (A:=λk=>listed.getD k false=true) I.lc 1000 _ [] (AX (by rw[hi];exact hj)) (by simp) x.1 hm) (vU hc I J)
      refine Dl I.rel bc I.pb (pf:=Cv ops en.i nv') (λt ht=>by
       obtain⟨x,J,hd⟩:=Fo.1 ht;exact⟨x,ao x J,hd⟩) (λk hk=>by
       obtain⟨x,J,hd⟩:=yw.1 hk;exact⟨x,ao x J,hd⟩) hs.op al a6 λv w' e2 st2 k1 k0 k2 k3=>?_
      refine ih (done++pre++[en]) post nv' Z _ _ _ e2 st2 {
       ord:=by rw[I.ord];simp
       rel:=k3
       pb:=λk hk=>oq (I.pb k hk) k0
       pd:=λx J=>by obtain⟨ex,m1,m2⟩:=I.pd x J;exact⟨ex,by simp at m1 ⊢;rcases m1 with m1 | m1<;>simp[m1],m2⟩
       nd:=I.nd
       un:=I.un
       bu:=I.bu
       pr:=λx J=>by
        obtain⟨ox,aq,b9⟩:=I.pr x J;refine⟨ox,aq,k2 x (ao x J) ox aq b9 λd hd=>?_⟩;obtain⟨ex,m1,m2,m3⟩:=I.pd x J;obtain⟨q1,q2,hq⟩:=mI m1;obtain⟨au,a8⟩:=hc.at_ q1 ex (q2++en::post) (by rw[I.ord,hq];simp);have:au=ox:=by have:=a8.op;rw[m2,aq]at this;exact(o9 this).symm
        subst this;have ca:=a8.af en (by simp) d (by simp[tI,hs.op,hd]);have ba:∀ aa:(d∈au.looksAt ops\/au.dst=some d),False:=λaa=>by have he:=(ca aa).2;rw[m2]at he;exact vU hc I J (ru (by rw[hi];exact hj) he)
        exact⟨λaa=>ba (.inl aa),λaa=>ba (.inr aa)⟩
       ls:=by simp[I.ls]
       li := λi bb=>by
        have cc:en.i<listed.size:=by rw[I.ls,hi];exact U
        rw[Dq (d:=false) cc i];constructor
        ·rintro(rfl | m1)
         ·exact⟨⟨en,by simp,rfl⟩,ah⟩
         ·obtain⟨⟨x,m2,m3⟩,m4⟩:=(I.li i bb).1 m1;exact⟨⟨x,by simp at m2 ⊢;rcases m2 with m2 | m2<;>simp[m2],m3⟩,m4⟩
        ·rintro⟨⟨x,m1,m2⟩,m3⟩
         rcases oO.1 m1 with m1 | m1
         ·exact .inr ((I.li i bb).2 ⟨⟨x,m1,m2⟩,m3⟩)
         ·simp at m1;subst m1;exact .inl m2.symm
       nvs:=I.nvs
       lc:=H2 (by rw[hi];exact hj) I.lc
       f:=k1 } ?_
      omega
end
theorem Gv {N0:Option Nat} (J:NOk N0 w0) {sh:FuncId->List Sh} {id:Nat} {ops:Array Oper} {ord:List Ent} {K:St->Prop} {Q:Exit->Act->World->Prop} (I:P.follows .mixedOrders=true) (hc:chk ops ord=true)
  (h:Rel av w0 e0 [] [] a w e st) (hs:F3 P sh N0 ops ord [] st K) (U:∀ a w e st,K st->Rel av w0 e0 [] [] a w e st->Q .normal a w):(Code.region id ops true).wp P Q a w:=by
 have O:=JR hc;refine wp_region_any I ?_;have V:Rel av w0 e0 [] [] a { w with drawn:=w.drawn+1 } e st:=Mv (F5 h (w':={ w with drawn:=w.drawn+1 }) (oJ _) (λ_ _=>rfl) λb c t z hb hc=>by have:=(oP.1 hc).1;simp at this;omega) h.hN;refine HF J O U ops.size [] ord [] [] _ a _ e st {
  ord:=rfl
  rel:=V
  pb:=by simp[J0]
  pd:=by simp
  nd:=mV
  un:=by simp
  bu:=by simp
  pr:=by simp
  ls:=by simp
  li:=λi hi=>by simp[hi]
  nvs:=by simp
  lc:=λm I=>by exfalso;rw[om,Array.getElem?_replicate]at I;split at I<;>simp at I
  f:=hs } (by simp[O.len])
variable {av:Nat->Prop} {P:Program} {w0 w w':World} {e0 e:Env} {pS pS' pB pB':List Nat} {a:Act} {st st':St}
def NQ (w:World)(e:Env)(live:Nat->Prop)(p q:PV):Prop:=q=.any\/(p≠.any/\p.val e=q.val e/\(p.Ok w live->q.Ok w live)/\∀ k∈q.refs,k∈p.refs)
theorem IZ (h:Rel av w0 e0 pS pB a w e st) {O:List PV} (hl:O.length<=st.sl.length)
  (hs:∀(i:Nat) (q:PV),O[i]?=some q->q=.any\/∃ p,st.sl[i]?=some p/\NQ w e (zM av pB e st.bx) p q):Rel av w0 e0 pS pB a w e { st with sl:=O }:={
 h with
 nd:=h.nd
 sz:=o8 hl h.sz
 hs:=λi q hi U=>by
  rcases hs i q hi with I | ⟨p,I,J | ⟨J,V,Y,Z⟩⟩
  ·exact .inl I
  ·exact .inl J
  ·exact .inr (((h.hs i p I U).resolve_left J).trans V)
 so:=λi q hi U=>by
  rcases hs i q hi with I | ⟨p,I,J | ⟨J,V,Y,Z⟩⟩
  ·subst I;trivial
  ·subst J;trivial
  ·exact Y (h.so i p I U)
 sr:=λi q hi U k hk=>by
  rcases hs i q hi with I | ⟨p,I,J | ⟨J,V,Y,Z⟩⟩
  ·subst I;simp[PV.refs]at hk
  ·subst J;simp[PV.refs]at hk
  ·exact h.sr i p I U k (Z k hk) }
def E1 (p:PV):PV:=match p with
 | .pg cs=>match Cr cs with
   | some ds=>.dg cs.length (.ag ds)
   | none=>.pg cs
 | p=>p
theorem Bo {live:Nat->Prop}{p:PV}(I:p.Ok w live):NQ w e live p (E1 p):=by
 have same:∀ p:PV,NQ w e live p p:=λp=>by
  by_cases O:p=.any
  ·exact .inl O
  ·exact .inr ⟨O,rfl,id,λ_=>id⟩
 cases p
 case pg cs=>
  simp only[E1];split
  ·rename_i ds J;simp only[PV.Ok]at I;have U:=vL (e:=e) J I.1;exact .inr ⟨by simp,by rw[show(PV.pg cs).val e=(PV.pg cs).val1 e from rfl];exact((Iu J I.1 (e:=e)).symm.trans rfl),λ_=>⟨Good.ag λd hd=>(U.1 d hd).1,ds,rfl,wY J,λd hd=>(U.1 d hd).2⟩,by simp[PV.refs]⟩
  ·exact same _
 all_goals exact same _
def Dn (ks:List Nat):Nat->List PV->List PV
 | _,[]=>[]
 | i,p::ps=>(match ks.contains i with
   | true=>E1 p
   | false=>.any)::Dn ks (i+1) ps
theorem qc {ks:List Nat}:∀(l:List PV)(i:Nat),(Dn ks i l).length=l.length
 | [],i=>rfl
 | p::l,i=>by simp[Dn,qc l]
theorem Do {ks:List Nat}:∀(l:List PV)(i j:Nat)(q:PV),(Dn ks i l)[j]?=some q->∃ p,l[j]?=some p/\(q=.any\/q=E1 p)
 | [],i,j,q,h=>by simp[Dn]at h
 | p :: l,i,j,q,h=>by
   cases j with
   | zero=>
     simp only[Dn,me,oZ]at h;refine⟨p,rfl,?_⟩;split at h
     ·exact .inr h.symm
     ·exact .inl h.symm
   | succ j=>simp only[Dn,nQ]at h ⊢;exact Do l (i+1) j q h
def St.keep (st:St)(ks:List Nat):St:={ st with sl:=Dn ks 0 st.sl }
theorem IX (h:Rel av w0 e0 [] pB a w e st)(ks:List Nat):Rel av w0 e0 [] pB a w e (st.keep ks):=
 IZ h (by rw[qc];exact oJ _) λi q hi=>by
  obtain⟨p,I,h2 | h2⟩:=Do _ _ _ _ hi
  ·exact .inl h2
  ·subst h2;exact .inr ⟨p,I,Bo (h.so i p I (by simp))⟩
def St.nils (st:St):List (Nat × TypeId × Nat)->St
 | []=>st
 | (t,ty,z)::l=>match st.sl[t]? with
   | some (.sv none _ [] 0)=>St.nils { st with sl:=st.sl.set t (.sb st.bx.length z 0 0 0),bx:=st.bx++[.arr ty z [] 0] } l
   | _=>St.nils st l
theorem Cm:∀(l:List (Nat × TypeId × Nat)) (e:Env) (st:St),Rel av w0 e0 [] [] a w e st->∃ e',Rel av w0 e0 [] [] a w e' (st.nils l)
 | [],e,st,h=>⟨e,h⟩
 | (t, ty,z)::l,e,st,h=>by
   simp only[St.nils];split
   ·rename_i zz Y;have I:=u9 h (el:=ty) (z:=z) (by simp);have O:Env.at (e++[none]) st.bx.length=none:=by rw[<-h.el];exact Env.at_append_eq
    have Z:Rel av w0 e0 [] [] a w (e++[none]) { st with sl:=st.sl.set t (.sb st.bx.length z 0 0 0),bx:=st.bx++[.arr ty z [] 0] }:={
     I with
     nd:=I.nd
     sz:=by simp;exact I.sz
     hs := λi q hi J=>by
      simp only[nZ]at hi;split at hi
      ·rename_i U;subst U;split at hi
       ·simp at hi;subst hi
        have:=(I.hs t _ Y (by simp)).resolve_left (by simp)
        right;rw[this];simp[PV.val,PV.val1,PV.cv,O]
       ·cases hi
      ·exact I.hs i q hi J
     so:=λi q hi J=>by
      simp only[nZ]at hi;split at hi
      ·split at hi
       ·simp at hi;subst hi;trivial
       ·cases hi
      ·exact I.so i q hi J
     sr:=λi q hi J k V=>by
      simp only[nZ]at hi;split at hi
      ·split at hi
       ·simp at hi;subst hi;simp[PV.refs]at V;subst V;simp
       ·cases hi
      ·exact I.sr i q hi J k V }
    exact Cm l _ _ Z
   ·exact Cm l e st h
theorem IU (h:Rel av w0 e0 [] [] a w e st) {k:Nat} {cs cs':List PV} (hk:st.bx[k]?=some (.var cs)) (hl:cs'.length=cs.length)
  (hc:∀(i:Nat) (p:PV),cs'[i]?=some p->cs[i]?=some p\/∃ q,cs[i]?=some q/\q≠.any/\p.cv e=q.cv e/\(∀ live,p.Ok w live)/\p.isC/\∀ r∈p.refs,r<st.bx.length) :
  Rel av w0 e0 [] [] a w e { st with bx:=st.bx.set k (.var cs') }:=by
 have hkl:=(oC.1 hk).1;have hget:∀(j:Nat) (B:Bx),(st.bx.set k (.var cs'))[j]?=some B->(j=k/\B=.var cs')\/(j≠k/\st.bx[j]?=some B):=fun j B hj=>by
  rw[nZ]at hj;split at hj
  ·rename_i hkj
   first
    | (cases hj;exact .inl ⟨hkj.symm,rfl⟩)
    | (split at hj
       ·cases hj;exact .inl ⟨hkj.symm,rfl⟩
       ·cases hj)
  ·rename_i hkj;exact .inr ⟨fun hc=>hkj hc.symm,hj⟩
 have hlv:∀ j b,Lives [] e (st.bx.set k (.var cs')) j b↔Lives [] e st.bx j b:=fun j b=>by
  constructor
  ·rintro⟨h1,h2,B,h3,h4⟩
   rcases hget j B h3 with⟨rfl,rfl⟩ | ⟨h5,h6⟩
   ·exact⟨h1,h2,_,hk,by simp⟩
   ·exact⟨h1,h2,B,h6,h4⟩
  ·rintro⟨h1,h2,B,h3,h4⟩
   by_cases hjk:j=k
   ·subst hjk;exact⟨h1,h2,.var cs',by rw[List.getElem?_set_self hkl],by simp⟩
   ·exact⟨h1,h2,B,by rw[nc (Ne.symm hjk)];exact h3,h4⟩
 have hlive:∀ b,zM av [] e (st.bx.set k (.var cs')) b->zM av [] e st.bx b:=fun b hb=>hb.imp id fun⟨j,hj⟩=>⟨j,(hlv j b).1 hj⟩
 have hok:=h.bo k _ hk (by simp);obtain⟨ho1,ho2⟩:=hok;rw[PV.OkL_iff]at ho1;exact { h with
  el:=by simp;exact h.el
  br := fun j B hj hn=>by
   rcases hget j B hj with⟨rfl,rfl⟩ | ⟨_,h6⟩
   ·obtain⟨b,c,t,g1,g2,g3,g4⟩:=h.br _ _ hk (by simp);refine⟨b,c,t,g1,g2,by rw[g3,hl],fun i p hp=>?_⟩;rcases hc i p hp with h7 | ⟨q,h7,h8,h9,_⟩
    ·exact g4 i p h7
    ·rcases g4 i q h7 with h10 | h10
     ·exact absurd h10 h8
     ·exact .inr (by rw[h9];exact h10)
   ·exact h.br j B h6 hn
  bo := fun j B hj hn=>by
   rcases hget j B hj with⟨rfl,rfl⟩ | ⟨_,h6⟩
   ·refine⟨PV.OkL_iff.2 fun p hp=>?_,fun p hp=>?_⟩
    ·obtain⟨i,hi⟩:=oQ.1 hp;rcases hc i p hi with h7 | ⟨q,_,_,_,h9,_⟩
     ·exact PV.Ok.mono (fun _ _ _=>rfl) (oJ _) (fun b _=>hlive b) p (ho1 p (oB h7))
     ·exact h9 _
    ·obtain⟨i,hi⟩:=oQ.1 hp;rcases hc i p hi with h7 | ⟨q,_,_,_,_,h9,_⟩
     ·exact ho2 p (oB h7)
     ·exact .inr h9
   ·exact(h.bo j B h6 hn).mono (fun _ _ _=>rfl) (oJ _) fun b _=>hlive b
  bf:=fun j B hj hn i hi=>by
   refine⟨by simp,?_⟩;rw[ma];rcases hget j B hj with⟨rfl,rfl⟩ | ⟨_,h6⟩
   ·simp only[Bx.refs]at hi;obtain⟨p,hp,hip⟩:=PV.refsL_mem.1 hi;obtain⟨n,hn⟩:=oQ.1 hp;rcases hc n p hn with h7 | ⟨q,_,_,_,_,_,h9⟩
    ·exact(h.bf _ _ hk (by simp) i (by simp only[Bx.refs];exact PV.refsL_mem.2 ⟨p,oB h7,hip⟩)).2
    ·exact h9 i hip
   ·exact(h.bf j B h6 hn i hi).2
  inj:=fun i j b hi hj=>h.inj i j b ((hlv i b).1 hi) ((hlv j b).1 hj)
  so:=fun i p hp hn=>PV.Ok.mono (fun _ _ _=>rfl) (oJ _) (fun b _=>hlive b) p (h.so i p hp hn)
  sr:=fun i p hp hn r hr=>by rw[ma];exact h.sr i p hp hn r hr
  own:=fun j b hj=>h.own j b ((hlv j b).1 hj)
  avn:=fun j b hj=>h.avn j b ((hlv j b).1 hj) }
def St.bnils (st:St):List (Nat × Nat × TypeId × Nat)->St
 | []=>st
 | (t, j,ty,z)::l=>match st.sl[t]? with
   | some (.pb k _ _ _)=>match st.bx[k]? with
     | some (.var cs)=>match cs[j]? with
       | some (.sv none _ [] 0)=>St.bnils { st with bx:=List.set (st.bx++[Bx.arr ty z [] 0]) k (Bx.var (cs.set j (PV.sb st.bx.length z 0 0 0))) } l
       | _=>St.bnils st l
     | _=>St.bnils st l
   | _=>St.bnils st l
theorem uc:∀(l:List (Nat × Nat × TypeId × Nat)) (e:Env) (st:St),Rel av w0 e0 [] [] a w e st->∃ e',Rel av w0 e0 [] [] a w e' (st.bnils l)
 | [],e,st,h=>⟨e,h⟩
 | (t, j,ty,z)::l,e,st,h=>by
   simp only[St.bnils];split
   ·split
    ·split
     ·rename_i k _ _ _ _ _ cs Y _ zz hj;have h1:=u9 h (el:=ty) (z:=z) (by simp);have J:Env.at (e++[none]) st.bx.length=none:=by rw[<-h.el];exact Env.at_append_eq
      have O:=(oC.1 Y).1;have U:(st.bx++[Bx.arr ty z [] 0])[k]?=some (.var cs):=by rw[oK O];exact Y
      exact uc l _ _ (IU h1 U (cs':=cs.set j (.sb st.bx.length z 0 0 0)) (by simp) λi p I=>by
       rw[nZ]at I;split at I
       ·rename_i V;subst V;split at I
        ·cases I;exact .inr ⟨_,hj,by simp,by simp[PV.cv,J],λ_=>trivial,trivial,λr Z=>by simp[PV.refs]at Z;subst Z;simp⟩
        ·cases I
       ·exact .inl I)
     ·exact uc l e st h
    ·exact uc l e st h
   ·exact uc l e st h
def St.sel (st:St)(ks:List Nat):St:={ st with sl:=st.sl.map (I4 ks),bx:=ks.map λk=>(st.bx.getD k .gone).ren ks }
theorem IY (h:Rel av w0 e0 [] [] a w e st) {ks:List Nat} (hn:ks.Nodup) (aq:∃ l,ks=List.range st.pins.length++l):Rel av w0 e0 [] [] a w (tJ e ks) (st.sel ks):=by
 have ai:∀ j,j<st.pins.length->ks[j]?=some j:=λj J=>by obtain⟨l,rfl⟩:=aq;rw[oK (by simpa using J)];simp[J]
 have al:∀ j k,ks[j]?=some k->k<st.pins.length->j=k:=λj k J V=>by have U:=ai k V;obtain⟨a1,a2⟩:=oC.1 U;obtain⟨b1,b2⟩:=oC.1 J;exact(List.getElem_inj hn).1 (b2.trans a2.symm)
 have aa:∀(j:Nat) (B':Bx),(ks.map λk=>(st.bx.getD k .gone).ren ks)[j]?=some B'->∃ k,ks[j]?=some k/\B'=(st.bx.getD k .gone).ren ks/\(tJ e ks).at j=e.at k:=λj B' J=>by
  rw[oE]at J;cases V:ks[j]? with
  | none=>simp[V]at J
  | some k=>simp[V]at J;exact⟨k,rfl,by simp[J],by simp[tJ,Env.at,oA,V]⟩
 have au:∀ k,(st.bx.getD k .gone).ren ks≠.gone->∃ B,st.bx[k]?=some B/\B≠.gone/\(st.bx.getD k .gone)=B:=λk V=>by
  rw[oA]at V ⊢;cases hB:st.bx[k]? with
  | none=>rw[hB]at V;exact absurd rfl V
  | some B=>rw[hB]at V;refine⟨B,rfl,λhc=>V ?_,rfl⟩;simp only[o3];rw[hc];rfl
 have I:∀ j b,Lives [] (tJ e ks) (ks.map λk=>(st.bx.getD k .gone).ren ks) j b->∃ k,ks[j]?=some k/\Lives [] e st.bx k b:=λj b ⟨_,O,B',h3,h4⟩=>by obtain⟨k,h5,rfl,h6⟩:=aa j B' h3;obtain⟨B,h7,h8,_⟩:=au k h4;exact⟨k,h5,by simp,by rw[<-h6];exact O,B,h7,h8⟩
 have ab:∀ b,zM av [] (tJ e ks) (ks.map λk=>(st.bx.getD k .gone).ren ks) b->zM av [] e st.bx b:=λb hb=>hb.imp id λ⟨j,J⟩=>by obtain⟨k,_,O⟩:=I j b J;exact⟨k,O⟩
 have aj:∀ p:PV,p.Ok w (zM av [] e st.bx)->p.Ok w (zM av [] (tJ e ks) (ks.map λk=>(st.bx.getD k .gone).ren ks)):=λp=>PV.Ok.mono (λ_ _ _=>rfl) (oJ _) (λb _=>ab b) p;have Y:∀(i:Nat) (q:PV),(st.sl.map (I4 ks))[i]?=some q->q=.any\/∃ p,st.sl[i]?=some p/\PV.ren ks p=some q:=λi q hi=>by
  rw[oE]at hi;cases Z:st.sl[i]? with
  | none=>simp[Z]at hi
  | some p=>
    simp[Z,I4]at hi;split at hi
    ·rename_i q' hq;subst hi;exact .inr ⟨p,rfl,hq⟩
    ·exact .inl hi.symm
 exact {
  el:=by simp[tJ,St.sel]
  br := λj B' J _=>by
   obtain⟨k,U,rfl,O⟩:=aa j B' J;rw[O];rw[oA];cases hB:st.bx[k]? with
   | none=>exact True.intro
   | some B=>
     have h3:=h.br k B hB (by simp);simp only[o3];cases B with
     | var cs=>
       obtain⟨b,c,t,g1,g2,g3,g4⟩:=h3;refine⟨b,c,t,g1,g2,by simpa using g3,λi p Z=>?_⟩;rw[oE]at Z;cases ak:cs[i]? with
       | none=>simp[ak]at Z
       | some q=>
         simp[ak,I4]at Z;split at Z
         ·rename_i q' hq;subst Z;have h5:=yk (e:=e) hq;rcases g4 i q ak with g5 | g5
          ·exact .inl (h5.an.1 g5)
          ·exact .inr (by rw[<-h5.cv];exact g5)
         ·exact .inl Z.symm
     | _=>exact h3
  bo := λj B' J _=>by
   obtain⟨k,U,rfl,O⟩:=aa j B' J;rw[oA];cases hB:st.bx[k]? with
   | none=>exact True.intro
   | some B=>
     have h3:=(h.bo k B hB (by simp)).mono (w':=w) (live':=zM av [] (tJ e ks) (ks.map λk=>(st.bx.getD k .gone).ren ks)) (λ_ _ _=>rfl) (oJ _) λb _=>ab b;simp only[o3];cases B with
     | var cs=>
       obtain⟨g1,g2⟩:=h3;rw[PV.OkL_iff]at g1;refine⟨PV.OkL_iff.2 λp Z=>?_,λp Z=>?_⟩
       ·obtain⟨q,hq,rfl⟩:=oU.1 Z;unfold I4;split
        ·rename_i q' ac;exact(yk (e:=e) ac).ok _ _ (g1 q hq)
        ·trivial
       ·obtain⟨q,hq,rfl⟩:=oU.1 Z;unfold I4;split
        ·rename_i q' ac;have h5:=yk (e:=e) ac;rcases g2 q hq with g3 | g3
         ·exact .inl (h5.an.1 g3)
         ·exact .inr (h5.ic g3)
        ·exact .inl rfl
     | _=>exact h3
  bf := λj B' J _ i hi=>by
   refine⟨by simp,?_⟩;obtain⟨k,U,rfl,O⟩:=aa j B' J;simp only[St.sel,nP];rw[oA]at hi;cases hB:st.bx[k]? with
   | none=>rw[hB]at hi;simp[Bx.ren,Bx.refs]at hi
   | some B=>
     rw[hB]at hi;simp only[o3]at hi;cases B with
     | var cs=>
       simp only[Bx.ren,Bx.refs]at hi;obtain⟨p,Z,ae⟩:=PV.refsL_mem.1 hi;obtain⟨q,hq,rfl⟩:=oU.1 Z;unfold I4 at ae;split at ae
       ·rename_i q' ac;exact(yk (e:=e) ac).rf i ae
       ·simp[PV.refs]at ae
     | _=>simp[Bx.ren,Bx.refs]at hi
  inj:=λi j b hi J=>by
   obtain⟨k,U,O⟩:=I i b hi;obtain⟨l,h3,h4⟩:=I j b J;have aw:=h.inj k l b O h4;subst aw;have ax:=(oC.1 U)
   have ay:=(oC.1 h3)
   obtain⟨a7,az⟩:=ax;obtain⟨a8,a6⟩:=ay;exact(List.getElem_inj hn).1 (az.trans a6.symm)
  ku:=h.ku
  size:=h.size
  old:=h.old
  fz:=h.fz
  nd:=h.nd
  sz:=by simp[St.sel];exact h.sz
  hN:=h.hN
  hs:=λi q hi ah=>by
   rcases Y i q hi with U | ⟨p,U,O⟩
   ·exact .inl U
   ·rcases h.hs i p U ah with h3 | h3
    ·exact .inl ((yk (e:=e) O).an.1 h3)
    ·exact .inr (h3.trans (Ib O))
  so:=λi q hi ah=>by
   rcases Y i q hi with U | ⟨p,U,O⟩
   ·subst U;trivial
   ·exact(yk (e:=e) O).ok _ _ (aj p (h.so i p U ah))
  sr:=λi q hi ah k V=>by
   rcases Y i q hi with U | ⟨p,U,O⟩
   ·subst U;simp[PV.refs]at V
   ·exact⟨by simp,by simp only[St.sel,nP];exact(yk (e:=e) O).rf k V⟩
  own:=λj b J=>by
   obtain⟨k,U,O⟩:=I j b J;rcases h.own k b O with h3 | ⟨h3,h4⟩
   ·exact .inl h3
   ·exact .inr ⟨h3,by rw[al j k U h4];exact h4⟩
  avl:=h.avl
  avn:=λj b J=>by obtain⟨k,_,O⟩:=I j b J;exact h.avn k b O
  pin:=λk b hb=>by have ao:st.pins[k]?=some (some b):=hb;have V:=ai k (oC.1 ao).1;exact⟨by have:=(h.pin k b ao).1;simpa [tJ,Env.at,oA,V]using this,by simp⟩
  pit:=h.pit }
def St.canon (st:St)(K:St->Prop):Prop:=match st.pins with
 | []=>K (st.sel (sw st.bx 200 (PV.refsL st.sl) []))
 | L=>K (st.sel (List.range L.length++(sw st.bx 200 (List.range L.length++PV.refsL st.sl) []).filter (Nat.ble L.length)))
theorem IV (h:Rel av w0 e0 [] [] a w e st){K:St->Prop}(hs:st.canon K):∃ e' st',K st'/\Rel av w0 e0 [] [] a w e' st':=by
 have J:=wX (bx:=st.bx) 200 (PV.refsL st.sl) [] mV;unfold St.canon at hs;split at hs
 ·rename_i I;exact⟨_,_,hs,IY h J ⟨_,by rw[I];rfl⟩⟩
 ·rename_i I;refine⟨_,_,hs,IY h ?_ ⟨_,rfl⟩⟩;refine mi.2 ⟨List.nodup_range,(wX 200 _ [] mV).filter _,λx O y U V=>?_⟩;have Y:=List.mem_range.1 O;have Z:=mK (mD.1 U).2;omega
structure Cut where
 id:Nat
 keep:List Nat
 nils:List (Nat × TypeId × Nat):=[]
 cl:List Nat:=[]
 bnils:List (Nat × Nat × TypeId × Nat):=[]
def Nf (N0:Option Nat)(c:Cut)(st:St)(K:St->Prop):Prop:=uo N0 #[] [] c.cl c.keep st λst=>St.canon (St.bnils (St.nils (St.keep st c.keep) c.nils) c.bnils) K
theorem Bc (h:Rel av w0 e0 [] [] a w e st){N0:Option Nat}(I:NOk N0 w0){c:Cut}{K:St->Prop}(hs:Nf N0 c st K):∃ e' st',K st'/\Rel av w0 e0 [] [] a w e' st':=by obtain⟨J,T,O,_,_,U⟩:=xp h I (by simp) hs;obtain⟨e1,V⟩:=Cm c.nils _ _ (IX U c.keep);obtain⟨Z,Y⟩:=uc c.bnils _ _ V;exact IV Y O
mutual
def Di (p:PV) (K:PV->Prop):Prop:=match p with
 | .any=>K .any
 | .int k n=>K (.int k n)
 | .bool v=>K (.bool v)
 | .str v=>K (.str v)
 | .lit x=>K (.lit x)
 | .sv a z es c=>K (.sv a z es c)
 | .d x=>K (.d x)
 | .dc x=>K (.dc x)
 | .dg n x=>K (.dg n x)
 | .pb k z i o=>K (.pb k z i o)
 | .pd ad z x=>K (.pd ad z x)
 | .sb k z lo n c=>K (.sb k z lo n c)
 | .fn f caps=>qb caps λl=>K (.fn f l)
 | .pg cs=>qb cs λl=>K (.pg l)
 | .tp cs=>qb cs λl=>K (.tp l)
def qb (l:List PV) (K:List PV->Prop):Prop:=match l with
 | []=>K []
 | p::ps=>Di p λp=>qb ps λps=>K (p::ps)
end
mutual
theorem Hu:∀(p:PV) (K:PV->Prop),Di p K=K p
 | .fn f caps,K=>by simp only[Di];exact vF caps _
 | .pg cs,K=>by simp only[Di];exact vF cs _
 | .tp cs,K=>by simp only[Di];exact vF cs _
 | .any,K=>rfl
 | .int ..,K=>rfl
 | .bool ..,K=>rfl
 | .str ..,K=>rfl
 | .lit ..,K=>rfl
 | .sv ..,K=>rfl
 | .d ..,K=>rfl
 | .dc ..,K=>rfl
 | .dg ..,K=>rfl
 | .pd ..,K=>rfl
 | .pb ..,K=>rfl
 | .sb ..,K=>rfl
theorem vF:∀(l:List PV) (K:List PV->Prop),qb l K=K l
 | [],K=>rfl
 | p::ps,K=>by simp only[qb];rw[Hu,vF]
end
def Hs (B:Bx)(K:Bx->Prop):Prop:=match B with
 | .var cs=>qb cs λcs=>K (.var cs)
 | .vd x n=>K (.vd x n)
 | .arr t z es c=>K (.arr t z es c)
 | .gone=>K .gone
theorem Ht (B:Bx)(K:Bx->Prop):Hs B K=K B:=by
 cases B<;>simp only[Hs]
 exact vF _ _
def Ca (l:List Bx)(K:List Bx->Prop):Prop:=match l with
 | []=>K []
 | B::bs=>Hs B λB=>Ca bs λbs=>K (B::bs)
theorem Bf:∀(l:List Bx)(K:List Bx->Prop),Ca l K=K l
 | [],K=>rfl
 | B::bs,K=>by simp only[Ca];rw[Ht,Bf]
def qq (st:St)(K:St->Prop):Prop:=qb st.sl λsl=>Ca st.bx λbx=>K { st with sl:=sl,bx:=bx }
theorem uv (st:St)(K:St->Prop):qq st K=K st:=by simp only[qq];rw[vF,Bf]
end Go.Proofs.YtidiofobanefmaaGreatDoor
