/- A row is closed: it becomes a snapshot. -/
import Derived.Test.YtlaniepnglheoaaGreatDoorJe
set_option linter.unusedVariables false
set_option linter.unusedSimpArgs false
set_option linter.unusedSectionVars false
namespace Go.Proofs.YtlaniepnglheoaaGreatDoor
open Go
variable [Dfs] {av:Nat->Prop} {P:Program} {w0 w w':World} {e0 e:Env} {pS pS' pB:aI} {a:Act} {st st':St}
def RB (k:Nat)(s:PV)(z:Nat)(p:PV):PV:=
 match p with
 | .sb I z' lo n c=>if I=k then(if z'=z/\lo=0 then s else .any)else p
 | _=>p.kill k
def Sk (k z len c:Nat)(p:PV)(K:Prop):Prop:=
 match p with
 | .sb I z' lo n J=>if I=k/\z'=z/\lo=0 then(n=len/\J=c)/\K else K
 | _=>K
def Sl (k z len c:Nat):aN->Prop->Prop
 | [],K=>K
 | p::ps,K=>Sk k z len c p (Sl k z len c ps K)
def clo (k:Nat)(s:PV)(z:Nat)(p:PV):PV:=
 match p with
 | .pg cs=>if(PV.refsL cs).contains k then(if(cs.map (RB k s z)).all PV.notAny=true then .pg (cs.map (RB k s z))else .any)else .pg cs
 | p=>RB k s z p
def RD (k z len c:Nat):aN->Prop->Prop
 | [],K=>K
 | p::ps,K=>match p with
   | .pg cs=>Sl k z len c cs (RD k z len c ps K)
   | p=>Sk k z len c p (RD k z len c ps K)
def Bx.clo (k:Nat)(s:PV)(z:Nat):Bx->Bx
 | .var cs=>.var (cs.map (RB k s z))
 | B=>B
def RC (k z len c:Nat):aO->Prop->Prop
 | [],K=>K
 | B::bs,K=>match B with
   | .var cs=>Sl k z len c cs (RC k z len c bs K)
   | _=>RC k z len c bs K
def PV.ds1:PV->aM
 | .sv a z es c=>[.sl a z es c]
 | .d x=>[x]
 | .dc x=>[x]
 | .dg _ x=>[x]
 | _=>[]
def PV.ds:PV->aM
 | .pg cs=>cs.flatMap PV.ds1
 | p=>p.ds1
def Bx.ds:Bx->aM
 | .var cs=>cs.flatMap PV.ds1
 | .vd x _=>[x]
 | .arr _ _ es _=>[.ag es]
 | .gone=>[]
structure Fresh (N0 N:Nat) (a:aH) (ds:aM):Prop where
 lo:∀ ad,a=some ad->N0<=ad.block
 hi:∀ ad,a=some ad->ad.block<N
 off:∀ ad,a=some ad->ad.off=0
 ap:∀ ad,a=some ad->∀ d∈ds,ad.block∉d.foot
def St.clo (st:St)(k:Nat)(s:PV)(z:Nat)(N:Nat):St:={ st with sl:=st.sl.map (Proofs.YtlaniepnglheoaaGreatDoor.clo k s z),bx:=(st.bx.map (Bx.clo k s z)).set k .gone,N:=N }
def Si (N0:Option Nat)(st:St)(k:Nat)(fs fb:aI)(K:St->Prop):Prop:=
 match N0,st.bx[k]?,Nat.ble st.pins.length k with
 | some N0,some (.arr _ z es c),true=>RD k z es.length c st.sl (RC k z es.length c st.bx (∀ a N,st.N<=N ->
  Fresh N0 N a (.ag es::(fs.flatMap λi=>(st.sl.getD i .any).ds)++fb.flatMap λj=>if j=k then []else(st.bx.getD j .gone).ds)->K (st.clo k (.sv a z es c) z N)))
 | _,_,_=>False
def NOk N0(w0:World):=∀ n,N0=some n->n=w0.heap.size
def OD k z len c(p:PV):=∀ n I,p=.sb k z 0 n I->n=len/\I=c
theorem JX {k z len c p K}(h:Sk k z len c p K):OD k z len c p/\K:=by
 cases p<;>simp only[Sk]at h<;>try exact⟨λ_ _ h=>(by cases h),h⟩
 split at h
 ·rename_i hc;exact⟨λn J I=>by cases I;exact h.1,h.2⟩
 ·rename_i hc;exact⟨λn J I=>by cases I;exact absurd ⟨rfl,rfl,rfl⟩ hc,h⟩
theorem D3 {k z len c}:∀ {ps:aN}{K:Prop},Sl k z len c ps K->(∀ p∈ps,OD k z len c p)/\K
 | [],K,h=>⟨aB,h⟩
 | p::ps,K,h=>by simp only[Sl]at h;obtain⟨I,J⟩:=JX h;obtain⟨O,U⟩:=D3 J;exact⟨λq hq=>by rcases oK.1 hq with rfl | hq;exact I;exact O q hq,U⟩
def ZG k z len c p:=OD k z len c p/\∀ cs,p=.pg cs->∀ q∈cs,OD k z len c q
theorem D4 {k z len c}:∀ {ps:aN}{K:Prop},RD k z len c ps K->(∀ p∈ps,ZG k z len c p)/\K
 | [],K,h=>⟨aB,h⟩
 | p :: ps,K,h=>by
   have go:Sk k z len c p (RD k z len c ps K)->(∀ cs,p≠.pg cs)->(∀ q∈p::ps,ZG k z len c q)/\K:=λh Y=>by
    obtain⟨I,J⟩:=JX h;obtain⟨O,U⟩:=D4 J;exact⟨λq hq=>by
     rcases oK.1 hq with rfl | hq
     ·exact⟨I,λcs hc=>absurd hc (Y cs)⟩
     ·exact O q hq,U⟩
   cases p
   case pg cs=>
    simp only[RD]at h;obtain⟨I,J⟩:=D3 h;obtain⟨O,U⟩:=D4 J;exact⟨λq hq=>by
     rcases oK.1 hq with rfl | hq
     ·exact⟨λ_ _ h=>(by cases h),λcs' hc=>by cases hc;exact I⟩
     ·exact O q hq,U⟩
   all_goals exact go h (λ_ h=>by cases h)
theorem D2 {k z len c}:∀ {bs:aO}{K:Prop},RC k z len c bs K->(∀ cs,Bx.var cs∈bs->∀ q∈cs,OD k z len c q)/\K
 | [],K,h=>⟨aB,h⟩
 | B :: bs,K,h=>by
   cases B
   case var cs=>
    simp only[RC]at h;obtain⟨O,U⟩:=D3 h;obtain⟨I,J⟩:=D2 U;exact⟨λcs' hq=>by
     rcases oK.1 hq with hq | hq
     ·cases hq;exact O
     ·exact I cs' hq,J⟩
   all_goals
    simp only[RC]at h;obtain⟨I,J⟩:=D2 h;exact⟨λcs' hq=>by
     rcases oK.1 hq with hq | hq
     ·cases hq
     ·exact I cs' hq,J⟩
structure Clo (k:Nat) (w:World) (e:Env) (live:Nat->Prop) (p q:PV):Prop where
 v:q=.any\/p.val e=q.val e
 v1:q=.any\/p.cv e=q.cv e
 ok:p.Ok w live->q.Ok w live
 rf:∀ j∈q.refs,j∈p.refs/\j≠k
 c:p.isC->q=.any\/q.isC
theorem VD {k live p}:Clo k w e live p (p.kill k):=by
 rcases PV.kill_cases k p with h | ⟨h,J⟩
 ·rw[h];exact⟨.inl rfl,.inl rfl,λ_=>trivial,by simp[PV.refs],λ_=>.inl rfl⟩
 ·rw[h];exact⟨.inr rfl,.inr rfl,id,λj I=>⟨I,λhc=>J (hc ▸ I)⟩,λh=>.inr h⟩
theorem Gx {k z c es live}(hg:Good w live (.sl ((e.at k).map λb=>⟨b,0,none⟩) z es c)){p}(hc:OD k z es.length c p) :
  Clo k w e live p (RB k (.sv ((e.at k).map λb=>⟨b,0,none⟩) z es c) z p):=by
 cases p
 case sb I z' lo n J=>
  simp only[RB];split
  ·rename_i O;subst O;split
   ·rename_i hz;obtain⟨rfl,rfl⟩:=hz;obtain⟨rfl,rfl⟩:=hc n J rfl;have hv:(PV.sb I z' 0 es.length J).cv e=(PV.sv ((e.at I).map λb=>⟨b,0,none⟩) z' es J).cv e:=by cases U:e.at I<;>simp[PV.cv,U]
    exact⟨.inr hv,.inr hv,λ_=>hg,by simp[PV.refs],λ_=>.inr trivial⟩
   ·exact⟨.inl rfl,.inl rfl,λ_=>trivial,by simp[PV.refs],λ_=>.inl rfl⟩
  ·rename_i O;exact⟨.inr rfl,.inr rfl,id,λj Y=>⟨Y,λhc=>by simp[PV.refs]at Y;exact O (Y ▸ hc)⟩,λh=>.inr h⟩
 all_goals exact VD
theorem Kp {k z c es live}(hg:Good w live (.sl ((e.at k).map λb=>⟨b,0,none⟩) z es c)){p}(hc:ZG k z es.length c p)(J:p.Ok w live) :
  (clo k (.sv ((e.at k).map λb=>⟨b,0,none⟩) z es c) z p=.any\/p.val e=(clo k (.sv ((e.at k).map λb=>⟨b,0,none⟩) z es c) z p).val e) /\
  (clo k (.sv ((e.at k).map λb=>⟨b,0,none⟩) z es c) z p).Ok w live/\∀ j∈(clo k (.sv ((e.at k).map λb=>⟨b,0,none⟩) z es c) z p).refs,j∈p.refs/\j≠k:=by
 generalize hs:PV.sv ((e.at k).map λb=>⟨b,0,none⟩) z es c=s;cases p
 case pg cs=>
  simp only[clo];split
  ·split
   ·rename_i aa;have O:∀ q∈cs,Clo k w e live q (RB k s z q):=λq I=>by rw[<-hs];exact Gx hg (hc.2 cs rfl q I)
    have ab:∀ q∈cs,RB k s z q≠.any:=λq I he=>by
     have:=ob.1 aa (RB k s z q) (oT.2 ⟨q,I,rfl⟩)
     rw[he]at this;simp[PV.notAny]at this
    simp only[PV.Ok,PV.OkL_iff]at J;refine⟨.inr ?_,?_,?_⟩
    ·simp only[PV.val,PV.val1,PV.cvs_eq,mO];congr 2;exact nF λq I=>(O q I).v1.resolve_left (ab q I)
    ·simp only[PV.Ok,PV.OkL_iff];refine⟨λq I=>?_,λq I=>?_⟩
     ·obtain⟨r,U,rfl⟩:=oT.1 I;exact(O r U).ok (J.1 r U)
     ·obtain⟨r,U,rfl⟩:=oT.1 I;exact((O r U).c (J.2 r U)).resolve_left (ab r U)
    ·intro j Y;simp only[PV.refs]at Y ⊢;obtain⟨q,I,ac⟩:=PV.refsL_mem.1 Y;obtain⟨r,U,rfl⟩:=oT.1 I
     have:=(O r U).rf j ac
     exact⟨PV.refsL_mem.2 ⟨r,U,this.1⟩,this.2⟩
   ·exact⟨.inl rfl,trivial,by simp[PV.refs]⟩
  ·rename_i hk;refine⟨.inr rfl,J,λj Y=>⟨Y,λae=>hk ?_⟩⟩;simp only[PV.refs]at Y;simpa using ae ▸ Y
 all_goals
  have:=Gx hg hc.1
  rw[hs]at this;exact⟨this.v,this.ok J,this.rf⟩
theorem T2 (h:Rel av w0 e0 pS pB a w e st){k z c t es}(hk:st.bx[k]?=some (.arr t z es c))(ah:k∉pB)(hS:∀ p∈st.sl,ZG k z es.length c p)(hB:∀ cs,Bx.var cs∈st.bx->∀ q∈cs,OD k z es.length c q) :
  Rel av w0 e0 pS pB a w e (st.clo k (.sv ((e.at k).map λb=>⟨b,0,none⟩) z es c) z w.heap.size):=by
 have aq:k<st.bx.length:=(oD.1 hk).1;generalize hs:PV.sv ((e.at k).map λb=>(⟨b,0,none⟩:Addr)) z es c=s;have ab:∀(j:Nat) (B':Bx),((st.bx.map (Bx.clo k s z)).set k .gone)[j]?=some B'->(j=k/\B'=.gone)\/(j≠k/\∃ B,st.bx[j]?=some B/\B'=B.clo k s z):=λj B' hj=>by
  rw[nU]at hj;split at hj
  ·rename_i hh;subst hh;split at hj
   ·simp at hj;exact .inl ⟨rfl,hj.symm⟩
   ·cases hj
  ·rename_i hh;rw[oF]at hj;cases hB:st.bx[j]? with
   | none=>simp[hB]at hj
   | some B=>simp[hB]at hj;exact .inr ⟨λhc=>hh hc.symm,B,rfl,hj.symm⟩
 have I:∀ j b,Lives pB e ((st.bx.map (Bx.clo k s z)).set k .gone) j b->j≠k/\Lives pB e st.bx j b:=λj b ⟨h1,h2,B',h3,h4⟩=>by
  rcases ab j B' h3 with⟨_,rfl⟩ | ⟨hj,B,J,rfl⟩
  ·exact absurd rfl h4
  ·refine⟨hj,h1,h2,B,J,λhg=>h4 ?_⟩;subst hg;rfl
 have U:∀ b,za av pB e ((st.bx.map (Bx.clo k s z)).set k .gone) b->za av pB e st.bx b:=λb hb=>hb.imp id λ⟨j,hj⟩=>⟨j,(I j b hj).2⟩
 have Y:∀ p:PV,p.Ok w (za av pB e st.bx)->p.Ok w (za av pB e ((st.bx.map (Bx.clo k s z)).set k .gone)):=λp=>PV.Ok.mono (λ_ _ _=>rfl) (oC _) (λb _=>U b) p;have hg:Good w (za av pB e ((st.bx.map (Bx.clo k s z)).set k .gone)) (.sl ((e.at k).map λb=>⟨b,0,none⟩) z es c):=by
  have hr:=h.br k _ hk ah;have ho:=h.bo k _ hk ah;have ai:∀ x∈es,Good w (za av pB e ((st.bx.map (Bx.clo k s z)).set k .gone)) x:=λx hx=>(ho x hx).mono (λ_ _ _=>rfl) λb _=>U b;rcases hr with⟨g1,g2,g3⟩ | ⟨b,cc,g1,g2,g3,g4,g5,g6,g7⟩
  ·subst g2;subst g3;rw[g1];exact⟨.nil,by simp[D.foot,zC]⟩
  ·rw[g1];refine⟨.sl (λ_=>rfl) g4 g6 (λx hx=>(ai x hx).1) (.inr ⟨cc,t,z00,g2,λi u hu=>by simpa using g7 i u hu⟩),λj hj ac=>?_⟩;simp only[oX,D.foot]at hj;split at hj
   ·simp at hj
   ·rcases oK.1 hj with rfl | hj
    ·have aj:Lives pB e st.bx k j:=⟨ah,g1,_,hk,aB⟩
     rcases ac with ac | ⟨i,hi⟩
     ·exact h.avn k j aj ac
     ·obtain⟨h1,h2⟩:=I i _ hi;exact h1 (h.inj i k _ h2 aj)
    ·obtain⟨x,hx,al⟩:=zJ.1 hj;exact(ai x hx).2 j al ac
 have aa:∀(i:Nat) (q:PV),(st.sl.map (clo k s z))[i]?=some q->∃ p,st.sl[i]?=some p/\q=clo k s z p/\ZG k z es.length c p:=λi q hi=>by
  rw[oF]at hi;cases hp:st.sl[i]? with
  | none=>simp[hp]at hi
  | some p=>simp[hp]at hi;exact⟨p,rfl,hi.symm,hS p (oB hp)⟩
 have O:∀(j:Nat) (cs:aN),st.bx[j]?=some (.var cs)->∀ q∈cs,Clo k w e (za av pB e ((st.bx.map (Bx.clo k s z)).set k .gone)) q (RB k s z q):=λj cs hj q hq=>by rw[<-hs];rw[<-hs]at hg;exact Gx hg (hB cs (oB hj) q hq)
 exact {
  el:=by simp[St.clo,h.el]
  br := λj B' hj hn=>by
   rcases ab j B' hj with⟨_,rfl⟩ | ⟨ak,B,J,rfl⟩
   ·exact True.intro
   ·have h6:=h.br j B J hn;cases B with
    | var cs=>
      obtain⟨b,cc,tt,h1,h2,h3,h4⟩:=h6;refine⟨b,cc,tt,h1,h2,by simpa using h3,λi p hp=>?_⟩;rw[oF]at hp;cases ae:cs[i]? with
      | none=>simp[ae]at hp
      | some q=>
        simp[ae]at hp;subst hp;rcases h4 i q ae with h7 | h7
        ·subst h7;exact .inl rfl
        ·rcases(O j cs J q (oB ae)).v1 with h8 | h8
         ·exact .inl h8
         ·exact .inr (by rw[<-h8];exact h7)
    | _=>exact h6
  bo:=λj B' hj hn=>by
   rcases ab j B' hj with⟨_,rfl⟩ | ⟨ak,B,J,rfl⟩
   ·exact True.intro
   ·have h6:=(h.bo j B J hn).mono (w':=w) (live':=za av pB e ((st.bx.map (Bx.clo k s z)).set k .gone)) (λ_ _ _=>rfl) (oC _) (λb _=>U b);cases B with
    | var cs=>
      obtain⟨h7,h8⟩:=h6;rw[PV.OkL_iff]at h7;refine⟨PV.OkL_iff.2 λp hp=>?_,λp hp=>?_⟩
      ·obtain⟨q,hq,rfl⟩:=oT.1 hp;exact(O j cs J q hq).ok (h7 q hq)
      ·obtain⟨q,hq,rfl⟩:=oT.1 hp;rcases h8 q hq with h9 | h9
       ·subst h9;exact .inl rfl
       ·exact(O j cs J q hq).c h9
    | _=>exact h6
  bf:=λj B' hj hn i hi=>by
   simp only[St.clo,nf,nE];rcases ab j B' hj with⟨_,rfl⟩ | ⟨ak,B,J,rfl⟩
   ·simp[Bx.refs]at hi
   ·cases B with
    | var cs=>simp only[Bx.clo,Bx.refs]at hi;obtain⟨p,hp,ao⟩:=PV.refsL_mem.1 hi;obtain⟨q,hq,rfl⟩:=oT.1 hp;exact h.bf j _ J hn i (by simp only[Bx.refs];exact PV.refsL_mem.2 ⟨q,hq,((O j cs J q hq).rf i ao).1⟩)
    | _=>exact h.bf j _ J hn i hi
  inj:=λi j b hi hj=>h.inj i j b (I i b hi).2 (I j b hj).2
  ku:=h.ku
  size:=h.size
  old:=h.old
  fz:=h.fz
  nd:=h.nd
  sz:=by simp[St.clo];exact h.sz
  hN:=oC _
  hs:=λi q hi hn=>by
   obtain⟨p,h1,rfl,h3⟩:=aa i q hi;have h4:=Y p (h.so i p h1 hn);rw[<-hs]at hg h4;have J:=Kp hg h3 h4;rw[hs]at J;rcases J.1 with h6 | h6
   ·exact .inl h6
   ·rcases h.hs i p h1 hn with h7 | h7
    ·subst h7;left;simp[clo,RB,PV.kill,PV.refs]
    ·exact .inr (h7.trans h6)
  so:=λi q hi hn=>by obtain⟨p,h1,rfl,h3⟩:=aa i q hi;have h4:=Y p (h.so i p h1 hn);rw[<-hs]at hg h4;have J:=Kp hg h3 h4;rw[hs]at J;exact J.2.1
  sr:=λi q hi hn j hj=>by
   obtain⟨p,h1,rfl,h3⟩:=aa i q hi;have h4:=Y p (h.so i p h1 hn);rw[<-hs]at hg h4;have J:=Kp hg h3 h4;rw[hs]at J
   have:=h.sr i p h1 hn j (J.2.2 j hj).1
   exact⟨this.1,by simp[St.clo];exact this.2⟩
  own:=λj b hj=>h.own j b (I j b hj).2
  avl:=h.avl
  avn:=λj b hj=>h.avn j b (I j b hj).2
  pin:=h.pin
  pit:=h.pit }
theorem Ku {live}{p:PV}(h:p.Ok w live):∀ d∈p.ds1,Good w live d:=by
 cases p<;>simp[PV.ds1]<;>simp only[PV.Ok]at h
 ·exact h
 ·exact h
 ·exact h.1
 ·exact h.1
theorem Xt {live}{p:PV}(h:p.Ok w live):∀ d∈p.ds,Good w live d:=by
 cases p
 case pg cs=>simp only[PV.Ok,PV.OkL_iff]at h;intro d hd;simp only[PV.ds]at hd;obtain⟨q,I,hd⟩:=mJ.1 hd;exact Ku (h.1 q I) d hd
 all_goals exact Ku h
theorem U0 {live}{B:Bx}(h:B.Ok w live):∀ d∈B.ds,Good w live d:=by
 cases B with
 | var cs=>have I:=h.1;rw[PV.OkL_iff]at I;intro d hd;simp only[Bx.ds]at hd;obtain⟨q,J,hd⟩:=mJ.1 hd;exact Ku (I q J) d hd
 | vd x n=>simp only[Bx.ds];intro d hd;simp at hd;subst hd;exact h
 | arr t z es c=>simp only[Bx.ds];intro d hd;simp at hd;subst hd;exact Good.ag h
 | gone=>simp[Bx.ds]
theorem MX (h:Rel av w0 e0 pS pB a w e st){N0}(ab:NOk N0 w0){k}(U:k∉pB){fs fb}(ac:∀ i∈fs,i∉pS)(ae:∀ i∈fb,i∉pB){K}(hs:Si N0 st k fs fb K) :
  ∃ s z N,K (st.clo k s z N)/\Rel av w0 e0 pS pB a w e (st.clo k s z N)/\s.refs=[]:=by
 unfold Si at hs;split at hs
 rotate_left
 ·exact hs.elim
 rename_i n0 t z es c hk aa;have aa:=mj aa;obtain rfl:=ab _ rfl;obtain⟨h1,hs⟩:=D4 hs;obtain⟨h2,hs⟩:=D2 hs;refine⟨_,_,_,hs ((e.at k).map λb=>⟨b,0,none⟩) w.heap.size h.hN ?_,T2 h hk U h1 h2,rfl⟩;have O:∀ ad,((e.at k).map λb=>(⟨b,0,none⟩:Addr))=some ad->ad.off=0/\Lives pB e st.bx k ad.block:=λad I=>by
  cases Y:e.at k with
  | none=>simp[Y]at I
  | some b=>simp[Y]at I;subst I;exact⟨rfl,U,Y,_,hk,aB⟩
 have J:∀ b,Lives pB e st.bx k b->∀ d,Good w (za av pB e st.bx) d->b∉d.foot:=λb hl d hd hc=>hd.2 b hc (.inr ⟨k,hl⟩);refine⟨λad I=>?_,λad I=>Lives.lt h.toMem (O ad I).2,λad I=>(O ad I).1,λad I d hd=>?_⟩
 ·rcases h.own k _ (O ad I).2 with h3 | h3
  ·exact h3
  ·omega
 ·have J:=J _ (O ad I).2;simp only[oq]at hd;rcases oK.1 hd with rfl | hd
  ·exact J _ (Good.ag (h.bo k _ hk U))
  ·rcases oM.1 hd with hd | hd
   ·obtain⟨i,hi,hd⟩:=mJ.1 hd;cases hp:st.sl[i]? with
    | none=>rw[oA,hp]at hd;simp[PV.ds,PV.ds1]at hd
    | some p=>rw[oA,hp]at hd;exact J d (Xt (h.so i p hp (ac i hi)) d hd)
   ·obtain⟨j,hj,hd⟩:=mJ.1 hd;split at hd
    ·simp at hd
    ·cases hB:st.bx[j]? with
     | none=>rw[oA,hB]at hd;simp[Bx.ds]at hd
     | some B=>rw[oA,hB]at hd;exact J d (U0 (h.bo j B hB (ae j hj)) d hd)
variable {av:Nat->Prop} {P:Program} {w0 w w':World} {e0 e:Env} {pS pS' pB:aI} {a:Act} {st st':St}
def zy (P:Program):List aK->aN->aN
 | t::ts,p::ps=>retag P t p::zy P ts ps
 | _,ps=>ps
def ZB (P:Program)(p:PV):List aK:=
 match p with
 | .fn f _=>match P.funcs[f]? with
   | some fn=>fn.params.toList
   | none=>[]
 | _=>[]
theorem wb:∀(ts:List aK)(ps:aN),(zy P ts ps).length=ps.length
 | [],ps=>rfl
 | t::ts,[]=>rfl
 | t::ts,p::ps=>by simp[zy,wb ts ps]
theorem qE:∀(ts:List aK)(ps:aN)(i:Nat)(q:PV),(zy P ts ps)[i]?=some q->∃ p,ps[i]?=some p/\(q=p\/∃ t,q=retag P t p)
 | [],ps,i,q,h=>⟨q,h,.inl rfl⟩
 | t::ts,[],i,q,h=>by simp[zy]at h
 | t::ts,p::ps,i,q,h=>by
   cases i with
   | zero=>simp[zy]at h;exact⟨p,rfl,.inr ⟨t,h.symm⟩⟩
   | succ i=>simp[zy]at h;simpa using qE ts ps i q h
def zBs:List Sh->Option (List Sh)
 | .row _ z::l=>match Nat.beq z 1000007 with
   | true=>some l
   | false=>none
 | _=>none
def Zf (P:Program)(sh:aL->List Sh)(st:St)(dst:Option Nat)(x:Operand)(args:aN)(K:St->Prop):Prop:=
 match X3 (opd st.sl x)with
 | some (f,_)=>match zBs (sh f)with
   | some rs=>Ze P rs st dst x args K
   | none=>Xk P sh st dst x args K
 | none=>False
def Xl (sh:aL->List Sh)(st:St)(x:Operand)(args:aN):aI:=
 match X3 (opd st.sl x)with
 | some (f,caps)=>match zBs (sh f)with
   | some _=>C2 st.bx 200 (PV.refsL (args++caps)) []
   | none=>[]
 | none=>[]
def zBF (P:Program)(sh:aL->List Sh)(o:Oper)(st:St)(K:St->Prop):Prop:=
 match o.op with
 | .store t x y=>stF P (opd st.sl) (λk=>st.bx[k]?) t x y λk B=>K (St.put { st with bx:=st.bx.set k B } o.dst (.tp []))
 | .call c=>match c.callee with
   | .builtin .append=>match c.args.toList,c.argTypes.toList with
     | [x,y],[t,t']=>if t=t' then apF false P st o.dst t x y K else match P.underlying t' with
       | some .string=>UP P st o.dst t t' x y K
       | _=>YI P st o.dst t t' x y K
     | _,_=>False
   | .builtin .clear=>match c.args.toList,c.argTypes.toList with
     | [x],[t]=>Sg P st o.dst t x K
     | _,_=>False
   | .builtin .cap=>match c.args.toList,c.argTypes.toList with
     | [x],[t]=>match P.underlying t,zBk (opd st.sl x)with
       | some (.slice _),some n=>K (st.put o.dst (.int .i64 n))
       | _,_=>False
     | _,_=>False
   | .value x=>Zf P sh st o.dst x (zy P (ZB P (opd st.sl x)) (c.args.toList.map (opd st.sl))) K
   | _=>False
 | _=>False
def ET (P:Program) (sh:aL->List Sh) (o:Oper) (st:St):aI:=
 match o.op with
 | .store t x y=>match opd st.sl x with
   | .pb k _ _ _=>[k]
   | _=>[]
 | .call c=>match c.callee with
   | .builtin .append=>match c.args.toList,c.argTypes.toList with
     | [x,y],[t,t']=>match retag P t (opd st.sl x)with
       | .sb k _ _ _ _=>[k]
       | _=>[]
     | _,_=>[]
   | .builtin .clear=>match c.args.toList with
     | [x]=>match opd st.sl x with
       | .sb k _ _ _ _=>[k]
       | _=>[]
     | _=>[]
   | .value x=>Xl sh st x (zy P (ZB P (opd st.sl x)) (c.args.toList.map (opd st.sl)))
   | _=>[]
 | _=>[]
def Uv (st:St)(T:aI):aI:=T.filter λk=>(st.bx.getD k .gone).isArr
theorem Uw {T}:∀ k∈Uv st T,k∈T:=λk h=>(mM.1 h).1
structure Stp (T TA:aI) (dst:Option Nat) (st st':St):Prop where
 sl:∀(i:Nat) (p:PV),some i≠dst->st.sl[i]?=some p->(∀ k∈TA,k∉p.refs)->st'.sl[i]?=some p
 bx:∀(k:Nat) (B:Bx),st.bx[k]?=some B->k∉T->(∀ j∈T,j∉B.refs)->st'.bx[k]?=some B
 bl:st.bx.length<=st'.bx.length
 ll:st'.sl.length=st.sl.length
theorem Stp.rfl' {T TA dst}:Stp T TA dst st st:=⟨λ_ _ _ h _=>h,λ_ _ h _ _=>h,oC _,rfl⟩
theorem Stp.put {T TA dst}(h:Stp T TA dst st st') p:Stp T TA dst st (st'.put dst p):=by
 cases dst with
 | none=>exact h
 | some d=>refine⟨λi q hi I J=>?_,λk B O U Y=>h.bx k B O U Y,h.bl,by simp[St.put,h.ll]⟩;simp only[St.put];rw[nH (λhc=>hi (by rw[hc]))];exact h.sl i q hi I J
theorem Stp.app {T TA dst}(h:Stp T TA dst st st') rows N:Stp T TA dst st { st' with bx:=st'.bx++rows,N:=N }:=by
 refine⟨h.sl,λk B I J O=>?_,by simp;have:=h.bl;omega,h.ll⟩
 have:=h.bx k B I J O
 simp only;rw[oQ (oD.1 this).1];exact this
theorem Stp.set {T TA dst}(h:Stp T TA dst st st'){k}(J:k∈T) B:Stp T TA dst st { st' with bx:=st'.bx.set k B }:=by refine⟨h.sl,λj C O I U=>?_,by simp;exact h.bl,h.ll⟩;simp only;rw[nH (λhc=>I (by rw[<-hc];exact J))];exact h.bx j C O I U
theorem HE {k}{p:PV}(h:k∉p.refs):p.kill k=p:=by simp[PV.kill,h]
theorem Stp.kill {T TA dst}(h:Stp T TA dst st st'){k}(U:k∈T)(Y:k∈TA):Stp T TA dst st (st'.kill k):=by
 refine⟨λi p hi I J=>?_,λj C hj h1 O=>?_,by simp[St.kill];exact h.bl,by simp[St.kill,h.ll]⟩
 ·simp only[St.kill,oF,h.sl i p hi I J,oX,HE (J k Y)]
 ·simp only[St.kill,oF,h.bx j C hj h1 O,oX];congr 1;cases C with
  | var cs=>
    simp only[Bx.kill];congr 1
    conv=>rhs;rw[<-lV cs]
    refine nF λp I=>HE λhc=>O k U ?_;simp only[Bx.refs];exact PV.refsL_mem.2 ⟨p,I,hc⟩
  | _=>rfl
theorem Hl {T TA dst bx}:∀(ks:aI)(st':St),(∀ k∈ks,k∈T)->(∀ k∈ks,(bx.getD k .gone).isArr=true->k∈TA)->Stp T TA dst st st'->Stp T TA dst st (wu bx ks st')
 | [],st',_,_,h=>h
 | k::ks,st',J,O,h=>by
   simp only[wu];split
   ·rename_i hc;exact Hl ks _ (λj I=>J j (by simp[I])) (λj I=>O j (by simp[I])) (h.kill (J k aB) (O k aB hc))
   ·exact Hl ks _ (λj I=>J j (by simp[I])) (λj I=>O j (by simp[I])) h
theorem zAZ {dst} ks nb rows N:Stp ks (Uv st ks) dst st (zBH st ks nb rows N):=by
 have I:=Hl (dst:=dst) (bx:=st.bx) ks st (λ_ h=>h) (λk J hc=>mM.2 ⟨J,hc⟩) Stp.rfl';refine Stp.app (st':={ wu st.bx ks st with bx:=bxN ks (nb.map (Bx.mapR λj=>ks.getD j 0)) 0 (wu st.bx ks st).bx }) ⟨I.sl,λk B J O U=>?_,by simp only[xh];exact I.bl,I.ll⟩ rows N;have Y:=I.bx k B J O U;simp only[OI,Y,oX,nI];cases hp:pos ks k with
 | none=>rfl
 | some j=>exact absurd (oB (Ai hp)) O
theorem UL {ρ rb t x y K}(h:stF P ρ rb t x y K):stF P ρ rb t x y λk B=>(∃ z i o,ρ x=.pb k z i o)/\K k B:=by
 unfold stF at h ⊢;split at h
 ·rename_i z k zz i o J I;split at h
  ·rename_i B O;have:(λB=>(∃ z i o,ρ x=.pb k z i o)/\K k B)=K k:=by funext B;exact propext ⟨λh=>h.2,λh=>⟨⟨_,_,_,I⟩,h⟩⟩
   show Rl z zz B i o (retag P t (ρ y)) (λB=>(∃ z i o,ρ x=.pb k z i o)/\K k B);rw[this];exact h
  ·exact h.elim
 ·exact h.elim
theorem R5 {g dst t x y K T}(I:T=match retag P t (opd st.sl x)with | .sb k _ _ _ _=>[k] | _=>[])(h:apF g P st dst t x y K) :
  apF g P st dst t x y λst'=>Stp T (Uv st T) dst st st'/\K st':=by
 have mono:∀(q:PV) (R R':Nat->aM->Prop),(∀ z l,R z l->R' z l)->Qw g (λk=>st.bx[k]?) q R->Qw g (λk=>st.bx[k]?) q R':=λq R R' U h=>by
  unfold Qw at h ⊢;split at h
  ·rename_i k z lo n c;simp only;split at h
   ·rename_i J;simp only[J];split at h
    ·split at h
     ·rename_i hc;rw[if_pos hc];exact U _ _ h
     ·exact h.elim
    ·split at h
     ·rename_i hc;rw[if_pos hc];exact⟨h.1,U _ _ h.2⟩
     ·exact h.elim
   ·exact h.elim
  ·exact U _ _ h
  ·exact h.elim
 unfold apF at h ⊢;split at h
 rotate_left
 ·exact h.elim
 rename_i el Y
 try simp only[Y]
 split at h
 rotate_left
 ·exact h.elim
 rename_i z i hz hi
 try simp only[hz,hi]
 split at h
 ·exact h.elim
 rename_i hb;rw[if_neg hb];refine mono _ _ _ (λz2 new h=>?_) h;split at h
 rotate_left
 ·exact h.elim
 rename_i aa;rw[if_pos aa];split at h
 ·rename_i k z1 lo n c O;rw[O]at I;simp only at I
  try simp only[O]
  split at h
  ·exact h.elim
  rename_i ab
  try simp only[ab]
  split at h
  ·rename_i t' z' es c' J
   try simp only[J]
   split at h
   ·rename_i hc;rw[if_pos hc];refine⟨h.1,h.2.1,λc2=>(h.2.2 c2).mono λh=>⟨?_,h⟩⟩;refine Stp.put (Stp.set (st':=st.kill k) (Stp.kill Stp.rfl' (by rw[I];simp) (by rw[I];simp[Uv,oA,J,Bx.isArr])) (by rw[I];simp) _) _
   ·exact h.elim
  ·exact h.elim
 ·rename_i ad z1 es c O
  try simp only[O]
  split at h
  ·rename_i hc;rw[if_pos hc];refine⟨h.1,h.2.1,λc2=>⟨?_,h.2.2 c2⟩⟩;exact Stp.put (Stp.app Stp.rfl' _ _) _
  ·exact h.elim
 ·exact h.elim
theorem VX (h:Rel av w0 e0 pS pB a w e st)(ac:∀ k∈pB,k<st.bx.length){sh o K}(hx:∀ x∈o.op.operands,∀ t,x=.tmp t->t∉pS)(aa:∀ i,i∈pS->some i≠o.dst->i∈pS')(hs:zBF P sh o st K){next Q}(hn:∀ v w' e' st',K st'->Stp (ET P sh o st) (Uv st (ET P sh o st)) o.dst st st'->Rel av w0 e0 pS' pB (a.put o.dst v) w' e' st'->next (a.put o.dst v) w'):o.wp P a w next Q:=by
 unfold zBF at hs;split at hs
 ·rename_i t x y J;have Y:ET P sh o st=match opd st.sl x with | .pb k _ _ _=>[k] | _=>[]:=by simp only[ET,J]
  rw[J]at hx;simp only[Op.operands]at hx;obtain⟨w',k,B',h1,⟨⟨z,i,oo,hk⟩,h2⟩,h3⟩:=UK h (hx x aB) (hx y aB) (UL hs);have O:(execOp a.eval o).run P w=.ok .skip w':=by obtain⟨dst,op,ty,pos,after,guard⟩:=o;simp only at J;subst J;simp[execOp,h1]
  unfold Oper.wp;rw[O,Oper.upon_skip];refine hn undef w' e _ h2 ?_ (wE h3 ⟨.inr rfl,by simp[PV.Ok,PV.OkL],by simp[PV.refs,PV.refsL]⟩ aa);rw[Y,hk];exact Stp.put (Stp.set Stp.rfl' aB _) _
 ·rename_i c J;rw[J]at hx;simp only[Op.operands,Call.operands]at hx;split at hs
  ·rename_i hc;split at hs
   ·rename_i x y t t' I U;split at hs
    rotate_left
    ·have hm:∀ z,z∈[x,y]->z∈c.args:=λz hz=>by rw[<-I]at hz;exact nB.1 hz
     split at hs
     ·skip
      obtain⟨v,w',e',st',h1,h3,h4,k,z,lo,n,cc,B,q,hq,⟨t1,z1,ay,c1,hk⟩,h2⟩:=PH h (ty:=o.type) (hx x (by simp[hm])) (hx y (by simp[hm])) aa hs;have ea:c.args=#[x,y]:=by rw[<-nc,I]
      have et:c.argTypes=#[t,t']:=by rw[<-nc,U]
      have O:(execOp a.eval o).run P w=.ok (.value v) w':=by obtain⟨dst,op,ty,pos,after,guard⟩:=o;simp only at J h1;subst J;simp[execOp,resolve,hc,invoke,builtin,ea,et,h1]
      unfold Oper.wp;rw[O,Oper.upon_value];refine hn v w' e' st' h3 ?_ h4;rw[h2];have Y:ET P sh o st=[k]:=by simp only[ET,J,hc,I,U,hq]
      rw[Y];exact Stp.put (Stp.set (st':=st.kill k) (Stp.kill Stp.rfl' aB (by simp[Uv,oA,hk,Bx.isArr])) aB _) _
     ·skip
      obtain⟨v,w',e',st',h1,h3,h4,rows,q,h2⟩:=RR h ac (ty:=o.type) (hx x (by simp[hm])) (hx y (by simp[hm])) aa hs;have ea:c.args=#[x,y]:=by rw[<-nc,I]
      have et:c.argTypes=#[t,t']:=by rw[<-nc,U]
      have O:(execOp a.eval o).run P w=.ok (.value v) w':=by obtain⟨dst,op,ty,pos,after,guard⟩:=o;simp only at J h1;subst J;simp[execOp,resolve,hc,invoke,builtin,ea,et,h1]
      unfold Oper.wp;rw[O,Oper.upon_value];refine hn v w' e' st' h3 ?_ h4;rw[h2];exact Stp.put (Stp.app (N:=st.N) Stp.rfl' rows) q
    rename_i ao;subst ao;have hm:∀ z,z∈[x,y]->z∈c.args:=λz hz=>by rw[<-I]at hz;exact nB.1 hz
    have Y:ET P sh o st=match retag P t (opd st.sl x)with | .sb k _ _ _ _=>[k] | _=>[]:=by simp only[ET,J,hc,I,U]
    obtain⟨v,w',e',st',h1,⟨h2,h3⟩,h4⟩:=R4 h ac (ty:=o.type) (hx x (by simp[hm])) (hx y (by simp[hm])) aa (R5 Y hs);have ea:c.args=#[x,y]:=by rw[<-nc,I]
    have et:c.argTypes=#[t,t]:=by rw[<-nc,U]
    have O:(execOp a.eval o).run P w=.ok (.value v) w':=by obtain⟨dst,op,ty,pos,after,guard⟩:=o;simp only at J h1;subst J;simp[execOp,resolve,hc,invoke,builtin,ea,et,h1]
    unfold Oper.wp;rw[O,Oper.upon_value];exact hn v w' e' st' h3 h2 h4
   ·exact hs.elim
  ·rename_i hc;split at hs
   ·rename_i x t I U;have hm:∀ z,z∈[x]->z∈c.args:=λz hz=>by rw[<-I]at hz;exact nB.1 hz
    obtain⟨v,w',st',h1,h3,h4,k,B,⟨z,lo,n,cc,hk⟩,h2⟩:=OW h (ty:=o.type) (hx x (by simp[hm])) aa hs;have Y:ET P sh o st=[k]:=by simp only[ET,J,hc,I,hk]
    have ea:c.args=#[x]:=by rw[<-nc,I]
    have et:c.argTypes=#[t]:=by rw[<-nc,U]
    have O:(execOp a.eval o).run P w=.ok (.value v) w':=by obtain⟨dst,op,ty,pos,after,guard⟩:=o;simp only at J h1;subst J;simp[execOp,resolve,hc,invoke,builtin,ea,et,h1]
    unfold Oper.wp;rw[O,Oper.upon_value];refine hn v w' e st' h3 ?_ h4;rw[Y,h2];exact Stp.put (Stp.set Stp.rfl' aB _) _
   ·exact hs.elim
  ·rename_i hc;split at hs
   ·rename_i x t I U;split at hs
    ·rename_i el n aq ae;have hm:∀ z,z∈[x]->z∈c.args:=λz hz=>by rw[<-I]at hz;exact nB.1 hz
     have ox:=(vn h (hx x (by simp[hm]))).valOk;have ea:c.args=#[x]:=by rw[<-nc,I]
     have et:c.argTypes=#[t]:=by rw[<-nc,U]
     have hv:∃(b:aH) (m:Nat),a.eval x=.slice b m n:=by
      cases au:opd st.sl x<;>rw[au]at ae ox<;>simp[zBk]at ae
      ·subst ae
       have:=ox.1.resolve_left aB
       exact⟨_,_,this⟩
      ·subst ae
       have:=ox.1.resolve_left aB
       rw[this];simp only[PV.val,PV.val1,PV.cv];split<;>exact⟨_,_,rfl⟩
     obtain⟨b,m,hv⟩:=hv;have O:(execOp a.eval o).run P w=.ok (.value (.int .i64 n)) w:=by obtain⟨dst,op,ty,pos,after,guard⟩:=o;simp only at J;subst J;simp[execOp,resolve,hc,invoke,builtin,ea,et,Builtin.cap_,run_underlying aq,hv,goInt]
     unfold Oper.wp;rw[O,Oper.upon_value];exact hn _ w e _ hs (Stp.put Stp.rfl' _) (wE h zo aa)
    ·exact hs.elim
   ·exact hs.elim
  ·rename_i x hc;have Y:ET P sh o st=Xl sh st x (zy P (ZB P (opd st.sl x)) (c.args.toList.map (opd st.sl))):=by simp only[ET,J,hc]
   rw[Y]at hn;have ah:∀(i:Nat) (p:PV) (y:Operand),(zy P (ZB P (opd st.sl x)) (c.args.toList.map (opd st.sl)))[i]?=some p->c.args[i]?=some y->ValOk av w e pB st.bx (a.eval y) p:=λi p y hp hy=>by
    obtain⟨q,hq,aw⟩:=qE _ _ _ _ hp;rw[oF]at hq;simp only[nR,hy,oX,od]at hq;subst hq
    have:=(vn h (hx y (by simp[Array.mem_of_getElem? hy]))).valOk
    rcases aw with rfl | ⟨t,rfl⟩
    ·exact this
    ·exact this.retag t
   have ai:(zy P (ZB P (opd st.sl x)) (c.args.toList.map (opd st.sl))).length=c.args.size:=by rw[wb];simp
   generalize zy P (ZB P (opd st.sl x)) (c.args.toList.map (opd st.sl))=args at hs hn ah ai;unfold Zf at hs;unfold Xl at hn;split at hs
   ·rename_i f caps hf;simp only[hf]at hn;split at hs
    ·rename_i rs aj;simp only[aj]at hn;unfold Ze at hs;rw[hf]at hs;simp only at hs;split at hs
     ·rename_i ab;rw[ob]at ab;have ak:∀ k∈PV.refsL (args++caps),k∉pB:=λk hk=>by
       obtain⟨p,hp,al⟩:=PV.refsL_mem.1 hk;rcases oM.1 hp with hp | hp
       ·obtain⟨i,hi⟩:=oS.1 hp;have ax:i<c.args.size:=by rw[<-ai];exact(oD.1 hi).1
        exact((ah i p _ hi (o6 ax)).2.2 k al).1
       ·have ox:=EE (vn h (hx x (by simp[hc]))).valOk hf;exact(ox.2.2 k (by simp only[PV.refs];exact PV.refsL_mem.2 ⟨p,hp,al⟩)).1
      refine OU h ac J hc (hx x (by simp[hc])) ai ah hf ab (tl 200 _ [] mR) (C3 (A:=λk=>k∉pB) (λk hk j hj=>?_) 200 _ [] ak aB) aa hs λv w' e' st' h1 h2 h3=>?_
      ·rw[oA]at hj;cases hB:st.bx[k]? with
       | none=>rw[hB]at hj;simp[Bx.refs]at hj
       | some B=>rw[hB]at hj;exact(h.bf k B hB hk j hj).1
      ·obtain⟨nb,rows,N,q,rfl⟩:=h2;exact hn v w' e' _ h1 (Stp.put (zAZ _ _ _ _) _) h3
     ·exact hs.elim
    ·rename_i aj;simp only[aj]at hn;refine OV h ac J hc (hx x (by simp[hc])) ai ah aa hs λv w' e' st' h1 h2 h3=>?_;obtain⟨rows,q,N,rfl⟩:=h2;exact hn v w' e' _ h1 (Stp.put (Stp.app Stp.rfl' _ _) _) h3
   ·exact hs.elim
  ·exact hs.elim
 ·exact hs.elim
variable {av:Nat->Prop} {P:Program} {w0 w w':World} {e0 e:Env} {pS pS' pB pB':aI} {a:Act} {st st':St}
structure MkH where
 place:Option Nat:=none
 keep:aI:=[]
 same:Option Nat:=none
structure Ent where
 i:Nat
 hard:Bool:=false
 cl:aI:=[]
 fs:aI:=[]
 mh:Option MkH:=none
 tr:Bool:=false
def Br (v:Bool)(A B:Prop):Prop:=match v with
 | true=>A
 | false=>B
theorem Br.spec {v A B}(h:Br v A B):(v=true/\A)\/(v=false/\B):=by
 cases v
 ·exact .inr ⟨rfl,h⟩
 ·exact .inl ⟨rfl,h⟩
def Ua (ops:Array Oper) (o:Oper) (st:St) (A B:St->Prop):Prop:=
 match o.guard with
 | none=>A st
 | some (g,I)=>match ops[g]? with
   | some J=>match J.dst with
     | some d=>match st.sl[d]? with
       | some (.bool v)=>Br v (match I with
         | true=>A (st.put (some d) (.bool true))
         | false=>B (st.put (some d) (.bool true))) (match I with
         | true=>B (st.put (some d) (.bool false))
         | false=>A (st.put (some d) (.bool false)))
       | some (.tp [])=>B st
       | _=>False
     | none=>False
   | none=>False
def Y6 (ops:Array Oper)(o:Oper)(st:St):Prop:=∀ g I,o.guard=some (g,I)->∃ J d,ops[g]?=some J/\J.dst=some d/\st.sl[d]?=some (.bool I)
def zAq (ops:Array Oper)(o:Oper)(st:St):Prop:=∃ g I J d,o.guard=some (g,I)/\ops[g]?=some J/\J.dst=some d/\(st.sl[d]?=some (.bool (!I))\/st.sl[d]?=some (.tp []))
theorem LC {d p}(h:st.sl[d]?=some p):st.put (some d) p=st:=
 St.put_same λd' hd I=>by cases hd;exact h
theorem J6 {ops o A B}(h:Ua ops o st A B):(Y6 ops o st/\A st)\/(zAq ops o st/\B st):=by
 unfold Ua at h;split at h
 ·rename_i U;exact .inl ⟨λg I hc=>(by rw[U]at hc;cases hc),h⟩
 ·rename_i g I U;split at h
  ·rename_i og J;split at h
   ·rename_i d hd;split at h
    ·rename_i v O;rcases h.spec with⟨rfl,h⟩ | ⟨rfl,h⟩
     ·rw[LC O]at h;cases I
      ·exact .inr ⟨⟨g,false,og,d,U,J,hd,.inl O⟩,h⟩
      ·exact .inl ⟨λg' Y hc=>(by rw[U]at hc;cases hc;exact⟨og,d,J,hd,O⟩),h⟩
     ·rw[LC O]at h;cases I
      ·exact .inl ⟨λg' Y hc=>(by rw[U]at hc;cases hc;exact⟨og,d,J,hd,O⟩),h⟩
      ·exact .inr ⟨⟨g,true,og,d,U,J,hd,.inl O⟩,h⟩
    ·rename_i O;exact .inr ⟨⟨g,I,og,d,U,J,hd,.inr O⟩,h⟩
    ·exact h.elim
   ·exact h.elim
  ·exact h.elim
theorem Nz (h:Rel av w0 e0 pS pB a w e st){ops o}(hw:Y6 ops o st)(hl:∀ t∈o.looksAt ops,t∉pS):Region.wanted o (yielded ops a.tmps)=true:=by
 unfold Region.wanted;cases hg:o.guard with
 | none=>rfl
 | some gw=>
   obtain⟨g,I⟩:=gw;obtain⟨og,d,h1,h2,h3⟩:=hw g I hg;have U:d∉pS:=hl d (by simp[Oper.looksAt,hg,h1,h2]);have Y:=(h.hs d _ h3 U).resolve_left aB;have J:d<a.tmps.size:=o7 (oD.1 h3).1 h.sz;have O:a.tmps[d]?=some (.bool I):=by rw[nC,o6 J]at Y;rw[o6 J];simp only[nA]at Y;rw[Y];rfl
   simp[yielded,h1,h2,O]
theorem NI (h:Rel av w0 e0 pS pB a w e st){ops o}(hw:zAq ops o st)(hl:∀ t∈o.looksAt ops,t∉pS):Region.wanted o (yielded ops a.tmps)=false:=by
 obtain⟨g,U,og,d,hg,h1,h2,h3⟩:=hw;have Y:d∉pS:=hl d (by simp[Oper.looksAt,hg,h1,h2]);unfold Region.wanted;rw[hg];rcases h3 with h3 | h3
 ·have O:=(h.hs d _ h3 Y).resolve_left aB;have J:d<a.tmps.size:=o7 (oD.1 h3).1 h.sz;have I:a.tmps[d]?=some (.bool (!U)):=by rw[nC,o6 J]at O;rw[o6 J];simp only[nA]at O;rw[O];rfl
  simp[yielded,h1,h2,I]
 ·have O:=(h.hs d _ h3 Y).resolve_left aB;have J:d<a.tmps.size:=o7 (oD.1 h3).1 h.sz;have I:∃ l',a.tmps[d]?=some (.tuple l'):=by rw[nC,o6 J]at O;rw[o6 J];simp only[nA]at O;rw[O];exact⟨_,rfl⟩
  obtain⟨l',I⟩:=I;simp[yielded,h1,h2,I]
theorem AD (h:Rel av w0 e0 pS pB a w e st)(hp:∀ k,k∈pB'↔k∈pB)(hs:∀ i,i∈pS->i∈pS'):Rel av w0 e0 pS' pB' a w e st:=by
 have U:∀ k,k∉pB'↔k∉pB:=λk=>not_congr (hp k);have hL:∀ k b,Lives pB' e st.bx k b↔Lives pB e st.bx k b:=λk b=>by unfold Lives;rw[U]
 have aa:za av pB' e st.bx=za av pB e st.bx:=by funext b;unfold za;exact propext (or_congr lL (exists_congr λk=>hL k b))
 have Y:∀ i,i∉pS'->i∉pS:=λi hi hc=>hi (hs i hc);exact {
  el:=h.el
  br:=λk B I J=>h.br k B I ((U k).1 J)
  bo:=λk B I J=>by rw[aa];exact h.bo k B I ((U k).1 J)
  bf:=λk B I J j hj=>by have:=h.bf k B I ((U k).1 J) j hj;exact⟨(U j).2 this.1,this.2⟩
  inj:=λk j b h1 h2=>h.inj k j b ((hL k b).1 h1) ((hL j b).1 h2)
  ku:=h.ku
  size:=h.size
  old:=h.old
  fz:=h.fz
  nd:=h.nd
  sz:=h.sz
  hN:=h.hN
  hs:=λi p hi O=>h.hs i p hi (Y i O)
  so:=λi p hi O=>by rw[aa];exact h.so i p hi (Y i O)
  sr:=λi p hi O k I=>by have:=h.sr i p hi (Y i O) k I;exact⟨(U k).2 this.1,this.2⟩
  own:=λk b I=>h.own k b ((hL k b).1 I)
  avl:=h.avl
  avn:=λk b I=>h.avn k b ((hL k b).1 I)
  pin:=λk b hb=>by have:=h.pin k b hb;exact⟨this.1,(U k).2 this.2⟩
  pit:=h.pit }
theorem YJ (h:Rel av w0 e0 pS pB a w e st)(aa:∀ k∈pB,k<st.bx.length){o}(hx:∀ x∈o.op.operands,∀ t,x=.tmp t->t∉pS){K}(hs:nev P (opd st.sl) (λk=>st.bx[k]?) o.op o.type K) :
  ∃ v w' e' r,(execOp a.eval o).run P w=.ok (.value v) w'/\K r/\Rel av w0 e0 pS pB (a.put o.dst v) w' e' (st.push o.dst r):=by
 obtain⟨r,hK,Y⟩:=TM _ hs;have Y:=Y (λq=>q=r) rfl;cases r with
 | v p=>
   rcases GG h hx Y with⟨v,q,O,J,I⟩ | ⟨v,c,t,B,f,O,J,I⟩
   ·cases J;exact⟨v,w,e,.v p,O,hK,wE h I λi hi _=>hi⟩
   ·cases J
 | b B f=>
   have O:=qD h (B:=B);have ab:nev P (opd st.sl) (λk=>(st.bx++[B])[k]?) o.op o.type (λq=>q=.b B f):=by
    rw[HN (ρ:=opd st.sl) (rb:=λk=>st.bx[k]?) (λ_ _=>rfl) λx ac k hk=>?_]
    ·exact Y
    ·have:=(vn h (hx x ac)).rf k hk
     exact oQ this.2
   rcases GG O hx ab with⟨v,q,O,J,I⟩ | ⟨v,c,t,B',f',h4,J,I⟩
   ·cases J
   ·cases J;have h5:=Bi O (k:=st.bx.length) (B:=B) aB aB I;have U:st.bx.length<(e++[none]).length:=by simp[h.el]
    have h6:ValOk av (w.alloc (.cells c t)) ((e++[none]).set st.bx.length (some w.heap.size)) ((st.bx.length::pB).filter (·≠st.bx.length)) (st.bx++[B]) v (f st.bx.length):=
     ⟨.inr (I.val _ _ (Env.at_set_eq U)),I.fok _ _ _,by rw[I.fr];simp⟩
    refine⟨v,_,_,.b B f,h4,hK,AD (pS:=pS) (wE h5 h6 λi hi _=>hi) (λk=>?_) λ_=>id⟩;simp only[mM,oK,ne_eq,oh];constructor
    ·intro hk;have:=aa k hk;exact⟨.inr hk,aA⟩
    ·rintro⟨h7 | h7,h8⟩
     ·exact absurd h7 h8
     ·exact h7
def VW (P:Program)(sh:aL->List Sh)(o:Oper)(st:St)(K:St->Prop):Prop:=
 match YC o.op with
 | true=>nev P (opd st.sl) (λk=>st.bx[k]?) o.op o.type λr=>K (st.push o.dst r)
 | false=>zBF P sh o st K
def Qe (P:Program)(sh:aL->List Sh)(o:Oper)(st:St):aI:=
 match YC o.op with
 | true=>[]
 | false=>ET P sh o st
theorem QW {dst r}:Stp [] [] dst st (st.push dst r):=by
 cases r with
 | v p=>exact Stp.put Stp.rfl' p
 | b B f=>exact Stp.put (Stp.app Stp.rfl' [B] st.N) _
theorem Mo (h:Rel av w0 e0 pS pB a w e st)(J:∀ k∈pB,k<st.bx.length){sh o K}(U:∀ x∈o.op.operands,∀ t,x=.tmp t->t∉pS)(hs:VW P sh o st K){next Q}(O:∀ v w' e' st',K st'->Stp (Qe P sh o st) (Uv st (Qe P sh o st)) o.dst st st'->Rel av w0 e0 pS pB (a.put o.dst v) w' e' st'->next (a.put o.dst v) w'):o.wp P a w next Q:=by
 unfold VW at hs;unfold Qe at O;split at hs
 ·rename_i I;simp only[I]at O;obtain⟨v,w',e',r,Y,h2,h3⟩:=YJ h J U hs;unfold Oper.wp;rw[Y,Oper.upon_value];exact O v w' e' _ h2 QW h3
 ·rename_i I;simp only[I]at O;exact VX h J U (λi hi _=>hi) hs O
abbrev Pend:=List (Nat × Option Nat)
def Ax (ops:Array Oper)(i:Nat):Option Nat:=(ops[i]?).bind (·.dst)
def WI (T:aI)(st:St)(p:PV):Bool:=
 p.refs.all λk=>!T.contains k&&match st.bx[k]? with
  | some B=>B.refs.all λj=>!T.contains j
  | none=>true
def UF (ops:Array Oper)(T:aI)(st:St)(x:Nat × Option Nat):Bool:=
 match ops[x.1]? with
 | some o=>(match x.2 with
   | some k=>!T.contains k&&(match st.bx[k]? with
     | some B=>B.refs.all λj=>!T.contains j
     | none=>true)
   | none=>true)&&(o.op.operands.toList.all λy=>WI T st (opd st.sl y))&&(match o.dst with
   | some d=>WI T st (st.sl.getD d .any)
   | none=>true)
 | none=>false
def mvP (ops:Array Oper)(x:Nat × Option Nat):Bool:=match x.2,ops[x.1]? with
 | none,some o=>match o.op with
   | .move _=>true
   | _=>false
 | _,_=>false
def WH (ops:Array Oper)(T:aI)(st:St)(pf:Pend):Bool:=
 match T with
 | []=>true
 | T=>pf.all (UF ops T st)
def zBZ (ops:Array Oper)(T:aI)(st:St)(pf:Pend):Bool:=
 match T with
 | []=>true
 | T=>pf.all λx=>UF ops T st x||(mvP ops x&&UF ops (Uv st T) st x)
def WC:Res->Option Nat->Option PV
 | .v p,none=>some p
 | .b _ f,some k=>some (f k)
 | _,_=>none
def Y3 (ops:Array Oper)(P:Program)(st:St)(o:Oper)(b:Option Nat):Prop:=
 (Y6 ops o st/\(∀ y∈o.op.operands,∀ k∈(opd st.sl y).refs,k<st.bx.length)/\∃ r q,nev P (opd st.sl) (λk=>st.bx[k]?) o.op o.type (λq=>q=r)/\WC r b=some q /\
  (∀ d,o.dst=some d->d<st.sl.length->st.sl[d]?=some q)/\∀ B f k,r=.b B f->b=some k->st.bx[k]?=some B) \/
 (zAq ops o st/\b=none/\∀ d,o.dst=some d->d<st.sl.length->st.sl[d]?=some (.tp []))
def zBy ops P st(x:Nat × Option Nat):=∃ o,ops[x.1]?=some o/\Y3 ops P st o x.2
structure SafeP (T:aI) (st:St) (p:PV):Prop where
 r:∀ k∈T,k∉p.refs
 b:∀ k∈p.refs,k∉T/\∀ B,st.bx[k]?=some B->∀ j∈T,j∉B.refs
theorem Jy {T p}(h:WI T st p=true):SafeP T st p:=by
 simp only[WI,ob,oL,nM]at h;have O:∀ k∈p.refs,k∉T:=λk I=>by have:=(h k I).1;simpa using this
 refine⟨λk I hc=>O k hc I,λk I=>⟨O k I,λB U j Y J=>?_⟩⟩
 have:=(h k I).2
 rw[U]at this;simp only[ob,nM]at this
 have:=this j J
 simp at this;exact this Y
structure Safe1 (T:aI) (st:St) (o:Oper) (b:Option Nat):Prop where
 op:∀ y∈o.op.operands,SafeP T st (opd st.sl y)
 ds:∀ d,o.dst=some d->SafeP T st (st.sl.getD d .any)
 bx:∀ k,b=some k->k∉T/\∀ B,st.bx[k]?=some B->∀ j∈T,j∉B.refs
theorem GK {o b}:Safe1 [] st o b:=⟨λ_ _=>⟨aB,aB⟩,λ_ _=>⟨aB,aB⟩,aB⟩
theorem EO {ops T}{x:Nat × Option Nat}{o}(U:ops[x.1]?=some o)(h:UF ops T st x=true):Safe1 T st o x.2:=by
 unfold UF at h;rw[U]at h;simp only[oL]at h;obtain⟨⟨I,Y⟩,O⟩:=h;refine⟨λy hy=>Jy (ob.1 Y y (nB.2 hy)),λd hd=>?_,λk hk=>?_⟩
 ·rw[hd]at O;exact Jy O
 ·rw[hk]at I;simp only[oL,nM]at I;refine⟨by have:=I.1;simpa using this,λB hB j hj J=>?_⟩
  have:=I.2
  rw[hB]at this;simp only[ob,nM]at this
  have:=this j J
  simp at this;exact this hj
def zBh T TA st o b:=Safe1 T st o b\/((∃ y,o.op=.move y)/\b=none/\Safe1 TA st o b)
theorem Rk {ops T pf}(h:WH ops T st pf=true){x:Nat × Option Nat}(I:x∈pf){o}(J:ops[x.1]?=some o):Safe1 T st o x.2:=by
 unfold WH at h;split at h
 ·exact GK
 ·exact EO J (ob.1 h x I)
theorem UG {ops T pf}(h:zBZ ops T st pf=true){x:Nat × Option Nat}(U:x∈pf){o}(J:ops[x.1]?=some o):zBh T (Uv st T) st o x.2:=by
 unfold zBZ at h;split at h
 ·exact .inl GK
 ·have:=ob.1 h x U
  rw[mB,oL]at this;rcases this with I | ⟨I,Y⟩
  ·exact .inl (EO J I)
  ·refine .inr ⟨?_,?_,EO J Y⟩<;>unfold mvP at I<;>split at I
   ·rename_i o2 e1 O;rw[J]at O;cases O;split at I
    ·exact⟨_,aE⟩
    ·cases I
   ·cases I
   ·assumption
   ·cases I
theorem GF {ops o b T TA dst}(h:Y3 ops P st o b)(U:Stp T TA dst st st')(hA:∀ k∈TA,k∈T)(hs:zBh T TA st o b)(hd:∀ d,dst=some d->d∉o.looksAt ops/\o.dst≠some d):Y3 ops P st' o b:=by
 have aj:∀ y∈o.op.operands,∀ k∈TA,k∉(opd st.sl y).refs:=λy hy k J=>by
  rcases hs with hs | ⟨_,_,hs⟩
  ·exact(hs.op y hy).r k (hA k J)
  ·exact(hs.op y hy).r k J
 have ak:∀ d,o.dst=some d->∀ k∈TA,k∉(st.sl.getD d .any).refs:=λd I k J=>by
  rcases hs with hs | ⟨_,_,hs⟩
  ·exact(hs.ds d I).r k (hA k J)
  ·exact(hs.ds d I).r k J
 have O:∀ t p,t∈o.looksAt ops->st.sl[t]?=some p->(∀ k∈TA,k∉p.refs)->st'.sl[t]?=some p:=λt p ht hp J=>U.sl t p (λhc=>(hd t hc.symm).1 ht) hp J;have aa:∀ y∈o.op.operands,opd st'.sl y=opd st.sl y:=λy hy=>by
  cases y with
  | tmp t=>
    have Y:=aj _ hy;simp only[opd]at Y ⊢;rw[oA]at Y;rw[oA,oA];cases hp:st.sl[t]? with
    | none=>have:st'.sl[t]?=none:=oc (by rw[U.ll];exact mK.1 hp);rw[this]
    | some p=>rw[hp]at Y;rw[O t p (by unfold Oper.looksAt;exact o5 _ (nk.2 ⟨.tmp t,nB.2 hy,rfl⟩)) hp Y]
  | _=>rfl
 have ah:Y6 ops o st->Y6 ops o st':=λhw g ab hg=>by obtain⟨og,d,h1,h2,h3⟩:=hw g ab hg;exact⟨og,d,h1,h2,O d _ (by simp[Oper.looksAt,hg,h1,h2]) h3 (by simp[PV.refs])⟩
 have ae:∀ d q,o.dst=some d->st.sl[d]?=some q->(∀ k∈TA,k∉q.refs)->st'.sl[d]?=some q:=λd q I hq J=>U.sl d q (λhc=>(hd d hc.symm).2 I) hq J;rcases h with⟨h1,h0,r,q,h2,h3,h4,h5⟩ | ⟨⟨g,ab,og,d,g1,g2,g3,g4⟩,h2,h3⟩
 ·refine .inl ⟨ah h1,λy hy k J=>?_,r,q,?_,h3,λd I ac=>?_,λB f k hr J=>?_⟩
  ·rw[aa y hy]at J;have:=h0 y hy k J;have:=U.bl;omega
  ·rcases hs with hs | ⟨⟨z,hz⟩,_,_⟩
   ·rw[HN (ρ:=opd st.sl) (rb:=λk=>st.bx[k]?) aa λy hy k J=>?_]
    ·exact h2
    ·have al:=h0 y hy k J;have ai:=(hs.op y hy).b k J;have hB:st.bx[k]?=some st.bx[k]:=oH al;show st'.bx[k]?=st.bx[k]?;rw[U.bx k _ hB ai.1 (ai.2 _ hB),hB]
   ·have aa:=aa z (by rw[hz];simp[Op.operands]);rw[hz]at h2 ⊢;simp only[nev,Cz]at h2 ⊢;rw[aa];exact h2
  ·rw[U.ll]at ac;have hq:=h4 d I ac;have Y:=ak d I;rw[oA,hq]at Y;exact ae d q I hq Y
  ·rcases hs with hs | ⟨_,hb,_⟩
   ·have hB:=h5 B f k hr J
    have:=hs.bx k J
    exact U.bx k B hB this.1 (this.2 B hB)
   ·rw[hb]at J;cases J
 ·refine .inr ⟨⟨g,ab,og,d,g1,g2,g3,?_⟩,h2,λd' I ac=>?_⟩
  ·have hm:d∈o.looksAt ops:=by simp[Oper.looksAt,g1,g2,g3]
   rcases g4 with g4 | g4
   ·exact .inl (O d _ hm g4 (by simp[PV.refs]))
   ·exact .inr (O d _ hm g4 (by simp[PV.refs,PV.refsL]))
  ·rw[U.ll]at ac;exact ae d' _ I (h3 d' I ac) (by simp[PV.refs,PV.refsL])
variable {av:Nat->Prop} {P:Program} {w0 w w':World} {e0 e:Env} {pS pS' pB pB':aI} {a:Act} {st st':St}
mutual
def D.Flat0:D->Prop
 | .lit _=>True
 | .ag cs=>wK cs
 | .sl a _ es _=>(∀ ad,a=some ad->ad.off=0)/\wK es
 | .pt ..=>False
 | .fn ..=>False
 | .mp ..=>False
def wK:aM->Prop
 | []=>True
 | d::ds=>d.Flat0/\wK ds
end
def D.elems:D->aM
 | .sl _ _ es _=>es
 | _=>[]
theorem Good.apart {F:aI}{live}(hold:∀ b,b<w.heap.size->b∉F->w'.heap[b]?=w.heap[b]?){x}(h:Good w live x)(I:∀ b∈x.foot,b∉F):Good w' live x:=
 ⟨h.1.mono λb hb=>hold b (h.1.lt b hb) (I b hb),h.2⟩
variable {av:Nat->Prop} {P:Program} {w0 w w':World} {e0 e:Env} {pS pS' pB pB':aI} {a:Act} {st st':St}
variable {av:Nat->Prop} {P:Program} {w0 w w':World} {e0 e:Env} {pS pS' pB pB':aI} {a:Act} {st st':St}
def MY (N0:Option Nat)(fs fb:aI):aI->St->(St->Prop)->Prop
 | [],st,K=>K st
 | k::ks,st,K=>Si N0 st k fs fb λst'=>MY N0 fs fb ks st' K
def zBt (ops:Array Oper)(pf:Pend)(t:Nat):Bool:=pf.all λx=>match Ax ops x.1 with
 | some d=>!(d==t)
 | none=>true
def AU (N0:Option Nat)(ops:Array Oper)(pf:Pend)(cl fs:aI)(st:St)(K:St->Prop):Prop:=
 match cl with
 | []=>K st
 | t :: cl=>match(C2 st.bx 200 ((t::cl).flatMap λt=>(st.sl.getD t .any).refs) []).filter (Z2 st)with
   | []=>K st
   | k::ks=>match WH ops (k::ks) st pf&&((t::cl)++fs).all (zBt ops pf)with
     | true=>MY N0 fs (C2 st.bx 200 (fs.flatMap λt=>(st.sl.getD t .any).refs) []) (k::ks) st K
     | false=>False
theorem Stp.trans {T st I st2}(J:Stp T T none st I)(O:Stp T T none I st2):Stp T T none st st2:=
 ⟨λi p hi hp U=>O.sl i p hi (J.sl i p hi hp U) U,λk B hk Y h4=>O.bx k B (J.bx k B hk Y h4) Y h4,oR J.bl O.bl,O.ll.trans J.ll⟩
theorem Stp.wide {T I dst}(h:Stp T T dst st st')(J:∀ k∈T,k∈I):Stp I I dst st st':=
 ⟨λi p hi Y O=>h.sl i p hi Y λk U=>O k (J k U),λk B O h3 h4=>h.bx k B O (λhc=>h3 (J k hc)) λj hj=>h4 j (J j hj),h.bl,h.ll⟩
theorem MW {k z s p}(h:k∉p.refs):RB k s z p=p:=by
 cases p<;>simp only[RB]<;>first
  | exact HE h
  | (simp[PV.refs]at h;rw[if_neg (Ne.symm h)])
theorem VC {k z s p}(h:k∉p.refs):Proofs.YtlaniepnglheoaaGreatDoor.clo k s z p=p:=by
 cases p
 case pg cs=>simp only[Proofs.YtlaniepnglheoaaGreatDoor.clo];rw[if_neg];simpa [PV.refs]using h
 all_goals exact @MW _ k z s _ h
theorem stp_clo {k z N s}:Stp [k] [k] none st (st.clo k s z N):=by
 refine⟨λi p _ I J=>?_,λj B O U Y=>?_,by simp[St.clo],by simp[St.clo]⟩
 ·simp only[St.clo,oF,I,oX,VC (J k aB)]
 ·simp only[St.clo];rw[nH (by simp at U;omega),oF,O];simp only[oX];congr 1;cases B with
  | var cs=>
    simp only[Bx.clo];congr 1
    conv=>rhs;rw[<-lV cs]
    refine nF λp I=>MW λhc=>Y k aB ?_;simp only[Bx.refs];exact PV.refsL_mem.2 ⟨p,I,hc⟩
  | _=>rfl
theorem pG {N0}(I:NOk N0 w0){fs fb K}(J:∀ i∈fs,i∉pS)(O:∀ i∈fb,i∉pB) :
  ∀(ks:aI) (st:St),Rel av w0 e0 pS pB a w e st->(∀ k∈ks,k∉pB)->MY N0 fs fb ks st K->∃ st',K st'/\Stp ks ks none st st'/\Rel av w0 e0 pS pB a w e st'
 | [],st,h,_,hs=>⟨st,hs,Stp.rfl',h⟩
 | k::ks,st,h,U,hs=>by simp only[MY]at hs;obtain⟨s,z,N,Y,h2,_⟩:=MX h I (U k aB) J O hs;obtain⟨st',h3,h4,h5⟩:=pG I J O ks _ h2 (λj hj=>U j (by simp[hj])) Y;exact⟨st',h3,(stp_clo.wide aB).trans (h4.wide λk U=>by simp[U]),h5⟩
theorem TX {ops pf t}(h:zBt ops pf t=true):∀ x∈pf,Ax ops x.1≠some t:=by
 intro x I hc
 have:=ob.1 h x I
 rw[hc]at this;simp at this
theorem uV (h:Rel av w0 e0 pS pB a w e st){N0}(aa:NOk N0 w0){ops pf}(ab:∀ t∈pS,∃ x∈pf,Ax ops x.1=some t){cl fs K}(hs:AU N0 ops pf cl fs st K) :
  ∃ st' T,K st'/\Stp T T none st st'/\WH ops T st pf=true/\Rel av w0 e0 pS pB a w e st':=by
 unfold AU at hs;split at hs
 ·exact⟨st,[],hs,Stp.rfl',rfl,h⟩
 ·rename_i t cl;split at hs
  ·exact⟨st,[],hs,Stp.rfl',rfl,h⟩
  ·rename_i k ks ac;split at hs
   ·rename_i U;simp only[oL]at U;obtain⟨h1,h2⟩:=U;have J:∀ i∈(t::cl)++fs,i∉pS:=λi hi hc=>by obtain⟨x,hx,hd⟩:=ab i hc;exact TX (ob.1 h2 i hi) x hx hd
    have Y:∀ i,i∈(t::cl)++fs->∀ j∈(st.sl.getD i .any).refs,j∉pB:=λi hi j I=>by
     rw[oA]at I;cases hp:st.sl[i]? with
     | none=>rw[hp]at I;simp[PV.refs]at I
     | some p=>rw[hp]at I;exact(h.sr i p hp (J i hi) j I).1
    have O:∀ l:aI,(∀ i∈l,i∈(t::cl)++fs)->∀ j∈C2 st.bx 200 (l.flatMap λt=>(st.sl.getD t .any).refs) [],j∉pB:=λl hl=>by
     refine C3 (A:=λj=>j∉pB) (λk hk j I=>?_) _ _ _ (λj I=>?_) aB
     ·rw[oA]at I;cases hB:st.bx[k]? with
      | none=>rw[hB]at I;simp[Bx.refs]at I
      | some B=>rw[hB]at I;exact(h.bf k B hB hk j I).1
     ·obtain⟨i,hi,I⟩:=mJ.1 I;exact Y i (hl i hi) j I
    obtain⟨st',g1,g2,g3⟩  :=pG aa (λi hi=>J i (nS _ hi)) (O fs λi hi=>nS _ hi) (k::ks) st h (λj I=>by rw[<-ac]at I;exact O (t::cl) (λi hi=>o5 _ hi) j (mM.1 I).1) hs;exact⟨st',_,g1,g2,h1,g3⟩
   ·exact hs.elim
def Wn (ops:Array Oper)(i j:Nat):Bool:=match ops[j]? with
 | some o=>o.after.any λe=>e.on==i&&Region.binds .any e
 | none=>false
def Ir (ops:Array Oper)(j:Nat):aI:=match ops[j]? with
 | some o=>(o.after.toList.filter (Region.binds .any)).map (·.on)
 | none=>[]
def XU (ops:Array Oper):Nat->aI->aI->aI
 | 0,_,I=>I
 | _+1,[],I=>I
 | n+1,k::J,I=>match I.contains k with
   | true=>XU ops n J I
   | false=>XU ops n (Ir ops k++J) (k::I)
theorem KY {ops}{A:Nat->Prop}(U:∀ k,A k->∀ j∈Ir ops k,A j):∀(n:Nat)(J I:aI),(∀ k∈J,A k)->(∀ k∈I,A k)->∀ k∈XU ops n J I,A k
 | 0,_,I,_,h=>h
 | _+1,[],I,_,h=>h
 | n + 1,k::J,I,O,Y=>by
   simp only[XU];split
   ·exact KY U n J I (λj hj=>O j (by simp[hj])) Y
   ·refine KY U n _ _ (λj hj=>?_) λj hj=>?_
    ·rcases oM.1 hj with hj | hj
     ·exact U k (O k aB) j hj
     ·exact O j (by simp[hj])
    ·rcases oK.1 hj with rfl | hj
     ·exact O j aB
     ·exact Y j hj
def WV (I:aI)(nv:Pend):Pend:=nv.filter λx=>!I.contains x.1
def LR (ops:Array Oper)(j:Nat)(nv:Pend):Pend:=match nv with
 | []=>[]
 | nv=>WV (XU ops 1000 (Ir ops j) []) nv
def X9 (P:Program)(sh:aL->List Sh)(N0:Option Nat)(ops:Array Oper)(pf:Pend)(en:Ent)(o:Oper)(st:St)(K:St->Prop):Prop:=
 match en.mh with
 | none=>match en.tr with
   | false=>AU N0 ops pf en.cl en.fs st λst=>match zBZ ops (Qe P sh o st) st pf with
     | true=>VW P sh o st K
     | false=>False
   | true=>match pf with
     | []=>VW P sh o st λst=>UU st o.dst K
     | _=>False
 | some mh=>match pf with
   | []=>False
   | _=>False
def zBO (o:Oper)(st:St):Bool:=o.op.operands.toList.all λy=>(opd st.sl y).refs.all λk=>decide (k<st.bx.length)
def Res.bk (r:Res)(n:Nat):Option Nat:=match r with
 | .v _=>none
 | .b ..=>some n
def QN (P:Program)(sh:aL->List Sh)(N0:Option Nat)(ops:Array Oper):List Ent->Pend->St->(St->Prop)->Prop
 | [],_,st,K=>K st
 | en :: l,nv,st,K=>match ops[en.i]? with
   | none=>False
   | some o=>match en.hard with
     | true=>Ua ops o st (λst=>X9 P sh N0 ops (LR ops en.i nv) en o st λst=>QN P sh N0 ops l nv st K) (λst=>QN P sh N0 ops l nv (st.put o.dst (.tp [])) K)
     | false=>Ua ops o st (λst=>match YC o.op&&zBO o st with
      | true=>nev P (opd st.sl) (λk=>st.bx[k]?) o.op o.type λr=>QN P sh N0 ops l ((en.i,r.bk st.bx.length)::nv) (st.push o.dst r) K
      | false=>False) (λst=>QN P sh N0 ops l ((en.i,none)::nv) (st.put o.dst (.tp [])) K)
theorem Hy {bx}:ValOk av w e pB bx undef (.tp []):=⟨.inr rfl,by simp[PV.Ok,PV.OkL],by simp[PV.refs,PV.refsL]⟩
theorem sc {ops}{o:Oper}{y t}(I:y∈o.op.operands)(J:y=.tmp t):t∈o.looksAt ops:=by subst J;exact o5 _ (nk.2 ⟨.tmp t,nB.2 I,rfl⟩)
theorem Mp (h:Rel av w0 e0 pS pB a w e st){N0}(ac:NOk N0 w0)(aa:∀ k∈pB,k<st.bx.length){sh ops pf}(O:∀ t∈pS,∃ x∈pf,Ax ops x.1=some t)(ab:∀ k∈pB,∃ x∈pf,x.2=some k){en o}(ho:ops[en.i]?=some o)(hl:∀ t∈o.looksAt ops,t∉pS){K}(hs:Ua ops o st (λst=>X9 P sh N0 ops pf en o st K) (λst=>K (st.put o.dst (.tp [])))){next Q}(hn:∀ v w' e' st',K st'->st.bx.length<=st'.bx.length->(∀ x∈pf,∀ ox,ops[x.1]?=some ox->Y3 ops P st ox x.2->(∀ d,o.dst=some d->d∉ox.looksAt ops/\ox.dst≠some d)->Y3 ops P st' ox x.2) ->
   Rel av w0 e0 pS pB (a.put o.dst v) w' e' st'->next (a.put o.dst v) w'):wpOp P ops Q en.i next a w:=by
 unfold wpOp;rw[ho];simp only;rcases J6 hs with⟨hw,hs⟩ | ⟨hw,hs⟩
 ·rw[if_pos (Nz h hw hl)];refine .inl ?_;unfold X9 at hs;split at hs
  rotate_left
  ·split at hs
   rotate_left
   ·exact hs.elim
   have e1:pS=[]:=na.2 λt J=>by obtain⟨x,I,_⟩:=O t J;simp at I
   have e2:pB=[]:=na.2 λt J=>by obtain⟨x,I,_⟩:=ab t J;simp at I
   subst e1;subst e2;have ah:=λv w' e' st' g1 Y g3=>hn v w' e' st' g1 Y (λx I=>by simp at I) g3;exact hs.elim
  split at hs
  rotate_left
  ·split at hs
   rotate_left
   ·exact hs.elim
   have e1:pS=[]:=na.2 λt J=>by obtain⟨x,I,_⟩:=O t J;simp at I
   have e2:pB=[]:=na.2 λt J=>by obtain⟨x,I,_⟩:=ab t J;simp at I
   subst e1;subst e2;refine Mo h aa (λy hy t J=>hl t (sc hy J)) hs λv w' e' st' g1 Y g3=>?_;obtain⟨st2,k1,k2,k3⟩:=PJ g3 g1;exact hn v w' e' st2 k1 (by rw[k3];exact Y.bl) (λx I=>by simp at I) k2
  obtain⟨ai,T,h1,h2,h3,h4⟩:=uV h ac O hs;split at h1
  ·rename_i ae;refine Mo h4 (λk hk=>o7 (aa k hk) h2.bl) (λy hy t J=>hl t (sc hy J)) h1 λv w' e' st' g1 Y g3=>hn v w' e' st' g1 (oR h2.bl Y.bl) (λx I ox U hk hd=>?_) g3;exact GF (GF hk h2 (λ_ h=>h) (.inl (Rk h3 I U)) λd hd=>by cases hd) Y Uw (UG ae I U) hd
  ·exact h1.elim
 ·rw[if_neg (by rw[NI h hw hl];simp)];exact hn undef w e _ hs (by cases o.dst<;>exact oC _) (λx I ox U hk hd=>GF hk (Stp.put (T:=[]) (TA:=[]) Stp.rfl' _) (λ_ h=>h) (.inl GK) hd) (wE h Hy λi hi _=>hi)
theorem NF {N0}(I:NOk N0 w0){sh ops K Q}(O:∀ a w e st,K st->Rel av w0 e0 [] [] a w e st->Q .normal a w) :
  ∀(l:List Ent) (a:Act) (w:World) (e:Env) (st:St),(∀ en∈l,en.hard=true)->Rel av w0 e0 [] [] a w e st->QN P sh N0 ops l [] st K->wpOps P ops Q (l.map (·.i)) a w
 | [],a,w,e,st,_,h,hs=>O a w e st hs h
 | en::l,a,w,e,st,U,h,hs=>by
   rw[o9,wpOps_cons];simp only[QN]at hs;cases J:ops[en.i]? with
   | none=>rw[J]at hs;exact hs.elim
   | some o=>rw[J]at hs;simp only[U en aB]at hs;exact Mp h I aB aB aB J aB hs λv w' e' st' Y _ _ h2=>NF I O l _ _ _ _ (λx hx=>U x (by simp[hx])) h2 Y
def Oi (n:Nat)(l:List Ent):Bool:=(l.map (·.i))==List.range n&&l.all (·.hard)
theorem Rc {N0}(I:NOk N0 w0){sh id ops l K Q}(hl:Oi ops.size l=true)(h:Rel av w0 e0 [] [] a w e st)(hs:QN P sh N0 ops l [] st K)(J:∀ a w e st,K st->Rel av w0 e0 [] [] a w e st->Q .normal a w):(Code.region id ops false).wp P Q a w:=by
 simp only[Oi,oL,mG,ob]at hl;refine wp_region ?_;rw[<-hl.1];exact NF I J l a w e st hl.2 h hs
variable {av:Nat->Prop} {P:Program} {w0 w w':World} {e0 e:Env} {pS pS' pB pB':aI} {a:Act} {st st':St}
def C5 (ops:Array Oper)(i:Nat):List Ent->Bool
 | []=>true
 | b::bs=>Wn ops b.i i||(!b.hard&&C5 ops i bs)
def zA4 (ops:Array Oper) (bf:List Ent) (en:Ent) (I:List Ent):Bool:=
 match ops[en.i]? with
 | none=>false
 | some o=>
   (o.after.toList.all λe=>!Region.binds .any e||bf.any λb=>b.i==e.on) &&
   C5 ops en.i bf &&
   (bf.all λb=>match Ax ops b.i with
    | none=>true
    | some d=>!(o.looksAt ops).contains d||Wn ops b.i en.i) &&
   (I.all λr=>match Ax ops r.i with
    | none=>true
    | some d=>!((o.looksAt ops).contains d||o.dst==some d)||(r.hard&&Wn ops en.i r.i)) &&
   (en.hard||match o.dst with
    | none=>true
    | some d=>!(o.looksAt ops).contains d)
def VA (ops:Array Oper):List Ent->List Ent->Bool
 | _,[]=>true
 | bf,en::l=>zA4 ops bf en l&&VA ops (en::bf) l
def P5:aI->Bool
 | []=>true
 | k::ks=>!ks.contains k&&P5 ks
def chk (ops:Array Oper)(ord:List Ent):Bool:=
 ord.length==ops.size&&P5 (ord.map (·.i))&&((List.range ops.size).all λi=>ord.any λb=>b.i==i)&&VA ops [] ord
structure Spot (ops:Array Oper) (l1:List Ent) (en:Ent) (l2:List Ent) (o:Oper):Prop where
 op:ops[en.i]?=some o
 ed:∀ e∈o.after,Region.binds .any e=true->∃ b∈l1,b.i=e.on
 hd:C5 ops en.i l1.reverse=true
 pr:∀ b∈l1,∀ d,Ax ops b.i=some d->d∈o.looksAt ops->Wn ops b.i en.i=true
 af:∀ r∈l2,∀ d,Ax ops r.i=some d->(d∈o.looksAt ops\/o.dst=some d)->r.hard=true/\Wn ops en.i r.i=true
 se:en.hard=false->∀ d,o.dst=some d->d∉o.looksAt ops
theorem Sf {ops l1 en l2}(h:zA4 ops l1.reverse en l2=true):∃ o,Spot ops l1 en l2 o:=by
 unfold zA4 at h;split at h
 ·cases h
 ·rename_i o U;simp only[oL,ob]at h;obtain⟨⟨⟨⟨Y,h2⟩,h3⟩,h4⟩,O⟩:=h;refine⟨o,U,λe he hb=>?_,h2,λb hb d hd hm=>?_,λr hr d hd hm=>?_,λhh d hd hm=>?_⟩
  ·have:=Y e (nB.2 he)
   rw[hb]at this;simp only[lG,Bool.false_or,List.any_eq_true,mG]at this;obtain⟨b,I,J⟩:=this;exact⟨b,mb.1 I,J⟩
  ·have:=h3 b (mb.2 hb)
   rw[hd]at this;simpa [hm]using this
  ·have:=h4 r hr
   rw[hd]at this;rcases hm with hm | hm
   ·simpa [hm]using this
   ·simpa [hm]using this
  ·rw[hh,hd]at O;simp[hm]at O
theorem JW {ops}:∀(l bf:List Ent),VA ops bf.reverse l=true->∀ l1 en l2,l=l1++en::l2->∃ o,Spot ops (bf++l1) en l2 o
 | [],bf,_,l1,en,l2,h=>by cases l1<;>cases h
 | x :: l,bf,hc,l1,en,l2,h=>by
   simp only[VA,oL]at hc;cases l1 with
   | nil=>cases h;simpa using Sf hc.1
   | cons y l1=>
     cases h
     have:=JW _ (bf++[x]) (by simpa using hc.2) l1 en l2 rfl
     simpa using this
theorem C6 {ops i}:∀(l m:List Ent),C5 ops i (l++m)=true->(∃ b∈l,b.hard=true)->∃ b∈l,Wn ops b.i i=true
 | [],m,_,h=>by simp at h
 | b :: l,m,h,O=>by
   simp only[oq,C5,mB,oL,nM]at h;rcases h with h | ⟨U,Y⟩
   ·exact⟨b,aB,h⟩
   ·obtain⟨x,hx,I⟩:=O;rcases oK.1 hx with rfl | hx
    ·rw[U]at I;cases I
    ·obtain⟨y,hy,J⟩:=C6 l m Y ⟨x,hx,I⟩;exact⟨y,by simp[hy],J⟩
theorem HO:∀ {l:aI},P5 l=true->l.Nodup
 | [],_=>mR
 | k::ks,h=>by
   simp only[P5,oL,nM]at h;refine mA.2 ⟨λhc=>?_,HO h.2⟩
   have:=h.1
   simp[hc]at this
structure Chk (ops:Array Oper) (ord:List Ent):Prop where
 len:ord.length=ops.size
 nd:(ord.map (·.i)).Nodup
 all:∀ i,i<ops.size->∃ b∈ord,b.i=i
 at_:∀ l1 en l2,ord=l1++en::l2->∃ o,Spot ops l1 en l2 o
theorem VB {ops ord}(h:chk ops ord=true):Chk ops ord:=by
 simp only[chk,oL,mG,ob]at h;obtain⟨⟨⟨I,J⟩,O⟩,U⟩:=h;refine⟨I,HO J,λi hi=>?_,λl1 en l2 hl=>by simpa using JW ord [] (by simpa using U) l1 en l2 hl⟩
 have:=O i (List.mem_range.2 hi)
 simpa using this
def Uh (ops:Array Oper)(pend:Pend):aI:=pend.filterMap λx=>Ax ops x.1
def Vz (pend:Pend):aI:=pend.filterMap (·.2)
theorem P1 {ops pend t}:t∈Uh ops pend↔∃ x∈pend,Ax ops x.1=some t:=nk
theorem w8 {pend k}:k∈Vz pend↔∃ x∈pend,x.2=some k:=nk
structure RI (P:Program) (sh:aL->List Sh) (ops:Array Oper) (ord:List Ent) (K:St->Prop) (av:Nat->Prop) (w0:World) (e0:Env) (N0:Option Nat)
  (done rest:List Ent) (nv pend:Pend) (listed:Array Bool) (a:Act) (w:World) (e:Env) (st:St):Prop where
 ord:ord=done++rest
 rel:Rel av w0 e0 (Uh ops pend) (Vz pend) a w e st
 pb:∀ k∈Vz pend,k<st.bx.length
 pd:∀ x∈pend,∃ en∈done,en.i=x.1/\en.hard=false
 nd:pend.Nodup
 un:∀ x∈pend,∀ y∈pend,x.1=y.1->x=y
 bu:∀ x∈pend,∀ y∈pend,∀ k,x.2=some k->y.2=some k->x=y
 pr:∀ x∈pend,zBy ops P st x
 ls:listed.size=ops.size
 li:∀ i,i<ops.size->(listed.getD i false=true↔(∃ en∈done,en.i=i)/\∀ x∈pend,x.1≠i)
 nvs:∀ x∈pend,x∈nv
 lc:∀ m,listed.getD m false=true->∀ i∈Ir ops m,listed.getD i false=true
 f:QN P sh N0 ops rest nv st K
section
variable {N0:Option Nat} {sh:aL->List Sh} {ops:Array Oper} {ord:List Ent} {K:St->Prop} {done rest:List Ent} {nv pend:Pend} {listed:Array Bool}
theorem D9 {i j}(O:j∈Region.ready .any ops listed)(J:Wn ops i j=true):listed.getD i false=true:=by obtain⟨_,o,U,I⟩:=mem_ready.1 O;unfold Wn at J;rw[U]at J;simp only[Array.any_eq_true,oL,mG]at J;obtain⟨n,Y,h1,h2⟩:=J;rw[<-h1];exact I _ (Array.getElem_mem Y) h2
theorem HX {j}(J:j∈Region.ready .any ops listed):∀ i∈Ir ops j,listed.getD i false=true:=by obtain⟨_,o,O,I⟩:=mem_ready.1 J;intro i hi;simp only[Ir,O,oT,mM]at hi;obtain⟨e,⟨U,hb⟩,rfl⟩:=hi;exact I e (nB.1 U) hb
theorem TI {j}(O:j∈Region.ready .any ops listed)(h:∀ m,listed.getD m false=true->∀ i∈Ir ops m,listed.getD i false=true) :
  ∀ m,(listed.setIfInBounds j true).getD m false=true->∀ i∈Ir ops m,(listed.setIfInBounds j true).getD i false=true:=λm J i hi=>by
 refine getD_set_true ?_;by_cases I:j=m
 ·subst I;exact HX O i hi
 ·rw[getD_set_ne false I]at J;exact h m J i hi
theorem Yf (hc:Chk ops ord)(h:RI P sh ops ord K av w0 e0 N0 done rest nv pend listed a w e st){en}(I:en∈ord):en.i<ops.size:=by obtain⟨l1,l2,hl⟩:=mg I;obtain⟨o,J⟩:=hc.at_ l1 en l2 hl;exact(oW.1 J.op).1
theorem qB (hc:Chk ops ord)(h:RI P sh ops ord K av w0 e0 N0 done rest nv pend listed a w e st){x:Nat × Option Nat}(J:x∈pend):listed.getD x.1 false≠true:=by obtain⟨en,O,U,_⟩:=h.pd x J;have I:=Yf hc h (en:=en) (by rw[h.ord];simp[O]);rw[U]at I;intro hl;exact((h.li x.1 I).1 hl).2 x J rfl
theorem Ha (hc:Chk ops ord)(h:RI P sh ops ord K av w0 e0 N0 done rest nv pend listed a w e st){l1 l2 en o}(hl:ord=l1++en::l2)(J:Spot ops l1 en l2 o)(hr:en.i∈Region.ready .any ops listed)(hp:en.hard=true->∀ x∈pend,x.1≠en.i):∀ t∈o.looksAt ops,t∉Uh ops pend:=by
 intro t O U;obtain⟨x,Y,hd⟩:=P1.1 U;obtain⟨ex,h1,h2,h3⟩:=h.pd x Y;have I:ex∈l1++en::l2:=by rw[<-hl,h.ord];simp[h1]
 rw[<-h2]at hd;rcases oM.1 I with hm | hm
 ·have he:=D9 hr (J.pr ex hm t hd O);rw[h2]at he;exact qB hc h Y he
 ·rcases oK.1 hm with rfl | hm
  ·refine J.se h3 t ?_ O;simpa [Ax,J.op]using hd
  ·have:=(J.af ex hm t hd (.inl O)).1
   rw[h3]at this;cases this
theorem Mw {j}{d:Bool}(I:j<listed.size) i:(listed.setIfInBounds j true).getD i false=true↔i=j\/listed.getD i false=true:=by
 by_cases h:j=i
 ·subst h;simp[I]
 ·rw[getD_set_ne false h];constructor
  ·exact .inr
  ·rintro(h1 | h1)
   ·exact absurd h1.symm h
   ·exact h1
theorem NN (hc:Chk ops ord)(h:RI P sh ops ord K av w0 e0 N0 done rest nv pend listed a w e st){x:Nat × Option Nat}(hx:x∈pend)(hr:x.1∈Region.ready .any ops listed){next Q}(hn:∀ a' w' e',RI P sh ops ord K av w0 e0 N0 done rest nv (pend.erase x) (listed.setIfInBounds x.1 true) a' w' e' st->next a' w'):wpOp P ops Q x.1 next a w:=by
 obtain⟨en,al,hi,hh⟩:=h.pd x hx;obtain⟨l1,l2,hl⟩:=mg (show en∈ord by rw[h.ord];simp[al]);obtain⟨o,ho⟩:=hc.at_ l1 en l2 hl;have Y:=Ha hc h hl ho (by rw[hi];exact hr) (by rw[hh];intro hc;cases hc);have ac:=ho.op;rw[hi]at ac;have hd:Ax ops x.1=o.dst:=by simp[Ax,ac]
 have J:∀ y,y∈pend.erase x↔y≠x/\y∈pend:=λy=>List.Nodup.mem_erase_iff h.nd;have az:x.1<listed.size:=by rw[h.ls];exact(oW.1 ac).1
 have ao:∀ i,i∈Uh ops pend->some i≠o.dst->i∈Uh ops (pend.erase x):=λi ah a6=>by obtain⟨y,O,aq⟩:=P1.1 ah;refine P1.2 ⟨y,(J y).2 ⟨λab=>a6 ?_,O⟩,aq⟩;subst ab;rw[<-aq,hd]
 have ae:∀ a' w' e',Rel av w0 e0 (Uh ops (pend.erase x)) (Vz (pend.erase x)) a' w' e' st->next a' w':=λa' w' e' hR=>hn a' w' e' {
  ord:=h.ord
  rel:=hR
  pb:=λk U=>by obtain⟨y,O,I⟩:=w8.1 U;exact h.pb k (w8.2 ⟨y,((J y).1 O).2,I⟩)
  pd:=λy O=>h.pd y ((J y).1 O).2
  nd:=h.nd.erase x
  un:=λy O z hz=>h.un y ((J y).1 O).2 z ((J z).1 hz).2
  bu:=λy O z hz=>h.bu y ((J y).1 O).2 z ((J z).1 hz).2
  pr:=λy O=>h.pr y ((J y).1 O).2
  ls:=by simp[h.ls]
  li := λi ah=>by
   rw[Mw (d:=false) az i];constructor
   ·rintro(rfl | h1)
    ·refine⟨⟨en,al,hi⟩,λy O ab=>?_⟩
     have:=(J y).1 O
     exact this.1 (h.un y this.2 x hx ab)
    ·have:=(h.li i ah).1 h1
     exact⟨this.1,λy O=>this.2 y ((J y).1 O).2⟩
   ·rintro⟨h1,h2⟩
    by_cases au:i=x.1
    ·exact .inl au
    ·refine .inr ((h.li i ah).2 ⟨h1,λy O aw=>?_⟩);by_cases ab:y=x
     ·subst ab;exact au aw.symm
     ·exact h2 y ((J y).2 ⟨ab,O⟩) aw
  nvs:=λy O=>h.nvs y ((J y).1 O).2
  lc:=TI hr h.lc
  f:=h.f }
 obtain⟨o',ax,U⟩:=h.pr x hx;rw[ac]at ax;cases ax;unfold wpOp;rw[ac];simp only;rcases U with⟨hw,_,r,q,h2,h3,h4,h5⟩ | ⟨hw,hb,h3⟩
 ·rw [if_pos (Nz h.rel hw Y)];refine .inl ?_;have ai:∀ B f,r=.b B f->∃ k,x.2=some k:=λB f hr=>by
   subst hr;cases aa:x.2 with
   | none=>rw[aa]at h3;cases h3
   | some k=>exact⟨k,rfl⟩
  obtain⟨v,w',e',g1,g2⟩:=V9 h.rel (o:=o) (r:=r) (k:=x.2.getD 0) (λy O t ht=>Y t (sc O ht)) h2 (λd a7 a8=>by
   rw[h4 d a7 a8];cases r with
   | v p=>cases aa:x.2<;>rw[aa]at h3<;>simp[WC]at h3;simp[h3]
   | b B f=>obtain⟨k,U⟩:=ai B f rfl;rw[U]at h3;simp[WC]at h3;simp[U,h3]) (λB f ay=>by
   obtain⟨k,U⟩:=ai B f ay;rw[U];exact⟨h5 B f k ay U,w8.2 ⟨x,hx,U⟩⟩) ao
  unfold Oper.wp;rw[g1,Oper.upon_value];refine ae _ _ _ (AD g2 (λk=>?_) λ_=>id);cases r with
  | v p=>
    have aa:x.2=none:=by cases aa:x.2<;>rw[aa]at h3<;>simp[WC]at h3<;>rfl
    simp only[Res.isB,mF,ni];constructor
    ·intro U;obtain⟨y,O,I⟩:=w8.1 U;exact w8.2 ⟨y,((J y).1 O).2,I⟩
    ·intro U;obtain⟨y,O,I⟩:=w8.1 U;exact w8.2 ⟨y,(J y).2 ⟨λhc=>(by rw[hc,aa]at I;cases I),O⟩,I⟩
  | b B f=>
    obtain⟨k0,aj⟩:=ai B f rfl;simp only[Res.isB,mI,aj,nA,mM,oh,ne_eq];constructor
    ·intro U;obtain⟨y,O,I⟩:=w8.1 U
     have:=(J y).1 O
     exact⟨w8.2 ⟨y,this.2,I⟩,λak=>this.1 (h.bu y this.2 x hx k I (by rw[aj,ak]))⟩
    ·rintro⟨U,ak⟩
     obtain⟨y,O,I⟩:=w8.1 U;exact w8.2 ⟨y,(J y).2 ⟨λhc=>(by rw[hc,aj]at I;cases I;exact ak rfl),O⟩,I⟩
 ·rw[if_neg (by rw[NI h.rel hw Y];simp)];have h4:=wE h.rel (dst:=o.dst) Hy ao;rw[St.put_same h3]at h4;refine ae _ _ _ (AD h4 (λk=>?_) λ_=>id);constructor
  ·intro U;obtain⟨y,O,I⟩:=w8.1 U;exact w8.2 ⟨y,((J y).1 O).2,I⟩
  ·intro U;obtain⟨y,O,I⟩:=w8.1 U;exact w8.2 ⟨y,(J y).2 ⟨λhc=>(by rw[hc,hb]at I;cases I),O⟩,I⟩
theorem tk {l1 l2:List Ent}{en}(h:((l1++en::l2).map (·.i)).Nodup):∀ x∈l1,x.i≠en.i:=by intro x I hc;rw[mm,nV]at h;exact h.2.2 x.i (oT.2 ⟨x,I,rfl⟩) en.i aB hc
theorem HZ (hc:Chk ops ord){en}(hh:en.hard=false)(h:RI P sh ops ord K av w0 e0 N0 done (en::rest) nv pend listed a w e st) :
  ∃ b nv' e' st',RI P sh ops ord K av w0 e0 N0 (done++[en]) rest nv' ((en.i,b)::pend) listed a w e' st':=by
 obtain⟨o,ho⟩:=hc.at_ done en rest h.ord;have ai:=hc.nd;rw[h.ord]at ai;have O:∀ x∈pend,x.1≠en.i:=λx hx=>by obtain⟨ex,h1,Y,_⟩:=h.pd x hx;rw[<-Y];exact tk ai ex h1
 have hf:=h.f;simp only[QN,ho.op,hh]at hf;have fin:∀(b:Option Nat) (nv':Pend) (e':Env) (st':St),nv'=(en.i,b)::nv->Rel av w0 e0 (Uh ops ((en.i,b)::pend)) (Vz ((en.i,b)::pend)) a w e' st'->(∀ k,b=some k->st.bx.length<=k/\k<st'.bx.length)->Stp [] [] o.dst st st' ->
   Y3 ops P st' o b->QN P sh N0 ops rest nv' st' K->RI P sh ops ord K av w0 e0 N0 (done++[en]) rest nv' ((en.i,b)::pend) listed a w e' st':=λb nv' e' st' az hR hb I hK hF=>{
  ord:=by rw[h.ord];simp
  rel:=hR
  pb:=λk J=>by
   obtain⟨y,hy,aa⟩:=w8.1 J;rcases oK.1 hy with rfl | hy
   ·exact(hb k aa).2
   ·exact o7 (h.pb k (w8.2 ⟨y,hy,aa⟩)) I.bl
  pd:=λx hx=>by
   rcases oK.1 hx with rfl | hx
   ·exact⟨en,aB,rfl,hh⟩
   ·obtain⟨ex,h1,Y⟩:=h.pd x hx;exact⟨ex,by simp[h1],Y⟩
  nd:=mA.2 ⟨λhm=>O _ hm rfl,h.nd⟩
  un:=λx hx y hy aj=>by
   rcases oK.1 hx with rfl | hx<;>rcases oK.1 hy with rfl | hy
   ·rfl
   ·exact absurd aj.symm (O y hy)
   ·exact absurd aj (O x hx)
   ·exact h.un x hx y hy aj
  bu:=λx hx y hy k ak aa=>by
   rcases oK.1 hx with rfl | hx<;>rcases oK.1 hy with rfl | hy
   ·rfl
   ·have:=(hb k ak).1;have:=h.pb k (w8.2 ⟨y,hy,aa⟩);omega
   ·have:=(hb k aa).1;have:=h.pb k (w8.2 ⟨x,hx,ak⟩);omega
   ·exact h.bu x hx y hy k ak aa
  pr:=λx hx=>by
   rcases oK.1 hx with rfl | hx
   ·exact⟨o,ho.op,hK⟩
   ·obtain⟨ox,au,a6⟩:=h.pr x hx;refine⟨ox,au,GF a6 I (λ_ h=>h) (.inl GK) λd hd=>?_⟩;obtain⟨ex,h1,Y,h3⟩:=h.pd x hx;obtain⟨m1,m2,hm⟩:=mg h1;obtain⟨a7,aw⟩:=hc.at_ m1 ex (m2++en::rest) (by rw[h.ord,hm];simp);have:a7=ox:=by have:=aw.op;rw[Y,au]at this;exact(oZ this).symm
    subst this;have ax:=aw.af en aB d (by simp[Ax,ho.op,hd]);refine⟨λhc=>?_,λhc=>?_⟩
    ·have:=(ax (.inl hc)).1;rw[hh]at this;cases this
    ·have:=(ax (.inr hc)).1;rw[hh]at this;cases this
  ls:=h.ls
  li:=λi hi=>by
   rw[h.li i hi];constructor
   ·rintro⟨⟨x,h1,Y⟩,h3⟩
    refine⟨⟨x,by simp[h1],Y⟩,λy hy=>?_⟩;rcases oK.1 hy with rfl | hy
    ·simp only;rw[<-Y];exact(tk ai x h1).symm
    ·exact h3 y hy
   ·rintro⟨⟨x,h1,Y⟩,h3⟩
    refine⟨⟨x,?_,Y⟩,λy hy=>h3 y (by simp[hy])⟩;rcases oM.1 h1 with h1 | h1
    ·exact h1
    ·simp at h1;subst h1;exact absurd Y (h3 (x.i,b) aB)
  nvs:=λx hx=>by
   subst az;rcases oK.1 hx with rfl | hx
   ·simp
   ·simp[h.nvs x hx]
  lc:=h.lc
  f:=hF }
 have ab:∀ b,Uh ops ((en.i,b)::pend)=o.dst.toList++Uh ops pend:=λb=>by simp only[Uh,mD,Ax,ho.op,oO];cases o.dst<;>rfl
 have al:=ho.se hh;rcases J6 hf with⟨hw,hf⟩ | ⟨hw,hf⟩
 ·split at hf
  rotate_left
  ·exact hf.elim
  rename_i hb;simp only[oL]at hb;obtain⟨bc,a8⟩:=hb;obtain⟨r,hK,hr⟩:=TM _ hf;have hr:=hr (λq=>q=r) rfl;have hR:=WA h.rel o.dst r;have I:Stp [] [] o.dst st (st.push o.dst r):=QW;have ay:∀ y∈o.op.operands,∀ k∈(opd st.sl y).refs,k<st.bx.length:=λy hy k J=>by
   have:=ob.1 (ob.1 a8 y (nB.2 hy)) k J
   simpa using this
  have ah:∀ y∈o.op.operands,opd (st.push o.dst r).sl y=opd st.sl y:=λy hy=>by
   cases y with
   | tmp t=>
     have ae:o.dst≠some t:=λhc=>al t hc (sc hy rfl);simp only[opd];rw[oA,oA];cases hp:st.sl[t]? with
     | none=>have:(st.push o.dst r).sl[t]?=none:=oc (by rw[I.ll];exact mK.1 hp);rw[this]
     | some p=>rw[I.sl t p (λhc=>ae hc.symm) hp aB]
   | _=>rfl
  have ao:Y6 ops o (st.push o.dst r):=λg ac hg=>by obtain⟨og,d,h1,Y,h3⟩:=hw g ac hg;exact⟨og,d,h1,Y,I.sl d _ (λhc=>al d hc.symm (by simp[Oper.looksAt,hg,h1,Y])) h3 aB⟩
  have ba:∀ k,k<st.bx.length->(st.push o.dst r).bx[k]?=st.bx[k]?:=λk J=>by rw[I.bx k _ (oH J) aB aB,oH J]
  have aq:∀ d q,o.dst=some d->d<(st.push o.dst r).sl.length->WC r (r.bk st.bx.length)=some q->(st.push o.dst r).sl[d]?=some q:=λd q hd U hq=>by
   rw[I.ll]at U;cases r with
   | v p=>simp[Res.bk,WC]at hq;subst hq;simp[St.push,St.put,hd,U]
   | b B f=>simp[Res.bk,WC]at hq;subst hq;simp[St.push,St.put,hd,U]
  refine⟨r.bk st.bx.length,(en.i,r.bk st.bx.length)::nv,(if r.isB then e++[none]else e),_,fin _ _ _ _ rfl ?_ ?_ I (.inl ⟨ao,?_,r,?_⟩) hK⟩
  ·rw[ab];refine AD hR (λk=>?_) λ_=>id;cases r with
   | v p=>simp[Res.isB,Res.bk,Vz]
   | b B f=>simp[Res.isB,Res.bk,Vz]
  ·intro k J;cases r with
   | v p=>cases J
   | b B f=>simp[Res.bk]at J;subst J;refine⟨oC _,?_⟩;cases o.dst<;>simp[St.push,St.put]
  ·intro y hy k J;rw[ah y hy]at J
   have:=ay y hy k J
   exact o7 this I.bl
  ·have hq:∃ q,WC r (r.bk st.bx.length)=some q:=by cases r<;>simp[Res.bk,WC]
   obtain⟨q,hq⟩:=hq;refine⟨q,?_,hq,λd hd U=>aq d q hd U hq,λB f k bb J=>?_⟩
   ·rw[HN (ρ:=opd st.sl) (rb:=λk=>st.bx[k]?) ah λy hy k J=>ba k (ay y hy k J)];exact hr
   ·subst bb;simp[Res.bk]at J;subst J;cases o.dst<;>simp[St.push,St.put]
 ·have I:Stp [] [] o.dst st (st.put o.dst (.tp [])):=Stp.put Stp.rfl' _;refine⟨none,(en.i,none)::nv,e,st.put o.dst (.tp []),fin _ _ _ _ rfl ?_ (λk J=>by cases J) I (.inr ⟨?_,rfl,λd hd U=>?_⟩) hf⟩
  ·rw[ab];exact AD (LH h.rel) (λk=>by simp[Vz]) λ_=>id
  ·obtain⟨g,ac,og,d,g1,g2,g3,g4⟩:=hw;have ae:some d≠o.dst:=λhc=>al d hc.symm (by simp[Oper.looksAt,g1,g2,g3]);refine⟨g,ac,og,d,g1,g2,g3,?_⟩;rcases g4 with g4 | g4
   ·exact .inl (I.sl d _ ae g4 aB)
   ·exact .inr (I.sl d _ ae g4 aB)
  ·rw[I.ll]at U;simp[St.put,hd,U]
theorem HY (hc:Chk ops ord):∀(pre rest done:List Ent) (nv pend:Pend) (e:Env) (st:St),(∀ en∈pre,en.hard=false)->RI P sh ops ord K av w0 e0 N0 done (pre++rest) nv pend listed a w e st ->
  ∃ nv' I e' st',RI P sh ops ord K av w0 e0 N0 (done++pre) rest nv' I listed a w e' st'/\I.length=pend.length+pre.length
 | [],rest,done,nv,pend,e,st,_,h=>⟨nv,pend,e,st,by simpa using h,rfl⟩
 | en::pre,rest,done,nv,pend,e,st,U,h=>by obtain⟨b,J,e1,O,Y⟩:=HZ hc (U en aB) h;obtain⟨nv',I,e',st',h2,h3⟩:=HY hc pre rest (done++[en]) J _ e1 O (λx hx=>U x (by simp[hx])) Y;exact⟨nv',I,e',st',by simpa using h2,by rw[h3];simp;omega⟩
theorem R3 (bi:NOk N0 w0)(hc:Chk ops ord){Q}(hQ:∀ a w e st,K st->Rel av w0 e0 [] [] a w e st->Q .normal a w) :
  ∀ (Y:Nat) (done rest:List Ent) (nv pend:Pend) (listed:Array Bool) (a:Act) (w:World) (e:Env) (st:St),RI P sh ops ord K av w0 e0 N0 done rest nv pend listed a w e st->Y=rest.length+pend.length ->
    wpAny P .any ops Q Y listed a w:=by
 have fin:∀(done rest:List Ent) (nv pend:Pend) (listed:Array Bool) (a:Act) (w:World) (e:Env) (st:St),RI P sh ops ord K av w0 e0 N0 done rest nv pend listed a w e st->rest=[]->pend=[]->Q .normal a w:=by intro done rest nv pend listed a w e st h hr hp;subst hr;subst hp;exact hQ a w e st h.f h.rel
 have prog:∀(done rest:List Ent) (nv pend:Pend) (listed:Array Bool) (a:Act) (w:World) (e:Env) (st:St),RI P sh ops ord K av w0 e0 N0 done rest nv pend listed a w e st->Region.ready .any ops listed=[]->rest=[]/\pend=[]:=by
  intro done rest nv pend listed a w e st h hr
  have key:∀(l1 l2:List Ent),ord=l1++l2->∀ en∈l1,listed.getD en.i false=true:=by
   intro l1
   suffices ∀ n,∀ l1 l2:List Ent,l1.length=n->ord=l1++l2->∀ en∈l1,listed.getD en.i false=true from λl2=>this l1.length l1 l2 rfl
   intro n
   induction n with
   | zero=>intro l1 l2 hl _ en O;simp at hl;subst hl;simp at O
   | succ n ih=>
     intro l1 l2 hl ho en O;rcases List.eq_nil_or_concat l1 with rfl | ⟨m,x,rfl⟩
     ·simp at hl
     ·rw [List.concat_eq_append]at hl ho O;simp only[oG,oJ,oN]at hl;have hm:=ih m (x::l2) aA (by rw[ho];simp);rcases oM.1 O with h1 | h1
      ·exact hm en h1
      ·simp at h1;subst h1;obtain⟨o,hs⟩:=hc.at_ m en l2 (by rw[ho];simp);cases ak:listed.getD en.i false with
       | true=>rfl
       | false=>
         exfalso;have U:=(oW.1 hs.op).1;have:en.i∈Region.ready .any ops listed:=mem_ready.2 ⟨by
          rw[nC]at ak ⊢;rw[o6 (by rw[h.ls];exact U)]at ak ⊢;exact ak,o,hs.op,λe he hb=>by
          obtain⟨b,bj,bm⟩:=hs.ed e he hb;rw[<-bm];exact hm b bj⟩
         rw[hr]at this;simp at this
  have ay:=key ord [] aB;have az:∀ en∈ord,(∃ x∈done,x.i=en.i)/\∀ x∈pend,x.1≠en.i:=λen O=>(h.li en.i (Yf hc h O)).1 (ay en O);constructor
  ·cases al:rest with
   | nil=>rfl
   | cons en l=>exfalso;have ho:=h.ord;rw[al]at ho;obtain⟨⟨x,J,bp⟩,_⟩:=az en (by rw[ho];simp);have ai:=hc.nd;rw[ho]at ai;exact tk ai x J bp
  ·cases ae:pend with
   | nil=>rfl
   | cons x l=>exfalso;obtain⟨en,h1,h2,_⟩:=h.pd x (by rw[ae];simp);exact(az en (by rw[h.ord];simp[h1])).2 x (by rw[ae];simp) h2.symm
 intro Y
 induction Y with
 | zero=>
   intro done rest nv pend listed a w e st h hf;have h1:rest=[]:=oV aA;have h2:pend=[]:=oV aA;refine⟨?_,fin _ _ _ _ _ _ _ _ _ h h1 h2⟩;subst h1;subst h2;cases hr:Region.ready .any ops listed with
   | nil=>rfl
   | cons j l=>
     exfalso;have hj:j∈Region.ready .any ops listed:=by rw[hr];simp
     obtain⟨g1,o,g2,_⟩:=mem_ready.1 hj;have U:=(oW.1 g2).1;obtain⟨b,hb,bq⟩:=hc.all j U;have ho:=h.ord;rw[o8]at ho
     have:=(h.li j U).2 ⟨⟨b,by rw[<-ho];exact hb,bq⟩,aB⟩
     rw[nC]at this g1;rw[o6 (by rw[h.ls];exact U)]at this g1;simp only[nA]at this g1;rw[this]at g1;cases g1
 | succ Y ih=>
   intro done rest nv pend listed a w e st h hf;refine⟨λhr=>by obtain⟨h1,h2⟩:=prog _ _ _ _ _ _ _ _ _ h hr;exact fin _ _ _ _ _ _ _ _ _ h h1 h2,λj hj=>?_⟩;by_cases a6:∃ x∈pend,x.1=j
   ·obtain⟨x,J,rfl⟩:=a6;refine NN hc h J hj λa' w' e' I=>ih _ _ _ _ _ _ _ _ _ I ?_
    have:=List.length_erase_of_mem J
    have:=List.length_pos_of_mem J
    omega
   ·have bt:∀ x∈pend,x.1≠j:=λx J hc=>a6 ⟨x,J,hc⟩;obtain⟨g1,oj,g2,g3⟩:=mem_ready.1 hj;have U:=(oW.1 g2).1;obtain⟨en,O,hi⟩:=hc.all j U;have bv:listed.getD j false=false:=by rw[nC]at g1 ⊢;rw[o6 (by rw[h.ls];exact U)]at g1 ⊢;exact g1
    have ai:∀ x∈done,x.i≠j:=λx J bw=>by
     have:=(h.li j U).2 ⟨⟨x,J,bw⟩,bt⟩
     rw[bv]at this;cases this
    have bz:en∈rest:=by
     rw[h.ord]at O;rcases oM.1 O with h1 | h1
     ·exact absurd hi (ai en h1)
     ·exact h1
    obtain⟨pre,post,ah⟩:=mg bz;obtain⟨o,hs⟩:=hc.at_ (done++pre) en post (by rw[h.ord,ah];simp);have a7:∀ b∈pre,b.hard=false:=by
     intro b hb;cases b3:b.hard with
     | false=>rfl
     | true=>
       exfalso;have a8:=hs.hd;rw[List.reverse_append]at a8;obtain⟨x,J,ao⟩:=C6 pre.reverse done.reverse a8 ⟨b,mb.2 hb,b3⟩;have b7:=D9 (by rw[hi];exact hj) ao;have b8:x∈ord:=by rw[h.ord,ah];simp[mb.1 J]
       obtain⟨⟨y,hy,b9⟩,_⟩:=(h.li x.i (Yf hc h b8)).1 b7;have aa:=hc.nd;obtain⟨q1,q2,hq⟩:=mg (mb.1 J);have ho:ord=(done++q1)++x::(q2++en::post):=by rw[h.ord,ah,hq];simp
       rw[ho]at aa;exact tk aa y (by simp[hy]) b9
    rw[ah]at h;obtain⟨nv',ab,e',st',I,cg⟩:=HY hc pre (en::post) done nv pend e st a7 h;have ch:rest.length=pre.length+(post.length+1):=by rw[ah];simp
    cases hh:en.hard with
    | false=>
      obtain⟨b,cj,e2,st2,h2⟩:=HZ hc hh I;have ca:(en.i,b).1∈Region.ready .any ops listed:=by rw[<-hi]at hj;exact hj
      rw[<-hi];refine NN hc h2 (x:=(en.i,b)) aB ca λa' w' e' h3=>ih _ _ _ _ _ _ _ _ _ h3 ?_;rw[List.length_erase_of_mem aB];simp only[oJ];omega
    | true=>
      have aj:∀ x∈ab,x.1≠en.i:=λx J ao=>by obtain⟨ex,k1,k2,_⟩:=I.pd x J;have aa:=hc.nd;rw[I.ord]at aa;exact tk aa ex k1 (by rw[k2,ao])
      have aq:=Ha hc I I.ord hs (by rw[hi];exact hj) (λ_=>aj);have ba:=I.f;simp only[QN,hs.op,hh]at ba;rw[<-hi];have au:∀ x∈ab,x∈LR ops en.i nv':=λx J=>by
       have bb:=I.nvs x J;unfold LR;split
       ·simp at bb
       ·refine mM.2 ⟨bb,?_⟩;cases cc:(XU ops 1000 (Ir ops en.i) []).contains x.1 with
        | false=>rfl
        | true=>
          have hm:x.1∈XU ops 1000 (Ir ops en.i) []:=by simpa using cc
          exact absurd (KY (A:=λk=>listed.getD k false=true) I.lc 1000 _ [] (HX (by rw[hi];exact hj)) aB x.1 hm) (qB hc I J)
      refine Mp I.rel bi I.pb (pf:=LR ops en.i nv') (λt ht=>by
       obtain⟨x,J,hd⟩:=P1.1 ht;exact⟨x,au x J,hd⟩) (λk hk=>by
       obtain⟨x,J,hd⟩:=w8.1 hk;exact⟨x,au x J,hd⟩) hs.op aq ba λv w' e2 st2 k1 k0 k2 k3=>?_
      refine ih (done++pre++[en]) post nv' ab _ _ _ e2 st2 {
       ord:=by rw[I.ord];simp
       rel:=k3
       pb:=λk hk=>o7 (I.pb k hk) k0
       pd:=λx J=>by obtain⟨ex,m1,m2⟩:=I.pd x J;exact⟨ex,by simp at m1 ⊢;rcases m1 with m1 | m1<;>simp[m1],m2⟩
       nd:=I.nd
       un:=I.un
       bu:=I.bu
       pr:=λx J=>by
        obtain⟨ox,aw,cd⟩:=I.pr x J;refine⟨ox,aw,k2 x (au x J) ox aw cd λd hd=>?_⟩;obtain⟨ex,m1,m2,m3⟩:=I.pd x J;obtain⟨q1,q2,hq⟩:=mg m1;obtain⟨ax,bc⟩:=hc.at_ q1 ex (q2++en::post) (by rw[I.ord,hq];simp);have:ax=ox:=by have:=bc.op;rw[m2,aw]at this;exact(oZ this).symm
        subst this;have ce:=bc.af en aB d (by simp[Ax,hs.op,hd]);have bg:∀ ac:(d∈ax.looksAt ops\/ax.dst=some d),False:=λac=>by have he:=(ce ac).2;rw[m2]at he;exact qB hc I J (D9 (by rw[hi];exact hj) he)
        exact⟨λac=>bg (.inl ac),λac=>bg (.inr ac)⟩
       ls:=by simp[I.ls]
       li := λi bh=>by
        have cf:en.i<listed.size:=by rw[I.ls,hi];exact U
        rw[Mw (d:=false) cf i];constructor
        ·rintro(rfl | m1)
         ·exact⟨⟨en,aB,rfl⟩,aj⟩
         ·obtain⟨⟨x,m2,m3⟩,m4⟩:=(I.li i bh).1 m1;exact⟨⟨x,by simp at m2 ⊢;rcases m2 with m2 | m2<;>simp[m2],m3⟩,m4⟩
        ·rintro⟨⟨x,m1,m2⟩,m3⟩
         rcases oM.1 m1 with m1 | m1
         ·exact .inr ((I.li i bh).2 ⟨⟨x,m1,m2⟩,m3⟩)
         ·simp at m1;subst m1;exact .inl m2.symm
       nvs:=I.nvs
       lc:=TI (by rw[hi];exact hj) I.lc
       f:=k1 } ?_
      omega
end
theorem Rb {N0}(J:NOk N0 w0){sh id ops ord K Q}(I:P.follows .mixedOrders=true)(hc:chk ops ord=true)(h:Rel av w0 e0 [] [] a w e st)(hs:QN P sh N0 ops ord [] st K)(U:∀ a w e st,K st->Rel av w0 e0 [] [] a w e st->Q .normal a w):(Code.region id ops true).wp P Q a w:=by
 have O:=VB hc;refine wp_region_any I ?_;have Y:Rel av w0 e0 [] [] a { w with drawn:=w.drawn+1 } e st:=zAJ (QP h (w':={ w with drawn:=w.drawn+1 }) (oC _) (λ_ _=>rfl) λb c t z hb hc=>by have:=(oW.1 hc).1;simp at this;omega) h.hN;refine R3 J O U ops.size [] ord [] [] _ a _ e st {
  ord:=rfl
  rel:=Y
  pb:=by simp[Vz]
  pd:=aB
  nd:=mR
  un:=aB
  bu:=aB
  pr:=aB
  ls:=aB
  li:=λi hi=>by simp[hi]
  nvs:=aB
  lc:=λm I=>by exfalso;rw[nC,Array.getElem?_replicate]at I;split at I<;>simp at I
  f:=hs } (by simp[O.len])
variable {av:Nat->Prop} {P:Program} {w0 w w':World} {e0 e:Env} {pS pS' pB pB':aI} {a:Act} {st st':St}
def zAr w e live(p q:PV):=q=.any\/(p≠.any/\p.val e=q.val e/\(p.Ok w live->q.Ok w live)/\∀ k∈q.refs,k∈p.refs)
theorem T5 (h:Rel av w0 e0 pS pB a w e st){O}(hl:O.length<=st.sl.length)(hs:∀(i:Nat) (q:PV),O[i]?=some q->q=.any\/∃ p,st.sl[i]?=some p/\zAr w e (za av pB e st.bx) p q):Rel av w0 e0 pS pB a w e { st with sl:=O }:={
 h with
 nd:=h.nd
 sz:=oR hl h.sz
 hs:=λi q hi U=>by
  rcases hs i q hi with I | ⟨p,I,J | ⟨J,Y,h4,h5⟩⟩
  ·exact .inl I
  ·exact .inl J
  ·exact .inr (((h.hs i p I U).resolve_left J).trans Y)
 so:=λi q hi U=>by
  rcases hs i q hi with I | ⟨p,I,J | ⟨J,Y,h4,h5⟩⟩
  ·subst I;trivial
  ·subst J;trivial
  ·exact h4 (h.so i p I U)
 sr:=λi q hi U k hk=>by
  rcases hs i q hi with I | ⟨p,I,J | ⟨J,Y,h4,h5⟩⟩
  ·subst I;simp[PV.refs]at hk
  ·subst J;simp[PV.refs]at hk
  ·exact h.sr i p I U k (h5 k hk) }
def Ot (p:PV):PV:=match p with
 | .pg cs=>match LO cs with
   | some ds=>.dg cs.length (.ag ds)
   | none=>.pg cs
 | p=>p
theorem Jo {live p}(I:p.Ok w live):zAr w e live p (Ot p):=by
 have same:∀ p:PV,zAr w e live p p:=λp=>by
  by_cases O:p=.any
  ·exact .inl O
  ·exact .inr ⟨O,rfl,id,λ_=>id⟩
 cases p
 case pg cs=>
  simp only[Ot];split
  ·rename_i ds J;simp only[PV.Ok]at I;have U:=rg (e:=e) J I.1;exact .inr ⟨aB,by rw[show(PV.pg cs).val e=(PV.pg cs).val1 e from rfl];exact((UT J I.1 (e:=e)).symm.trans rfl),λ_=>⟨Good.ag λd hd=>(U.1 d hd).1,ds,rfl,t7 J,λd hd=>(U.1 d hd).2⟩,by simp[PV.refs]⟩
  ·exact same _
 all_goals exact same _
def Mt (ks:aI):Nat->aN->aN
 | _,[]=>[]
 | i,p::ps=>(match ks.contains i with
   | true=>Ot p
   | false=>.any)::Mt ks (i+1) ps
theorem E0 {ks}:∀(l:aN)(i:Nat),(Mt ks i l).length=l.length
 | [],i=>rfl
 | p::l,i=>by simp[Mt,E0 l]
theorem Mu {ks}:∀(l:aN)(i j:Nat)(q:PV),(Mt ks i l)[j]?=some q->∃ p,l[j]?=some p/\(q=.any\/q=Ot p)
 | [],i,j,q,h=>by simp[Mt]at h
 | p :: l,i,j,q,h=>by
   cases j with
   | zero=>
     simp only[Mt,lI,od]at h;refine⟨p,rfl,?_⟩;split at h
     ·exact .inr h.symm
     ·exact .inl h.symm
   | succ j=>simp only[Mt,nq]at h ⊢;exact Mu l (i+1) j q h
def St.keep (st:St)(ks:aI):St:={ st with sl:=Mt ks 0 st.sl }
theorem T3 (h:Rel av w0 e0 [] pB a w e st) ks:Rel av w0 e0 [] pB a w e (st.keep ks):=
 T5 h (by rw[E0];exact oC _) λi q hi=>by
  obtain⟨p,I,h2 | h2⟩:=Mu _ _ _ _ hi
  ·exact .inl h2
  ·subst h2;exact .inr ⟨p,I,Jo (h.so i p I aB)⟩
def St.nils (st:St):List (Nat × aK × Nat)->St
 | []=>st
 | (t,ty,z)::l=>match st.sl[t]? with
   | some (.sv none _ [] 0)=>St.nils { st with sl:=st.sl.set t (.sb st.bx.length z 0 0 0),bx:=st.bx++[.arr ty z [] 0] } l
   | _=>St.nils st l
theorem LI:∀(l:List (Nat × aK × Nat)) (e:Env) (st:St),Rel av w0 e0 [] [] a w e st->∃ e',Rel av w0 e0 [] [] a w e' (st.nils l)
 | [],e,st,h=>⟨e,h⟩
 | (t, ty,z)::l,e,st,h=>by
   simp only[St.nils];split
   ·rename_i zz ht;have I:=Al h (el:=ty) (z:=z) aB;have O:Env.at (e++[none]) st.bx.length=none:=by rw[<-h.el];exact Env.at_append_eq
    have h2:Rel av w0 e0 [] [] a w (e++[none]) { st with sl:=st.sl.set t (.sb st.bx.length z 0 0 0),bx:=st.bx++[.arr ty z [] 0] }:={
     I with
     nd:=I.nd
     sz:=by simp;exact I.sz
     hs := λi q hi J=>by
      simp only[nU]at hi;split at hi
      ·rename_i U;subst U;split at hi
       ·simp at hi;subst hi
        have:=(I.hs t _ ht aB).resolve_left aB
        right;rw[this];simp[PV.val,PV.val1,PV.cv,O]
       ·cases hi
      ·exact I.hs i q hi J
     so:=λi q hi J=>by
      simp only[nU]at hi;split at hi
      ·split at hi
       ·simp at hi;subst hi;trivial
       ·cases hi
      ·exact I.so i q hi J
     sr:=λi q hi J k Y=>by
      simp only[nU]at hi;split at hi
      ·split at hi
       ·simp at hi;subst hi;simp[PV.refs]at Y;subst Y;simp
       ·cases hi
      ·exact I.sr i q hi J k Y }
    exact LI l _ _ h2
   ·exact LI l e st h
theorem T0 (h:Rel av w0 e0 [] [] a w e st){k cs cs'}(hk:st.bx[k]?=some (.var cs))(hl:cs'.length=cs.length)(hc:∀(i:Nat) (p:PV),cs'[i]?=some p->cs[i]?=some p\/∃ q,cs[i]?=some q/\q≠.any/\p.cv e=q.cv e/\(∀ live,p.Ok w live)/\p.isC/\∀ r∈p.refs,r<st.bx.length) :
  Rel av w0 e0 [] [] a w e { st with bx:=st.bx.set k (.var cs') }:=by
 have ah:=(oD.1 hk).1;have O:∀(j:Nat) (B:Bx),(st.bx.set k (.var cs'))[j]?=some B->(j=k/\B=.var cs')\/(j≠k/\st.bx[j]?=some B):=λj B I=>by
  rw[nU]at I;split at I
  ·rename_i aa
   first
    | (cases I;exact .inl ⟨aa.symm,rfl⟩)
    | (split at I
       ·cases I;exact .inl ⟨aa.symm,rfl⟩
       ·cases I)
  ·rename_i aa;exact .inr ⟨λhc=>aa hc.symm,I⟩
 have U:∀ j b,Lives [] e (st.bx.set k (.var cs')) j b↔Lives [] e st.bx j b:=λj b=>by
  constructor
  ·rintro⟨h1,h2,B,h3,h4⟩
   rcases O j B h3 with⟨rfl,rfl⟩ | ⟨h5,h6⟩
   ·exact⟨h1,h2,_,hk,aB⟩
   ·exact⟨h1,h2,B,h6,h4⟩
  ·rintro⟨h1,h2,B,h3,h4⟩
   by_cases ab:j=k
   ·subst ab;exact⟨h1,h2,.var cs',by rw[nD ah],aB⟩
   ·exact⟨h1,h2,B,by rw[nH (Ne.symm ab)];exact h3,h4⟩
 have J:∀ b,za av [] e (st.bx.set k (.var cs')) b->za av [] e st.bx b:=λb hb=>hb.imp id λ⟨j,I⟩=>⟨j,(U j b).1 I⟩
 have ai:=h.bo k _ hk aB;obtain⟨ac,aj⟩:=ai;rw[PV.OkL_iff]at ac;exact { h with
  el:=by simp;exact h.el
  br := λj B I Y=>by
   rcases O j B I with⟨rfl,rfl⟩ | ⟨_,h6⟩
   ·obtain⟨b,c,t,g1,g2,g3,g4⟩:=h.br _ _ hk aB;refine⟨b,c,t,g1,g2,by rw[g3,hl],λi p hp=>?_⟩;rcases hc i p hp with h7 | ⟨q,h7,h8,h9,_⟩
    ·exact g4 i p h7
    ·rcases g4 i q h7 with h10 | h10
     ·exact absurd h10 h8
     ·exact .inr (by rw[h9];exact h10)
   ·exact h.br j B h6 Y
  bo := λj B I Y=>by
   rcases O j B I with⟨rfl,rfl⟩ | ⟨_,h6⟩
   ·refine⟨PV.OkL_iff.2 λp hp=>?_,λp hp=>?_⟩
    ·obtain⟨i,hi⟩:=oS.1 hp;rcases hc i p hi with h7 | ⟨q,_,_,_,h9,_⟩
     ·exact PV.Ok.mono (λ_ _ _=>rfl) (oC _) (λb _=>J b) p (ac p (oB h7))
     ·exact h9 _
    ·obtain⟨i,hi⟩:=oS.1 hp;rcases hc i p hi with h7 | ⟨q,_,_,_,_,h9,_⟩
     ·exact aj p (oB h7)
     ·exact .inr h9
   ·exact(h.bo j B h6 Y).mono (λ_ _ _=>rfl) (oC _) λb _=>J b
  bf:=λj B I Y i hi=>by
   refine⟨aB,?_⟩;rw[nf];rcases O j B I with⟨rfl,rfl⟩ | ⟨_,h6⟩
   ·simp only[Bx.refs]at hi;obtain⟨p,hp,ae⟩:=PV.refsL_mem.1 hi;obtain⟨n,Y⟩:=oS.1 hp;rcases hc n p Y with h7 | ⟨q,_,_,_,_,_,h9⟩
    ·exact(h.bf _ _ hk aB i (by simp only[Bx.refs];exact PV.refsL_mem.2 ⟨p,oB h7,ae⟩)).2
    ·exact h9 i ae
   ·exact(h.bf j B h6 Y i hi).2
  inj:=λi j b hi I=>h.inj i j b ((U i b).1 hi) ((U j b).1 I)
  so:=λi p hp Y=>PV.Ok.mono (λ_ _ _=>rfl) (oC _) (λb _=>J b) p (h.so i p hp Y)
  sr:=λi p hp Y r hr=>by rw[nf];exact h.sr i p hp Y r hr
  own:=λj b I=>h.own j b ((U j b).1 I)
  avn:=λj b I=>h.avn j b ((U j b).1 I) }
def St.bnils (st:St):List (Nat × Nat × aK × Nat)->St
 | []=>st
 | (t, j,ty,z)::l=>match st.sl[t]? with
   | some (.pb k _ _ _)=>match st.bx[k]? with
     | some (.var cs)=>match cs[j]? with
       | some (.sv none _ [] 0)=>St.bnils { st with bx:=List.set (st.bx++[Bx.arr ty z [] 0]) k (Bx.var (cs.set j (PV.sb st.bx.length z 0 0 0))) } l
       | _=>St.bnils st l
     | _=>St.bnils st l
   | _=>St.bnils st l
theorem AC:∀(l:List (Nat × Nat × aK × Nat)) (e:Env) (st:St),Rel av w0 e0 [] [] a w e st->∃ e',Rel av w0 e0 [] [] a w e' (st.bnils l)
 | [],e,st,h=>⟨e,h⟩
 | (t, j,ty,z)::l,e,st,h=>by
   simp only[St.bnils];split
   ·split
    ·split
     ·rename_i k _ _ _ _ _ cs hk _ zz hj;have h1:=Al h (el:=ty) (z:=z) aB;have J:Env.at (e++[none]) st.bx.length=none:=by rw[<-h.el];exact Env.at_append_eq
      have O:=(oD.1 hk).1;have U:(st.bx++[Bx.arr ty z [] 0])[k]?=some (.var cs):=by rw[oQ O];exact hk
      exact AC l _ _ (T0 h1 U (cs':=cs.set j (.sb st.bx.length z 0 0 0)) aB λi p I=>by
       rw[nU]at I;split at I
       ·rename_i Y;subst Y;split at I
        ·cases I;exact .inr ⟨_,hj,aB,by simp[PV.cv,J],λ_=>trivial,trivial,λr hr=>by simp[PV.refs]at hr;subst hr;simp⟩
        ·cases I
       ·exact .inl I)
     ·exact AC l e st h
    ·exact AC l e st h
   ·exact AC l e st h
def St.sel (st:St)(ks:aI):St:={ st with sl:=st.sl.map (Ui ks),bx:=ks.map λk=>(st.bx.getD k .gone).ren ks }
theorem T4 (h:Rel av w0 e0 [] [] a w e st){ks}(hn:ks.Nodup)(au:∃ l,ks=List.range st.pins.length++l):Rel av w0 e0 [] [] a w (Ay e ks) (st.sel ks):=by
 have aj:∀ j,j<st.pins.length->ks[j]?=some j:=λj J=>by obtain⟨l,rfl⟩:=au;rw[oQ (by simpa using J)];simp[J]
 have ao:∀ j k,ks[j]?=some k->k<st.pins.length->j=k:=λj k J Y=>by have U:=aj k Y;obtain⟨a1,a2⟩:=oD.1 U;obtain⟨b1,b2⟩:=oD.1 J;exact(List.getElem_inj hn).1 (b2.trans a2.symm)
 have ab:∀(j:Nat) (B':Bx),(ks.map λk=>(st.bx.getD k .gone).ren ks)[j]?=some B'->∃ k,ks[j]?=some k/\B'=(st.bx.getD k .gone).ren ks/\(Ay e ks).at j=e.at k:=λj B' J=>by
  rw[oF]at J;cases Y:ks[j]? with
  | none=>simp[Y]at J
  | some k=>simp[Y]at J;exact⟨k,rfl,by simp[J],by simp[Ay,Env.at,oA,Y]⟩
 have aw:∀ k,(st.bx.getD k .gone).ren ks≠.gone->∃ B,st.bx[k]?=some B/\B≠.gone/\(st.bx.getD k .gone)=B:=λk Y=>by
  rw[oA]at Y ⊢;cases hB:st.bx[k]? with
  | none=>rw[hB]at Y;exact absurd rfl Y
  | some B=>rw[hB]at Y;refine⟨B,rfl,λhc=>Y ?_,rfl⟩;simp only[nA];rw[hc];rfl
 have I:∀ j b,Lives [] (Ay e ks) (ks.map λk=>(st.bx.getD k .gone).ren ks) j b->∃ k,ks[j]?=some k/\Lives [] e st.bx k b:=λj b ⟨_,O,B',h3,h4⟩=>by obtain⟨k,h5,rfl,h6⟩:=ab j B' h3;obtain⟨B,h7,h8,_⟩:=aw k h4;exact⟨k,h5,aB,by rw[<-h6];exact O,B,h7,h8⟩
 have ac:∀ b,za av [] (Ay e ks) (ks.map λk=>(st.bx.getD k .gone).ren ks) b->za av [] e st.bx b:=λb hb=>hb.imp id λ⟨j,J⟩=>by obtain⟨k,_,O⟩:=I j b J;exact⟨k,O⟩
 have ak:∀ p:PV,p.Ok w (za av [] e st.bx)->p.Ok w (za av [] (Ay e ks) (ks.map λk=>(st.bx.getD k .gone).ren ks)):=λp=>PV.Ok.mono (λ_ _ _=>rfl) (oC _) (λb _=>ac b) p;have aa:∀(i:Nat) (q:PV),(st.sl.map (Ui ks))[i]?=some q->q=.any\/∃ p,st.sl[i]?=some p/\PV.ren ks p=some q:=λi q hi=>by
  rw[oF]at hi;cases hp:st.sl[i]? with
  | none=>simp[hp]at hi
  | some p=>
    simp[hp,Ui]at hi;split at hi
    ·rename_i q' hq;subst hi;exact .inr ⟨p,rfl,hq⟩
    ·exact .inl hi.symm
 exact {
  el:=by simp[Ay,St.sel]
  br := λj B' J _=>by
   obtain⟨k,U,rfl,O⟩:=ab j B' J;rw[O];rw[oA];cases hB:st.bx[k]? with
   | none=>exact True.intro
   | some B=>
     have h3:=h.br k B hB aB;simp only[nA];cases B with
     | var cs=>
       obtain⟨b,c,t,g1,g2,g3,g4⟩:=h3;refine⟨b,c,t,g1,g2,by simpa using g3,λi p hp=>?_⟩;rw[oF]at hp;cases al:cs[i]? with
       | none=>simp[al]at hp
       | some q=>
         simp[al,Ui]at hp;split at hp
         ·rename_i q' hq;subst hp;have h5:=wo (e:=e) hq;rcases g4 i q al with g5 | g5
          ·exact .inl (h5.an.1 g5)
          ·exact .inr (by rw[<-h5.cv];exact g5)
         ·exact .inl hp.symm
     | _=>exact h3
  bo := λj B' J _=>by
   obtain⟨k,U,rfl,O⟩:=ab j B' J;rw[oA];cases hB:st.bx[k]? with
   | none=>exact True.intro
   | some B=>
     have h3:=(h.bo k B hB aB).mono (w':=w) (live':=za av [] (Ay e ks) (ks.map λk=>(st.bx.getD k .gone).ren ks)) (λ_ _ _=>rfl) (oC _) λb _=>ac b;simp only[nA];cases B with
     | var cs=>
       obtain⟨g1,g2⟩:=h3;rw[PV.OkL_iff]at g1;refine⟨PV.OkL_iff.2 λp hp=>?_,λp hp=>?_⟩
       ·obtain⟨q,hq,rfl⟩:=oT.1 hp;unfold Ui;split
        ·rename_i q' ae;exact(wo (e:=e) ae).ok _ _ (g1 q hq)
        ·trivial
       ·obtain⟨q,hq,rfl⟩:=oT.1 hp;unfold Ui;split
        ·rename_i q' ae;have h5:=wo (e:=e) ae;rcases g2 q hq with g3 | g3
         ·exact .inl (h5.an.1 g3)
         ·exact .inr (h5.ic g3)
        ·exact .inl rfl
     | _=>exact h3
  bf := λj B' J _ i hi=>by
   refine⟨aB,?_⟩;obtain⟨k,U,rfl,O⟩:=ab j B' J;simp only[St.sel,nE];rw[oA]at hi;cases hB:st.bx[k]? with
   | none=>rw[hB]at hi;simp[Bx.ren,Bx.refs]at hi
   | some B=>
     rw[hB]at hi;simp only[nA]at hi;cases B with
     | var cs=>
       simp only[Bx.ren,Bx.refs]at hi;obtain⟨p,hp,ah⟩:=PV.refsL_mem.1 hi;obtain⟨q,hq,rfl⟩:=oT.1 hp;unfold Ui at ah;split at ah
       ·rename_i q' ae;exact(wo (e:=e) ae).rf i ah
       ·simp[PV.refs]at ah
     | _=>simp[Bx.ren,Bx.refs]at hi
  inj:=λi j b hi J=>by
   obtain⟨k,U,O⟩:=I i b hi;obtain⟨l,h3,h4⟩:=I j b J;have ax:=h.inj k l b O h4;subst ax;have ay:=(oD.1 U)
   have az:=(oD.1 h3)
   obtain⟨a8,a6⟩:=ay;obtain⟨ba,a7⟩:=az;exact(List.getElem_inj hn).1 (a6.trans a7.symm)
  ku:=h.ku
  size:=h.size
  old:=h.old
  fz:=h.fz
  nd:=h.nd
  sz:=by simp[St.sel];exact h.sz
  hN:=h.hN
  hs:=λi q hi ai=>by
   rcases aa i q hi with U | ⟨p,U,O⟩
   ·exact .inl U
   ·rcases h.hs i p U ai with h3 | h3
    ·exact .inl ((wo (e:=e) O).an.1 h3)
    ·exact .inr (h3.trans (T6 O))
  so:=λi q hi ai=>by
   rcases aa i q hi with U | ⟨p,U,O⟩
   ·subst U;trivial
   ·exact(wo (e:=e) O).ok _ _ (ak p (h.so i p U ai))
  sr:=λi q hi ai k Y=>by
   rcases aa i q hi with U | ⟨p,U,O⟩
   ·subst U;simp[PV.refs]at Y
   ·exact⟨aB,by simp only[St.sel,nE];exact(wo (e:=e) O).rf k Y⟩
  own:=λj b J=>by
   obtain⟨k,U,O⟩:=I j b J;rcases h.own k b O with h3 | ⟨h3,h4⟩
   ·exact .inl h3
   ·exact .inr ⟨h3,by rw[ao j k U h4];exact h4⟩
  avl:=h.avl
  avn:=λj b J=>by obtain⟨k,_,O⟩:=I j b J;exact h.avn k b O
  pin:=λk b hb=>by have aq:st.pins[k]?=some (some b):=hb;have Y:=aj k (oD.1 aq).1;exact⟨by have:=(h.pin k b aq).1;simpa [Ay,Env.at,oA,Y]using this,aB⟩
  pit:=h.pit }
def St.canon (st:St)(K:St->Prop):Prop:=match st.pins with
 | []=>K (st.sel (C2 st.bx 200 (PV.refsL st.sl) []))
 | L=>K (st.sel (List.range L.length++(C2 st.bx 200 (List.range L.length++PV.refsL st.sl) []).filter (Nat.ble L.length)))
theorem T1 (h:Rel av w0 e0 [] [] a w e st){K}(hs:st.canon K):∃ e' st',K st'/\Rel av w0 e0 [] [] a w e' st':=by
 have J:=tl (bx:=st.bx) 200 (PV.refsL st.sl) [] mR;unfold St.canon at hs;split at hs
 ·rename_i I;exact⟨_,_,hs,T4 h J ⟨_,by rw[I];rfl⟩⟩
 ·rename_i I;refine⟨_,_,hs,T4 h ?_ ⟨_,rfl⟩⟩;refine nV.2 ⟨List.nodup_range,(tl 200 _ [] mR).filter _,λx O y U Y=>?_⟩;have h1:=List.mem_range.1 O;have h2:=mj (mM.1 U).2;omega
structure Cut where
 id:Nat
 keep:aI
 nils:List (Nat × aK × Nat):=[]
 cl:aI:=[]
 bnils:List (Nat × Nat × aK × Nat):=[]
def zA7 N0(c:Cut) st K:=AU N0 #[] [] c.cl c.keep st λst=>St.canon (St.bnils (St.nils (St.keep st c.keep) c.nils) c.bnils) K
theorem JZ (h:Rel av w0 e0 [] [] a w e st){N0}(I:NOk N0 w0){c K}(hs:zA7 N0 c st K):∃ e' st',K st'/\Rel av w0 e0 [] [] a w e' st':=by obtain⟨J,T,O,_,_,U⟩:=uV h I aB hs;obtain⟨e1,Y⟩:=LI c.nils _ _ (T3 U c.keep);obtain⟨e2,h4⟩:=AC c.bnils _ _ Y;exact T1 h4 O
mutual
def Ml (p:PV) (K:PV->Prop):Prop:=match p with
 | .any=>K .any
 | .int k n=>K (.int k n)
 | .bool v=>K (.bool v)
 | .str v=>K (.str v)
 | .lit x=>K (.lit x)
 | .sv a z es c=>K (.sv a z es c)
 | .d x=>K (.d x)
 | .dc x=>K (.dc x)
 | .dg n x=>K (.dg n x)
 | .pb k z i o=>K (.pb k z i o)
 | .pd ad z x=>K (.pd ad z x)
 | .sb k z lo n c=>K (.sb k z lo n c)
 | .fn f caps=>Ez caps λl=>K (.fn f l)
 | .pg cs=>Ez cs λl=>K (.pg l)
 | .tp cs=>Ez cs λl=>K (.tp l)
def Ez (l:aN) (K:aN->Prop):Prop:=match l with
 | []=>K []
 | p::ps=>Ml p λp=>Ez ps λps=>K (p::ps)
end
mutual
theorem S4:∀(p:PV) (K:PV->Prop),Ml p K=K p
 | .fn f caps,K=>by simp only[Ml];exact rL caps _
 | .pg cs,K=>by simp only[Ml];exact rL cs _
 | .tp cs,K=>by simp only[Ml];exact rL cs _
 | .any,K=>rfl
 | .int ..,K=>rfl
 | .bool ..,K=>rfl
 | .str ..,K=>rfl
 | .lit ..,K=>rfl
 | .sv ..,K=>rfl
 | .d ..,K=>rfl
 | .dc ..,K=>rfl
 | .dg ..,K=>rfl
 | .pd ..,K=>rfl
 | .pb ..,K=>rfl
 | .sb ..,K=>rfl
theorem rL:∀(l:aN) (K:aN->Prop),Ez l K=K l
 | [],K=>rfl
 | p::ps,K=>by simp only[Ez];rw[S4,rL]
end
def S2 (B:Bx)(K:Bx->Prop):Prop:=match B with
 | .var cs=>Ez cs λcs=>K (.var cs)
 | .vd x n=>K (.vd x n)
 | .arr t z es c=>K (.arr t z es c)
 | .gone=>K .gone
theorem S3 B K:S2 B K=K B:=by
 cases B<;>simp only[S2]
 exact rL _ _
def Ky (l:aO)(K:aO->Prop):Prop:=match l with
 | []=>K []
 | B::bs=>S2 B λB=>Ky bs λbs=>K (B::bs)
theorem Je:∀(l:aO)(K:aO->Prop),Ky l K=K l
 | [],K=>rfl
 | B::bs,K=>by simp only[Ky];rw[S3,Je]
def FR (st:St)(K:St->Prop):Prop:=Ez st.sl λsl=>Ky st.bx λbx=>K { st with sl:=sl,bx:=bx }
theorem AZ st K:FR st K=K st:=by simp only[FR];rw[rL,Je]
end Go.Proofs.YtlaniepnglheoaaGreatDoor
