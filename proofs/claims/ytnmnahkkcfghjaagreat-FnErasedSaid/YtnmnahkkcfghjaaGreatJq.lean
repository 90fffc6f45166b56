/- A row is closed: it becomes a snapshot. -/
import Derived.Test.YtnmnahkkcfghjaaGreatJe
set_option linter.unusedVariables false
set_option linter.unusedSimpArgs false
namespace Go.Proofs.YtnmnahkkcfghjaaGreat
open Go
variable {av:Nat->Prop} {P:Program} {w0 w w':World} {e0 e:Env} {pS pS' pB:List Nat} {a:Act} {st st':St}
def zKT (k:Nat) (s:PV) (z:Nat) (p:PV):PV:=
 match p with
 | .sb I z' lo n c=>if I=k then (if z'=z/\lo=0 then s else .any) else p
 | _=>p.kill k
def zK0 (k z len c:Nat) (p:PV) (K:Prop):Prop:=
 match p with
 | .sb I z' lo n J=>if I=k/\z'=z/\lo=0 then (n=len/\J=c)/\K else K
 | _=>K
def zKp (k z len c:Nat):List PV->Prop->Prop
 | [],K=>K
 | p::ps,K=>zK0 k z len c p (zKp k z len c ps K)
def clo (k:Nat) (s:PV) (z:Nat) (p:PV):PV:=
 match p with
 | .pg cs=>if (PV.refsL cs).contains k then (if (cs.map (zKT k s z)).all PV.notAny=true then .pg (cs.map (zKT k s z)) else .any) else .pg cs
 | p=>zKT k s z p
def zJ7 (k z len c:Nat):List PV->Prop->Prop
 | [],K=>K
 | p::ps,K=>match p with
   | .pg cs=>zKp k z len c cs (zJ7 k z len c ps K)
   | p=>zK0 k z len c p (zJ7 k z len c ps K)
def Bx.clo (k:Nat) (s:PV) (z:Nat):Bx->Bx
 | .var cs=>.var (cs.map (zKT k s z))
 | B=>B
def zKa (k z len c:Nat):List Bx->Prop->Prop
 | [],K=>K
 | B::bs,K=>match B with
   | .var cs=>zKp k z len c cs (zKa k z len c bs K)
   | _=>zKa k z len c bs K
def PV.ds1:PV->List D
 | .sv a z es c=>[.sl a z es c]
 | .d x=>[x]
 | .dc x=>[x]
 | .dg _ x=>[x]
 | _=>[]
def PV.ds:PV->List D
 | .pg cs=>cs.flatMap PV.ds1
 | p=>p.ds1
def Bx.ds:Bx->List D
 | .var cs=>cs.flatMap PV.ds1
 | .vd x _=>[x]
 | .arr _ _ es _=>[.ag es]
 | .gone=>[]
/-- the closed row's block is its own -/
structure Fresh (N0 N:Nat) (a:Option Addr) (ds:List D):Prop where
 lo:∀ ad,a=some ad->N0<=ad.block
 hi:∀ ad,a=some ad->ad.block<N
 off:∀ ad,a=some ad->ad.off=0
 ap:∀ ad,a=some ad->∀ d∈ds,ad.block∉d.foot
def St.clo (st:St) (k:Nat) (s:PV) (z:Nat) (N:Nat):St:={ st with sl:=st.sl.map (Proofs.YtnmnahkkcfghjaaGreat.clo k s z),bx:=(st.bx.map (Bx.clo k s z)).set k .gone,N:=N }
/-- close box k; say that its block is none of those of the slots and boxes named -/
def zLB (N0:Option Nat) (st:St) (k:Nat) (fs fb:List Nat) (K:St->Prop):Prop:=
 match N0,st.bx[k]?,Nat.ble st.pins.length k with
 | some N0,some (.arr _ z es c),true=>zJ7 k z es.length c st.sl (zKa k z es.length c st.bx (∀ a N,st.N<=N ->
  Fresh N0 N a (.ag es::(fs.flatMap λi=>(st.sl.getD i .any).ds)++fb.flatMap λj=>if j=k then [] else (st.bx.getD j .gone).ds)->K (st.clo k (.sv a z es c) z N)))
 | _,_,_=>False
def NOk (N0:Option Nat) (w0:World):Prop:=∀ n,N0=some n->n=w0.heap.size
def zId (k z len c:Nat) (p:PV):Prop:=∀ n I,p=.sb k z 0 n I->n=len/\I=c
theorem zED {k z len c:Nat} {p:PV} {K:Prop} (h:zK0 k z len c p K):zId k z len c p/\K:=by
 cases p<;>simp only [zK0] at h<;>try exact ⟨λ_ _ h=>(by cases h),h⟩
 split at h
 ·rename_i hc
  exact ⟨λn J I=>by cases I;exact h.1,h.2⟩
 ·rename_i hc
  exact ⟨λn J I=>by cases I;exact absurd ⟨rfl,rfl,rfl⟩ hc,h⟩
theorem zAo {k z len c:Nat}:∀ {ps:List PV} {K:Prop},zKp k z len c ps K->(∀ p∈ps,zId k z len c p)/\K
 | [],K,h=>⟨by simp,h⟩
 | p::ps,K,h=>by
   simp only [zKp] at h
   obtain ⟨I,J⟩:=zED h
   obtain ⟨O,U⟩:=zAo J
   exact ⟨λq hq=>by rcases oF.1 hq with rfl | hq;exact I;exact O q hq,U⟩
def zQu (k z len c:Nat) (p:PV):Prop:=zId k z len c p/\∀ cs,p=.pg cs->∀ q∈cs,zId k z len c q
theorem zAa {k z len c:Nat}:∀ {ps:List PV} {K:Prop},zJ7 k z len c ps K->(∀ p∈ps,zQu k z len c p)/\K
 | [],K,h=>⟨by simp,h⟩
 | p :: ps,K,h=>by
   have go:zK0 k z len c p (zJ7 k z len c ps K)->(∀ cs,p≠.pg cs)->(∀ q∈p::ps,zQu k z len c q)/\K:=λh Y=>by
    obtain ⟨I,J⟩:=zED h
    obtain ⟨O,U⟩:=zAa J
    exact ⟨λq hq=>by
     rcases oF.1 hq with rfl | hq
     ·exact ⟨I,λcs hc=>absurd hc (Y cs)⟩
     ·exact O q hq,U⟩
   cases p
   case pg cs=>
    simp only [zJ7] at h
    obtain ⟨I,J⟩:=zAo h
    obtain ⟨O,U⟩:=zAa J
    exact ⟨λq hq=>by
     rcases oF.1 hq with rfl | hq
     ·exact ⟨λ_ _ h=>(by cases h),λcs' hc=>by cases hc;exact I⟩
     ·exact O q hq,U⟩
   all_goals exact go h (λ_ h=>by cases h)
theorem zAO {k z len c:Nat}:∀ {bs:List Bx} {K:Prop},zKa k z len c bs K->(∀ cs,Bx.var cs∈bs->∀ q∈cs,zId k z len c q)/\K
 | [],K,h=>⟨by simp,h⟩
 | B :: bs,K,h=>by
   cases B
   case var cs=>
    simp only [zKa] at h
    obtain ⟨O,U⟩:=zAo h
    obtain ⟨I,J⟩:=zAO U
    exact ⟨λcs' hq=>by
     rcases oF.1 hq with hq | hq
     ·cases hq;exact O
     ·exact I cs' hq,J⟩
   all_goals
    simp only [zKa] at h
    obtain ⟨I,J⟩:=zAO h
    exact ⟨λcs' hq=>by
     rcases oF.1 hq with hq | hq
     ·cases hq
     ·exact I cs' hq,J⟩
/-- a part of the state, closed: it reads as before -/
structure Clo (k:Nat) (w:World) (e:Env) (live:Nat->Prop) (p q:PV):Prop where
 v:q=.any\/p.val e=q.val e
 v1:q=.any\/p.cv e=q.cv e
 ok:p.Ok w live->q.Ok w live
 rf:∀ j∈q.refs,j∈p.refs/\j≠k
 c:p.isC->q=.any\/q.isC
theorem zNE {k:Nat} {live:Nat->Prop} {p:PV}:Clo k w e live p (p.kill k):=by
 rcases PV.kill_cases k p with h | ⟨h,J⟩
 ·rw [h];exact ⟨.inl rfl,.inl rfl,λ_=>trivial,by simp [PV.refs],λ_=>.inl rfl⟩
 ·rw [h];exact ⟨.inr rfl,.inr rfl,id,λj I=>⟨I,λhc=>J (hc ▸ I)⟩,λh=>.inr h⟩
theorem zCK {k z c:Nat} {es:List D} {live:Nat->Prop} (hg:Good w live (.sl ((e.at k).map λb=>⟨b,0,none⟩) z es c)) {p:PV} (hc:zId k z es.length c p) :
  Clo k w e live p (zKT k (.sv ((e.at k).map λb=>⟨b,0,none⟩) z es c) z p):=by
 cases p
 case sb I z' lo n J=>
  simp only [zKT]
  split
  ·rename_i O
   subst O
   split
   ·rename_i hz
    obtain ⟨rfl,rfl⟩:=hz
    obtain ⟨rfl,rfl⟩:=hc n J rfl
    have hv:(PV.sb I z' 0 es.length J).cv e=(PV.sv ((e.at I).map λb=>⟨b,0,none⟩) z' es J).cv e:=by
     cases U:e.at I<;>simp [PV.cv,U]
    exact ⟨.inr hv,.inr hv,λ_=>hg,by simp [PV.refs],λ_=>.inr trivial⟩
   ·exact ⟨.inl rfl,.inl rfl,λ_=>trivial,by simp [PV.refs],λ_=>.inl rfl⟩
  ·rename_i O
   exact ⟨.inr rfl,.inr rfl,id,λj Y=>⟨Y,λhc=>by simp [PV.refs] at Y;exact O (Y ▸ hc)⟩,λh=>.inr h⟩
 all_goals exact zNE
theorem zFI {k z c:Nat} {es:List D} {live:Nat->Prop} (hg:Good w live (.sl ((e.at k).map λb=>⟨b,0,none⟩) z es c)) {p:PV} (hc:zQu k z es.length c p) (J:p.Ok w live) :
  (clo k (.sv ((e.at k).map λb=>⟨b,0,none⟩) z es c) z p=.any\/p.val e=(clo k (.sv ((e.at k).map λb=>⟨b,0,none⟩) z es c) z p).val e) /\
  (clo k (.sv ((e.at k).map λb=>⟨b,0,none⟩) z es c) z p).Ok w live/\∀ j∈(clo k (.sv ((e.at k).map λb=>⟨b,0,none⟩) z es c) z p).refs,j∈p.refs/\j≠k:=by
 generalize hs:PV.sv ((e.at k).map λb=>⟨b,0,none⟩) z es c=s
 cases p
 case pg cs=>
  simp only [clo]
  split
  ·split
   ·rename_i aa
    have O:∀ q∈cs,Clo k w e live q (zKT k s z q):=λq I=>by rw [<-hs];exact zCK hg (hc.2 cs rfl q I)
    have ab:∀ q∈cs,zKT k s z q≠.any:=λq I he=>by
     have:=oZ.1 aa (zKT k s z q) (oQ.2 ⟨q,I,rfl⟩)
     rw [he] at this
     simp [PV.notAny] at this
    simp only [PV.Ok,PV.OkL_iff] at J
    refine ⟨.inr ?_,?_,?_⟩
    ·simp only [PV.val,PV.val1,PV.cvs_eq,mH]
     congr 2
     exact o6 λq I=>(O q I).v1.resolve_left (ab q I)
    ·simp only [PV.Ok,PV.OkL_iff]
     refine ⟨λq I=>?_,λq I=>?_⟩
     ·obtain ⟨r,U,rfl⟩:=oQ.1 I
      exact (O r U).ok (J.1 r U)
     ·obtain ⟨r,U,rfl⟩:=oQ.1 I
      exact ((O r U).c (J.2 r U)).resolve_left (ab r U)
    ·intro j Y
     simp only [PV.refs] at Y ⊢
     obtain ⟨q,I,ac⟩:=PV.refsL_mem.1 Y
     obtain ⟨r,U,rfl⟩:=oQ.1 I
     have:=(O r U).rf j ac
     exact ⟨PV.refsL_mem.2 ⟨r,U,this.1⟩,this.2⟩
   ·exact ⟨.inl rfl,trivial,by simp [PV.refs]⟩
  ·rename_i hk
   refine ⟨.inr rfl,J,λj Y=>⟨Y,λae=>hk ?_⟩⟩
   simp only [PV.refs] at Y
   simpa using ae ▸ Y
 all_goals
  have:=zCK hg hc.1
  rw [hs] at this
  exact ⟨this.v,this.ok J,this.rf⟩
theorem zMY (h:Rel av w0 e0 pS pB a w e st) {k z c:Nat} {t:TypeId} {es:List D} (hk:st.bx[k]?=some (.arr t z es c)) (ah:k∉pB)
  (hS:∀ p∈st.sl,zQu k z es.length c p) (hB:∀ cs,Bx.var cs∈st.bx->∀ q∈cs,zId k z es.length c q) :
  Rel av w0 e0 pS pB a w e (st.clo k (.sv ((e.at k).map λb=>⟨b,0,none⟩) z es c) z w.heap.size):=by
 have ao:k<st.bx.length:=(oC.1 hk).1
 generalize hs:PV.sv ((e.at k).map λb=>(⟨b,0,none⟩:Addr)) z es c=s
 have ab:∀ (j:Nat) (B':Bx),((st.bx.map (Bx.clo k s z)).set k .gone)[j]?=some B'->(j=k/\B'=.gone)\/(j≠k/\∃ B,st.bx[j]?=some B/\B'=B.clo k s z):=λj B' hj=>by
  rw [nL] at hj
  split at hj
  ·rename_i hh
   subst hh
   split at hj
   ·simp at hj;exact .inl ⟨rfl,hj.symm⟩
   ·cases hj
  ·rename_i hh
   rw [oE] at hj
   cases hB:st.bx[j]? with
   | none=>simp [hB] at hj
   | some B=>simp [hB] at hj;exact .inr ⟨λhc=>hh hc.symm,B,rfl,hj.symm⟩
 have I:∀ j b,Lives pB e ((st.bx.map (Bx.clo k s z)).set k .gone) j b->j≠k/\Lives pB e st.bx j b:=λj b ⟨h1,h2,B',h3,h4⟩=>by
  rcases ab j B' h3 with ⟨_,rfl⟩ | ⟨hj,B,J,rfl⟩
  ·exact absurd rfl h4
  ·refine ⟨hj,h1,h2,B,J,λhg=>h4 ?_⟩
   subst hg;rfl
 have U:∀ b,zT av pB e ((st.bx.map (Bx.clo k s z)).set k .gone) b->zT av pB e st.bx b:=λb hb=>hb.imp id λ⟨j,hj⟩=>⟨j,(I j b hj).2⟩
 have Y:∀ p:PV,p.Ok w (zT av pB e st.bx)->p.Ok w (zT av pB e ((st.bx.map (Bx.clo k s z)).set k .gone)):=λp=>PV.Ok.mono (λ_ _ _=>rfl) (oD _) (λb _=>U b) p
 -- the snapshot
 have hg:Good w (zT av pB e ((st.bx.map (Bx.clo k s z)).set k .gone)) (.sl ((e.at k).map λb=>⟨b,0,none⟩) z es c):=by
  have hr:=h.br k _ hk ah
  have ho:=h.bo k _ hk ah
  have ai:∀ x∈es,Good w (zT av pB e ((st.bx.map (Bx.clo k s z)).set k .gone)) x:=λx hx=>(ho x hx).mono (λ_ _ _=>rfl) λb _=>U b
  rcases hr with ⟨g1,g2,g3⟩ | ⟨b,cc,g1,g2,g3,g4,g5,g6,g7⟩
  ·subst g2;subst g3
   rw [g1]
   exact ⟨.nil,by simp [D.foot,zF]⟩
  ·rw [g1]
   refine ⟨.sl (λ_=>rfl) g4 g6 (λx hx=>(ai x hx).1) (.inr ⟨cc,t,(0,0),g2,λi u hu=>by simpa using g7 i u hu⟩),λj hj ac=>?_⟩
   simp only [ob,D.foot] at hj
   split at hj
   ·simp at hj
   ·rcases oF.1 hj with rfl | hj
    ·have aj:Lives pB e st.bx k j:=⟨ah,g1,_,hk,by simp⟩
     rcases ac with ac | ⟨i,hi⟩
     ·exact h.avn k j aj ac
     ·obtain ⟨h1,h2⟩:=I i _ hi
      exact h1 (h.inj i k _ h2 aj)
    ·obtain ⟨x,hx,al⟩:=zP.1 hj
     exact (ai x hx).2 j al ac
 have aa:∀ (i:Nat) (q:PV),(st.sl.map (clo k s z))[i]?=some q->∃ p,st.sl[i]?=some p/\q=clo k s z p/\zQu k z es.length c p:=λi q hi=>by
  rw [oE] at hi
  cases hp:st.sl[i]? with
  | none=>simp [hp] at hi
  | some p=>simp [hp] at hi;exact ⟨p,rfl,hi.symm,hS p (oB hp)⟩
 have O:∀ (j:Nat) (cs:List PV),st.bx[j]?=some (.var cs)->∀ q∈cs,Clo k w e (zT av pB e ((st.bx.map (Bx.clo k s z)).set k .gone)) q (zKT k s z q):=λj cs hj q hq=>by
  rw [<-hs];rw [<-hs] at hg;exact zCK hg (hB cs (oB hj) q hq)
 exact {
  el:=by simp [St.clo,h.el]
  br := λj B' hj hn=>by
   rcases ab j B' hj with ⟨_,rfl⟩ | ⟨ak,B,J,rfl⟩
   ·exact True.intro
   ·have h6:=h.br j B J hn
    cases B with
    | var cs=>
      obtain ⟨b,cc,tt,h1,h2,h3,h4⟩:=h6
      refine ⟨b,cc,tt,h1,h2,by simpa using h3,λi p hp=>?_⟩
      rw [oE] at hp
      cases ae:cs[i]? with
      | none=>simp [ae] at hp
      | some q=>
        simp [ae] at hp
        subst hp
        rcases h4 i q ae with h7 | h7
        ·subst h7;exact .inl rfl
        ·rcases (O j cs J q (oB ae)).v1 with h8 | h8
         ·exact .inl h8
         ·exact .inr (by rw [<-h8];exact h7)
    | _=>exact h6
  bo:=λj B' hj hn=>by
   rcases ab j B' hj with ⟨_,rfl⟩ | ⟨ak,B,J,rfl⟩
   ·exact True.intro
   ·have h6:=(h.bo j B J hn).mono (w':=w) (live':=zT av pB e ((st.bx.map (Bx.clo k s z)).set k .gone)) (λ_ _ _=>rfl) (oD _) (λb _=>U b)
    cases B with
    | var cs=>
      obtain ⟨h7,h8⟩:=h6
      rw [PV.OkL_iff] at h7
      refine ⟨PV.OkL_iff.2 λp hp=>?_,λp hp=>?_⟩
      ·obtain ⟨q,hq,rfl⟩:=oQ.1 hp
       exact (O j cs J q hq).ok (h7 q hq)
      ·obtain ⟨q,hq,rfl⟩:=oQ.1 hp
       rcases h8 q hq with h9 | h9
       ·subst h9;exact .inl rfl
       ·exact (O j cs J q hq).c h9
    | _=>exact h6
  bf:=λj B' hj hn i hi=>by
   simp only [St.clo,nP,oV]
   rcases ab j B' hj with ⟨_,rfl⟩ | ⟨ak,B,J,rfl⟩
   ·simp [Bx.refs] at hi
   ·cases B with
    | var cs=>
      simp only [Bx.clo,Bx.refs] at hi
      obtain ⟨p,hp,am⟩:=PV.refsL_mem.1 hi
      obtain ⟨q,hq,rfl⟩:=oQ.1 hp
      exact h.bf j _ J hn i (by simp only [Bx.refs];exact PV.refsL_mem.2 ⟨q,hq,((O j cs J q hq).rf i am).1⟩)
    | _=>exact h.bf j _ J hn i hi
  inj:=λi j b hi hj=>h.inj i j b (I i b hi).2 (I j b hj).2
  ku:=h.ku
  size:=h.size
  old:=h.old
  fz:=h.fz
  nd:=h.nd
  sz:=by simp [St.clo];exact h.sz
  hN:=oD _
  hs:=λi q hi hn=>by
   obtain ⟨p,h1,rfl,h3⟩:=aa i q hi
   have h4:=Y p (h.so i p h1 hn)
   rw [<-hs] at hg h4
   have J:=zFI hg h3 h4
   rw [hs] at J
   rcases J.1 with h6 | h6
   ·exact .inl h6
   ·rcases h.hs i p h1 hn with h7 | h7
    ·subst h7;left;simp [clo,zKT,PV.kill,PV.refs]
    ·exact .inr (h7.trans h6)
  so:=λi q hi hn=>by
   obtain ⟨p,h1,rfl,h3⟩:=aa i q hi
   have h4:=Y p (h.so i p h1 hn)
   rw [<-hs] at hg h4
   have J:=zFI hg h3 h4
   rw [hs] at J
   exact J.2.1
  sr:=λi q hi hn j hj=>by
   obtain ⟨p,h1,rfl,h3⟩:=aa i q hi
   have h4:=Y p (h.so i p h1 hn)
   rw [<-hs] at hg h4
   have J:=zFI hg h3 h4
   rw [hs] at J
   have:=h.sr i p h1 hn j (J.2.2 j hj).1
   exact ⟨this.1,by simp [St.clo];exact this.2⟩
  own:=λj b hj=>h.own j b (I j b hj).2
  avl:=h.avl
  avn:=λj b hj=>h.avn j b (I j b hj).2
  pin:=h.pin
  pit:=h.pit }
theorem zF3 {live:Nat->Prop} {p:PV} (h:p.Ok w live):∀ d∈p.ds1,Good w live d:=by
 cases p<;>simp [PV.ds1]<;>simp only [PV.Ok] at h
 ·exact h
 ·exact h
 ·exact h.1
 ·exact h.1
theorem zPr {live:Nat->Prop} {p:PV} (h:p.Ok w live):∀ d∈p.ds,Good w live d:=by
 cases p
 case pg cs=>
  simp only [PV.Ok,PV.OkL_iff] at h
  intro d hd
  simp only [PV.ds] at hd
  obtain ⟨q,I,hd⟩:=nq.1 hd
  exact zF3 (h.1 q I) d hd
 all_goals exact zF3 h
theorem zNO {live:Nat->Prop} {B:Bx} (h:B.Ok w live):∀ d∈B.ds,Good w live d:=by
 cases B with
 | var cs=>
   have I:=h.1
   rw [PV.OkL_iff] at I
   intro d hd
   simp only [Bx.ds] at hd
   obtain ⟨q,J,hd⟩:=nq.1 hd
   exact zF3 (I q J) d hd
 | vd x n=>simp only [Bx.ds];intro d hd;simp at hd;subst hd;exact h
 | arr t z es c=>simp only [Bx.ds];intro d hd;simp at hd;subst hd;exact Good.ag h
 | gone=>simp [Bx.ds]
/-- closing: none of the slots and boxes named may be pending -/
theorem zHj (h:Rel av w0 e0 pS pB a w e st) {N0:Option Nat} (ab:NOk N0 w0) {k:Nat} (U:k∉pB) {fs fb:List Nat} (ac:∀ i∈fs,i∉pS) (ae:∀ i∈fb,i∉pB) {K:St->Prop} (hs:zLB N0 st k fs fb K) :
  ∃ s z N,K (st.clo k s z N)/\Rel av w0 e0 pS pB a w e (st.clo k s z N)/\s.refs=[]:=by
 unfold zLB at hs
 split at hs
 rotate_left
 ·exact hs.elim
 rename_i n0 t z es c hk aa
 have aa:=mT aa
 obtain rfl:=ab _ rfl
 obtain ⟨h1,hs⟩:=zAa hs
 obtain ⟨h2,hs⟩:=zAO hs
 refine ⟨_,_,_,hs ((e.at k).map λb=>⟨b,0,none⟩) w.heap.size h.hN ?_,zMY h hk U h1 h2,rfl⟩
 have O:∀ ad,((e.at k).map λb=>(⟨b,0,none⟩:Addr))=some ad->ad.off=0/\Lives pB e st.bx k ad.block:=λad I=>by
  cases Y:e.at k with
  | none=>simp [Y] at I
  | some b=>simp [Y] at I;subst I;exact ⟨rfl,U,Y,_,hk,by simp⟩
 have J:∀ b,Lives pB e st.bx k b->∀ d,Good w (zT av pB e st.bx) d->b∉d.foot:=λb hl d hd hc=>hd.2 b hc (.inr ⟨k,hl⟩)
 refine ⟨λad I=>?_,λad I=>Lives.lt h.toMem (O ad I).2,λad I=>(O ad I).1,λad I d hd=>?_⟩
 ·rcases h.own k _ (O ad I).2 with h3 | h3
  ·exact h3
  ·omega
 ·have J:=J _ (O ad I).2
  simp only [nG] at hd
  rcases oF.1 hd with rfl | hd
  ·exact J _ (Good.ag (h.bo k _ hk U))
  ·rcases oJ.1 hd with hd | hd
   ·obtain ⟨i,hi,hd⟩:=nq.1 hd
    cases hp:st.sl[i]? with
    | none=>rw [oA,hp] at hd;simp [PV.ds,PV.ds1] at hd
    | some p=>
      rw [oA,hp] at hd
      exact J d (zPr (h.so i p hp (ac i hi)) d hd)
   ·obtain ⟨j,hj,hd⟩:=nq.1 hd
    split at hd
    ·simp at hd
    ·cases hB:st.bx[j]? with
     | none=>rw [oA,hB] at hd;simp [Bx.ds] at hd
     | some B=>
       rw [oA,hB] at hd
       exact J d (zNO (h.bo j B hB (ae j hj)) d hd)
variable {av:Nat->Prop} {P:Program} {w0 w w':World} {e0 e:Env} {pS pS' pB:List Nat} {a:Act} {st st':St}
def zm (P:Program):List TypeId->List PV->List PV
 | t::I,p::ps=>retag P t p::zm P I ps
 | _,ps=>ps
def zQa (P:Program) (p:PV):List TypeId:=
 match p with
 | .fn f _=>match P.funcs[f]? with
   | some fn=>fn.params.toList
   | none=>[]
 | _=>[]
theorem xZ:∀ (I:List TypeId) (ps:List PV),(zm P I ps).length=ps.length
 | [],ps=>rfl
 | t::I,[]=>rfl
 | t::I,p::ps=>by simp [zm,xZ I ps]
theorem tS:∀ (I:List TypeId) (ps:List PV) (i:Nat) (q:PV),(zm P I ps)[i]?=some q->∃ p,ps[i]?=some p/\(q=p\/∃ t,q=retag P t p)
 | [],ps,i,q,h=>⟨q,h,.inl rfl⟩
 | t::I,[],i,q,h=>by simp [zm] at h
 | t::I,p::ps,i,q,h=>by
   cases i with
   | zero=>simp [zm] at h;exact ⟨p,rfl,.inr ⟨t,h.symm⟩⟩
   | succ i=>simp [zm] at h;simpa using tS I ps i q h
/-- the results of a call that may write the caller's boxes, as the table marks them -/
def zS9:List Sh->Option (List Sh)
 | .row _ z::l=>match Nat.beq z 1000007 with
   | true=>some l
   | false=>none
 | _=>none
/-- a call: lent, or handed on to be written -/
def zRL (P:Program) (sh:FuncId->List Sh) (st:St) (dst:Option Nat) (x:Operand) (args:List PV) (K:St->Prop):Prop:=
 match zQF (opd st.sl x) with
 | some (f,_)=>match zS9 (sh f) with
   | some rs=>zQ1 P rs st dst x args K
   | none=>zPk P sh st dst x args K
 | none=>False
def zP4 (sh:FuncId->List Sh) (st:St) (x:Operand) (args:List PV):List Nat:=
 match zQF (opd st.sl x) with
 | some (f,caps)=>match zS9 (sh f) with
   | some _=>pc st.bx 200 (PV.refsL (args++caps)) []
   | none=>[]
 | none=>[]
def zSw (P:Program) (sh:FuncId->List Sh) (o:Oper) (st:St) (K:St->Prop):Prop:=
 match o.op with
 | .store t x y=>stF P (opd st.sl) (λk=>st.bx[k]?) t x y λk B=>K (St.put { st with bx:=st.bx.set k B } o.dst (.tp []))
 | .call c=>match c.callee with
   | .builtin .append=>match c.args.toList,c.argTypes.toList with
     | [x,y],[t,t']=>if t=t' then apF false P st o.dst t x y K else match P.underlying t' with
       | some .string=>zMx P st o.dst t t' x y K
       | _=>zQN P st o.dst t t' x y K
     | _,_=>False
   | .builtin .clear=>match c.args.toList,c.argTypes.toList with
     | [x],[t]=>zLN P st o.dst t x K
     | _,_=>False
   | .builtin .cap=>match c.args.toList,c.argTypes.toList with
     | [x],[t]=>match P.underlying t,zS6 (opd st.sl x) with
       | some (.slice _),some n=>K (st.put o.dst (.int .i64 n))
       | _,_=>False
     | _,_=>False
   | .value x=>zRL P sh st o.dst x (zm P (zQa P (opd st.sl x)) (c.args.toList.map (opd st.sl))) K
   | _=>False
 | _=>False
/-- the boxes that the operation writes -/
def zAl (P:Program) (sh:FuncId->List Sh) (o:Oper) (st:St):List Nat:=
 match o.op with
 | .store t x y=>match opd st.sl x with
   | .pb k _ _ _=>[k]
   | _=>[]
 | .call c=>match c.callee with
   | .builtin .append=>match c.args.toList,c.argTypes.toList with
     | [x,y],[t,t']=>match retag P t (opd st.sl x) with
       | .sb k _ _ _ _=>[k]
       | _=>[]
     | _,_=>[]
   | .builtin .clear=>match c.args.toList with
     | [x]=>match opd st.sl x with
       | .sb k _ _ _ _=>[k]
       | _=>[]
     | _=>[]
   | .value x=>zP4 sh st x (zm P (zQa P (opd st.sl x)) (c.args.toList.map (opd st.sl)))
   | _=>[]
 | _=>[]
/-- rows among these boxes -/
def zOF (st:St) (T:List Nat):List Nat:=T.filter λk=>(st.bx.getD k .gone).isArr
theorem zOX {T:List Nat}:∀ k∈zOF st T,k∈T:=λk h=>(ny.1 h).1
/-- what a step leaves as it was: boxes apart from T, slots apart from TA -/
structure Stp (T TA:List Nat) (dst:Option Nat) (st st':St):Prop where
 sl:∀ (i:Nat) (p:PV),some i≠dst->st.sl[i]?=some p->(∀ k∈TA,k∉p.refs)->st'.sl[i]?=some p
 bx:∀ (k:Nat) (B:Bx),st.bx[k]?=some B->k∉T->(∀ j∈T,j∉B.refs)->st'.bx[k]?=some B
 bl:st.bx.length<=st'.bx.length
 ll:st'.sl.length=st.sl.length
theorem Stp.rfl' {T TA:List Nat} {dst:Option Nat}:Stp T TA dst st st:=⟨λ_ _ _ h _=>h,λ_ _ h _ _=>h,oD _,rfl⟩
theorem Stp.put {T TA:List Nat} {dst:Option Nat} (h:Stp T TA dst st st') (p:PV):Stp T TA dst st (st'.put dst p):=by
 cases dst with
 | none=>exact h
 | some d=>
   refine ⟨λi q hi I J=>?_,λk B O U Y=>h.bx k B O U Y,h.bl,by simp [St.put,h.ll]⟩
   simp only [St.put]
   rw [ow (λhc=>hi (by rw [hc]))]
   exact h.sl i q hi I J
theorem Stp.app {T TA:List Nat} {dst:Option Nat} (h:Stp T TA dst st st') (rows:List Bx) (N:Nat):Stp T TA dst st { st' with bx:=st'.bx++rows,N:=N }:=by
 refine ⟨h.sl,λk B I J O=>?_,by simp;have:=h.bl;omega,h.ll⟩
 have:=h.bx k B I J O
 simp only
 rw [oM (oC.1 this).1]
 exact this
theorem Stp.set {T TA:List Nat} {dst:Option Nat} (h:Stp T TA dst st st') {k:Nat} (J:k∈T) (B:Bx):Stp T TA dst st { st' with bx:=st'.bx.set k B }:=by
 refine ⟨h.sl,λj C O I U=>?_,by simp;exact h.bl,h.ll⟩
 simp only
 rw [ow (λhc=>I (by rw [<-hc];exact J))]
 exact h.bx j C O I U
theorem zCB {k:Nat} {p:PV} (h:k∉p.refs):p.kill k=p:=by
 simp [PV.kill,h]
theorem Stp.kill {T TA:List Nat} {dst:Option Nat} (h:Stp T TA dst st st') {k:Nat} (U:k∈T) (Y:k∈TA):Stp T TA dst st (st'.kill k):=by
 refine ⟨λi p hi I J=>?_,λj C hj h1 O=>?_,by simp [St.kill];exact h.bl,by simp [St.kill,h.ll]⟩
 ·simp only [St.kill,oE,h.sl i p hi I J,ob,zCB (J k Y)]
 ·simp only [St.kill,oE,h.bx j C hj h1 O,ob]
  congr 1
  cases C with
  | var cs=>
    simp only [Bx.kill]
    congr 1
    conv=>rhs;rw [<-List.map_id cs]
    refine o6 λp I=>zCB λhc=>O k U ?_
    simp only [Bx.refs];exact PV.refsL_mem.2 ⟨p,I,hc⟩
  | _=>rfl
theorem zCV {T TA:List Nat} {dst:Option Nat} {bx:List Bx}:∀ (ks:List Nat) (st':St),(∀ k∈ks,k∈T)->(∀ k∈ks,(bx.getD k .gone).isArr=true->k∈TA)->Stp T TA dst st st'->Stp T TA dst st (xo bx ks st')
 | [],st',_,_,h=>h
 | k::ks,st',J,O,h=>by
   simp only [xo]
   split
   ·rename_i hc
    exact zCV ks _ (λj I=>J j (by simp [I])) (λj I=>O j (by simp [I])) (h.kill (J k (by simp)) (O k (by simp) hc))
   ·exact zCV ks _ (λj I=>J j (by simp [I])) (λj I=>O j (by simp [I])) h
theorem zRe {dst:Option Nat} (ks:List Nat) (nb rows:List Bx) (N:Nat):Stp ks (zOF st ks) dst st (zSb st ks nb rows N):=by
 have I:=zCV (dst:=dst) (bx:=st.bx) ks st (λ_ h=>h) (λk J hc=>ny.2 ⟨J,hc⟩) Stp.rfl'
 refine Stp.app (st':={ xo st.bx ks st with bx:=bxN ks (nb.map (Bx.mapR λj=>ks.getD j 0)) 0 (xo st.bx ks st).bx }) ⟨I.sl,λk B J O U=>?_,by simp only [yq];exact I.bl,I.ll⟩ rows N
 have Y:=I.bx k B J O U
 simp only [zH1,Y,ob,nJ]
 cases hp:pos ks k with
 | none=>rfl
 | some j=>exact absurd (oB (rP hp)) O
theorem zMv {ρ:Operand->PV} {rb:Nat->Option Bx} {t:TypeId} {x y:Operand} {K:Nat->Bx->Prop} (h:stF P ρ rb t x y K):stF P ρ rb t x y λk B=>(∃ z i o,ρ x=.pb k z i o)/\K k B:=by
 unfold stF at h ⊢
 split at h
 ·rename_i z k zz i o J I
  split at h
  ·rename_i B O
   have:(λB=>(∃ z i o,ρ x=.pb k z i o)/\K k B)=K k:=by
    funext B
    exact propext ⟨λh=>h.2,λh=>⟨⟨_,_,_,I⟩,h⟩⟩
   show zJ3 z zz B i o (retag P t (ρ y)) (λB=>(∃ z i o,ρ x=.pb k z i o)/\K k B)
   rw [this]
   exact h
  ·exact h.elim
 ·exact h.elim
theorem zLG {g:Bool} {dst:Option Nat} {t:TypeId} {x y:Operand} {K:St->Prop} {T:List Nat} (I:T=match retag P t (opd st.sl x) with | .sb k _ _ _ _=>[k] | _=>[]) (h:apF g P st dst t x y K) :
  apF g P st dst t x y λst'=>Stp T (zOF st T) dst st st'/\K st':=by
 have mono:∀ (q:PV) (R R':Nat->List D->Prop),(∀ z l,R z l->R' z l)->zKc g (λk=>st.bx[k]?) q R->zKc g (λk=>st.bx[k]?) q R':=λq R R' U h=>by
  unfold zKc at h ⊢
  split at h
  ·rename_i k z lo n c
   simp only
   split at h
   ·rename_i J
    simp only [J]
    split at h
    ·split at h
     ·rename_i hc;rw [if_pos hc];exact U _ _ h
     ·exact h.elim
    ·split at h
     ·rename_i hc;rw [if_pos hc];exact ⟨h.1,U _ _ h.2⟩
     ·exact h.elim
   ·exact h.elim
  ·exact U _ _ h
  ·exact h.elim
 unfold apF at h ⊢
 split at h
 rotate_left
 ·exact h.elim
 rename_i el Y
 try simp only [Y]
 split at h
 rotate_left
 ·exact h.elim
 rename_i z i hz hi
 try simp only [hz,hi]
 split at h
 ·exact h.elim
 rename_i hb
 rw [if_neg hb]
 refine mono _ _ _ (λz2 new h=>?_) h
 split at h
 rotate_left
 ·exact h.elim
 rename_i aa
 rw [if_pos aa]
 split at h
 ·rename_i k z1 lo n c O
  rw [O] at I
  simp only at I
  try simp only [O]
  split at h
  ·exact h.elim
  rename_i ab
  try simp only [ab]
  split at h
  ·rename_i t' z' es c' J
   try simp only [J]
   split at h
   ·rename_i hc
    rw [if_pos hc]
    refine ⟨h.1,h.2.1,λc2=>(h.2.2 c2).mono λh=>⟨?_,h⟩⟩
    refine Stp.put (Stp.set (st':=st.kill k) (Stp.kill Stp.rfl' (by rw [I];simp) (by rw [I];simp [zOF,oA,J,Bx.isArr])) (by rw [I];simp) _) _
   ·exact h.elim
  ·exact h.elim
 ·rename_i ad z1 es c O
  try simp only [O]
  split at h
  ·rename_i hc
   rw [if_pos hc]
   refine ⟨h.1,h.2.1,λc2=>⟨?_,h.2.2 c2⟩⟩
   exact Stp.put (Stp.app Stp.rfl' _ _) _
  ·exact h.elim
 ·exact h.elim
theorem zN9 (h:Rel av w0 e0 pS pB a w e st) (ac:∀ k∈pB,k<st.bx.length) {sh:FuncId->List Sh} {o:Oper} {K:St->Prop}
  (hx:∀ x∈o.op.operands,∀ t,x=.tmp t->t∉pS) (aa:∀ i,i∈pS->some i≠o.dst->i∈pS') (hs:zSw P sh o st K)
  {next:Act->World->Prop} {Q:Exit->Act->World->Prop}
  (hn:∀ v w' e' st',K st'->Stp (zAl P sh o st) (zOF st (zAl P sh o st)) o.dst st st'->Rel av w0 e0 pS' pB (a.put o.dst v) w' e' st'->next (a.put o.dst v) w'):o.wp P a w next Q:=by
 unfold zSw at hs
 split at hs
 ·rename_i t x y J
  have Y:zAl P sh o st=match opd st.sl x with | .pb k _ _ _=>[k] | _=>[]:=by simp only [zAl,J]
  rw [J] at hx
  simp only [Op.operands] at hx
  obtain ⟨w',k,B',h1,⟨⟨z,i,oo,hk⟩,h2⟩,h3⟩:=zKm h (hx x (by simp)) (hx y (by simp)) (zMv hs)
  have O:(execOp a.eval o).run P w=.ok .skip w':=by
   obtain ⟨dst,op,ty,pos,after,guard⟩:=o
   simp only at J
   subst J
   simp [execOp,h1]
  unfold Oper.wp
  rw [O,Oper.upon_skip]
  refine hn undef w' e _ h2 ?_ (xm h3 ⟨.inr rfl,by simp [PV.Ok,PV.OkL],by simp [PV.refs,PV.refsL]⟩ aa)
  rw [Y,hk]
  exact Stp.put (Stp.set Stp.rfl' (by simp) _) _
 ·rename_i c J
  rw [J] at hx
  simp only [Op.operands,Call.operands] at hx
  split at hs
  ·rename_i hc
   split at hs
   ·rename_i x y t t' I U
    split at hs
    rotate_left
    ·have hm:∀ z,z∈[x,y]->z∈c.args:=λz hz=>by rw [<-I] at hz;exact om.1 hz
     split at hs
     ·skip
      obtain ⟨v,w',e',st',h1,h3,h4,k,z,lo,n,cc,B,q,hq,⟨t1,z1,ax,c1,hk⟩,h2⟩:=zIW h (ty:=o.type) (hx x (by simp [hm])) (hx y (by simp [hm])) aa hs
      have ea:c.args=#[x,y]:=by rw [<-nN,I]
      have et:c.argTypes=#[t,t']:=by rw [<-nN,U]
      have O:(execOp a.eval o).run P w=.ok (.value v) w':=by
       obtain ⟨dst,op,ty,pos,after,guard⟩:=o
       simp only at J h1
       subst J
       simp [execOp,resolve,hc,invoke,builtin,ea,et,h1]
      unfold Oper.wp
      rw [O,Oper.upon_value]
      refine hn v w' e' st' h3 ?_ h4
      rw [h2]
      have Y:zAl P sh o st=[k]:=by simp only [zAl,J,hc,I,U,hq]
      rw [Y]
      exact Stp.put (Stp.set (st':=st.kill k) (Stp.kill Stp.rfl' (by simp) (by simp [zOF,oA,hk,Bx.isArr])) (by simp) _) _
     ·skip
      obtain ⟨v,w',e',st',h1,h3,h4,rows,q,h2⟩:=zJr h ac (ty:=o.type) (hx x (by simp [hm])) (hx y (by simp [hm])) aa hs
      have ea:c.args=#[x,y]:=by rw [<-nN,I]
      have et:c.argTypes=#[t,t']:=by rw [<-nN,U]
      have O:(execOp a.eval o).run P w=.ok (.value v) w':=by
       obtain ⟨dst,op,ty,pos,after,guard⟩:=o
       simp only at J h1
       subst J
       simp [execOp,resolve,hc,invoke,builtin,ea,et,h1]
      unfold Oper.wp
      rw [O,Oper.upon_value]
      refine hn v w' e' st' h3 ?_ h4
      rw [h2]
      exact Stp.put (Stp.app (N:=st.N) Stp.rfl' rows) q
    rename_i am
    subst am
    have hm:∀ z,z∈[x,y]->z∈c.args:=λz hz=>by rw [<-I] at hz;exact om.1 hz
    have Y:zAl P sh o st=match retag P t (opd st.sl x) with | .sb k _ _ _ _=>[k] | _=>[]:=by simp only [zAl,J,hc,I,U]
    obtain ⟨v,w',e',st',h1,⟨h2,h3⟩,h4⟩:=zK4 h ac (ty:=o.type) (hx x (by simp [hm])) (hx y (by simp [hm])) aa (zLG Y hs)
    have ea:c.args=#[x,y]:=by rw [<-nN,I]
    have et:c.argTypes=#[t,t]:=by rw [<-nN,U]
    have O:(execOp a.eval o).run P w=.ok (.value v) w':=by
     obtain ⟨dst,op,ty,pos,after,guard⟩:=o
     simp only at J h1
     subst J
     simp [execOp,resolve,hc,invoke,builtin,ea,et,h1]
    unfold Oper.wp
    rw [O,Oper.upon_value]
    exact hn v w' e' st' h3 h2 h4
   ·exact hs.elim
  ·rename_i hc
   split at hs
   ·rename_i x t I U
    have hm:∀ z,z∈[x]->z∈c.args:=λz hz=>by rw [<-I] at hz;exact om.1 hz
    obtain ⟨v,w',st',h1,h3,h4,k,B,⟨z,lo,n,cc,hk⟩,h2⟩:=zID h (ty:=o.type) (hx x (by simp [hm])) aa hs
    have Y:zAl P sh o st=[k]:=by simp only [zAl,J,hc,I,hk]
    have ea:c.args=#[x]:=by rw [<-nN,I]
    have et:c.argTypes=#[t]:=by rw [<-nN,U]
    have O:(execOp a.eval o).run P w=.ok (.value v) w':=by
     obtain ⟨dst,op,ty,pos,after,guard⟩:=o
     simp only at J h1
     subst J
     simp [execOp,resolve,hc,invoke,builtin,ea,et,h1]
    unfold Oper.wp
    rw [O,Oper.upon_value]
    refine hn v w' e st' h3 ?_ h4
    rw [Y,h2]
    exact Stp.put (Stp.set Stp.rfl' (by simp) _) _
   ·exact hs.elim
  ·rename_i hc
   split at hs
   ·rename_i x t I U
    split at hs
    ·rename_i el n ao ae
     have hm:∀ z,z∈[x]->z∈c.args:=λz hz=>by rw [<-I] at hz;exact om.1 hz
     have ox:=(wP h (hx x (by simp [hm]))).valOk
     have ea:c.args=#[x]:=by rw [<-nN,I]
     have et:c.argTypes=#[t]:=by rw [<-nN,U]
     have hv:∃ (b:Option Addr) (m:Nat),a.eval x=.slice b m n:=by
      cases aq:opd st.sl x<;>rw [aq] at ae ox<;>simp [zS6] at ae
      ·subst ae
       have:=ox.1.resolve_left (by simp)
       exact ⟨_,_,this⟩
      ·subst ae
       have:=ox.1.resolve_left (by simp)
       rw [this]
       simp only [PV.val,PV.val1,PV.cv]
       split<;>exact ⟨_,_,rfl⟩
     obtain ⟨b,m,hv⟩:=hv
     have O:(execOp a.eval o).run P w=.ok (.value (.int .i64 n)) w:=by
      obtain ⟨dst,op,ty,pos,after,guard⟩:=o
      simp only at J
      subst J
      simp [execOp,resolve,hc,invoke,builtin,ea,et,Builtin.cap_,run_underlying ao,hv,goInt]
     unfold Oper.wp
     rw [O,Oper.upon_value]
     exact hn _ w e _ hs (Stp.put Stp.rfl' _) (xm h zn aa)
    ·exact hs.elim
   ·exact hs.elim
  ·rename_i x hc
   have Y:zAl P sh o st=zP4 sh st x (zm P (zQa P (opd st.sl x)) (c.args.toList.map (opd st.sl))):=by simp only [zAl,J,hc]
   rw [Y] at hn
   have ah:∀ (i:Nat) (p:PV) (y:Operand),(zm P (zQa P (opd st.sl x)) (c.args.toList.map (opd st.sl)))[i]?=some p->c.args[i]?=some y->ValOk av w e pB st.bx (a.eval y) p:=λi p y hp hy=>by
    obtain ⟨q,hq,au⟩:=tS _ _ _ _ hp
    rw [oE] at hq
    simp only [nS,hy,ob,nE] at hq
    subst hq
    have:=(wP h (hx y (by simp [Array.mem_of_getElem? hy]))).valOk
    rcases au with rfl | ⟨t,rfl⟩
    ·exact this
    ·exact this.retag t
   have ai:(zm P (zQa P (opd st.sl x)) (c.args.toList.map (opd st.sl))).length=c.args.size:=by rw [xZ];simp
   generalize zm P (zQa P (opd st.sl x)) (c.args.toList.map (opd st.sl))=args at hs hn ah ai
   unfold zRL at hs
   unfold zP4 at hn
   split at hs
   ·rename_i f caps hf
    simp only [hf] at hn
    split at hs
    ·rename_i rs aj
     simp only [aj] at hn
     unfold zQ1 at hs
     rw [hf] at hs
     simp only at hs
     split at hs
     ·rename_i ab
      rw [oZ] at ab
      have ak:∀ k∈PV.refsL (args++caps),k∉pB:=λk hk=>by
       obtain ⟨p,hp,al⟩:=PV.refsL_mem.1 hk
       rcases oJ.1 hp with hp | hp
       ·obtain ⟨i,hi⟩:=oR.1 hp
        have aw:i<c.args.size:=by rw [<-ai];exact (oC.1 hi).1
        exact ((ah i p _ hi (oq aw)).2.2 k al).1
       ·have ox:=zAj (wP h (hx x (by simp [hc]))).valOk hf
        exact (ox.2.2 k (by simp only [PV.refs];exact PV.refsL_mem.2 ⟨p,hp,al⟩)).1
      refine zIK h ac J hc (hx x (by simp [hc])) ai ah hf ab (v9 200 _ [] mD) (pR (A:=λk=>k∉pB) (λk hk j hj=>?_) 200 _ [] ak (by simp)) aa hs λv w' e' st' h1 h2 h3=>?_
      ·rw [oA] at hj
       cases hB:st.bx[k]? with
       | none=>rw [hB] at hj;simp [Bx.refs] at hj
       | some B=>rw [hB] at hj;exact (h.bf k B hB hk j hj).1
      ·obtain ⟨nb,rows,N,q,rfl⟩:=h2
       exact hn v w' e' _ h1 (Stp.put (zRe _ _ _ _) _) h3
     ·exact hs.elim
    ·rename_i aj
     simp only [aj] at hn
     refine zIi h ac J hc (hx x (by simp [hc])) ai ah aa hs λv w' e' st' h1 h2 h3=>?_
     obtain ⟨rows,q,N,rfl⟩:=h2
     exact hn v w' e' _ h1 (Stp.put (Stp.app Stp.rfl' _ _) _) h3
   ·exact hs.elim
  ·exact hs.elim
 ·exact hs.elim
variable {av:Nat->Prop} {P:Program} {w0 w w':World} {e0 e:Env} {pS pS' pB pB':List Nat} {a:Act} {st st':St}
/-- a call that writes what it is handed: where that lies (a slot with its place), and which slots are kept -/
structure MkH where
 place:Option Nat:=none
 keep:List Nat:=[]
 /-- a slot that holds the very slice -/
 same:Option Nat:=none
structure Ent where
 i:Nat
 hard:Bool:=false
 /-- slots whose rows are closed ahead of the operation -/
 cl:List Nat:=[]
 /-- slots whose snapshots the closed rows' blocks are apart from -/
 fs:List Nat:=[]
 mh:Option MkH:=none
 /-- behind the operation the row of the result is cut to the result's length -/
 tr:Bool:=false
def Br (v:Bool) (A B:Prop):Prop:=match v with
 | true=>A
 | false=>B
theorem Br.spec {v:Bool} {A B:Prop} (h:Br v A B):(v=true/\A)\/(v=false/\B):=by
 cases v
 ·exact .inr ⟨rfl,h⟩
 ·exact .inl ⟨rfl,h⟩
def zMf (ops:Array Oper) (o:Oper) (st:St) (A B:St->Prop):Prop:=
 match o.guard with
 | none=>A st
 | some (g,I)=>match ops[g]? with
   | some J=>match J.dst with
     | some d=>match st.sl[d]? with
       | some (.bool v)=>Br v (match I with
         | true=>A (st.put (some d) (.bool true))
         | false=>B (st.put (some d) (.bool true))) (match I with
         | true=>B (st.put (some d) (.bool false))
         | false=>A (st.put (some d) (.bool false)))
       | some (.tp [])=>B st
       | _=>False
     | none=>False
   | none=>False
def zQU (ops:Array Oper) (o:Oper) (st:St):Prop:=∀ g I,o.guard=some (g,I)->∃ J d,ops[g]?=some J/\J.dst=some d/\st.sl[d]?=some (.bool I)
def zSL (ops:Array Oper) (o:Oper) (st:St):Prop:=∃ g I J d,o.guard=some (g,I)/\ops[g]?=some J/\J.dst=some d/\(st.sl[d]?=some (.bool (!I))\/st.sl[d]?=some (.tp []))
theorem zFd {d:Nat} {p:PV} (h:st.sl[d]?=some p):st.put (some d) p=st:=
 St.put_same λd' hd I=>by cases hd;exact h
theorem zER {ops:Array Oper} {o:Oper} {A B:St->Prop} (h:zMf ops o st A B):(zQU ops o st/\A st)\/(zSL ops o st/\B st):=by
 unfold zMf at h
 split at h
 ·rename_i U
  exact .inl ⟨λg I hc=>(by rw [U] at hc;cases hc),h⟩
 ·rename_i g I U
  split at h
  ·rename_i og J
   split at h
   ·rename_i d hd
    split at h
    ·rename_i v O
     rcases h.spec with ⟨rfl,h⟩ | ⟨rfl,h⟩
     ·rw [zFd O] at h
      cases I
      ·exact .inr ⟨⟨g,false,og,d,U,J,hd,.inl O⟩,h⟩
      ·exact .inl ⟨λg' Y hc=>(by rw [U] at hc;cases hc;exact ⟨og,d,J,hd,O⟩),h⟩
     ·rw [zFd O] at h
      cases I
      ·exact .inl ⟨λg' Y hc=>(by rw [U] at hc;cases hc;exact ⟨og,d,J,hd,O⟩),h⟩
      ·exact .inr ⟨⟨g,true,og,d,U,J,hd,.inl O⟩,h⟩
    ·rename_i O
     exact .inr ⟨⟨g,I,og,d,U,J,hd,.inr O⟩,h⟩
    ·exact h.elim
   ·exact h.elim
  ·exact h.elim
theorem zG6 (h:Rel av w0 e0 pS pB a w e st) {ops:Array Oper} {o:Oper} (hw:zQU ops o st) (hl:∀ t∈o.looksAt ops,t∉pS):Region.wanted o (yielded ops a.tmps)=true:=by
 unfold Region.wanted
 cases hg:o.guard with
 | none=>rfl
 | some gw=>
   obtain ⟨g,I⟩:=gw
   obtain ⟨og,d,h1,h2,h3⟩:=hw g I hg
   have U:d∉pS:=hl d (by simp [Oper.looksAt,hg,h1,h2])
   have Y:=(h.hs d _ h3 U).resolve_left (by simp)
   have J:d<a.tmps.size:=o7 (oC.1 h3).1 h.sz
   have O:a.tmps[d]?=some (.bool I):=by
    rw [nH,oq J] at Y
    rw [oq J]
    simp only [o9] at Y
    rw [Y];rfl
   simp [yielded,h1,h2,O]
theorem zHa (h:Rel av w0 e0 pS pB a w e st) {ops:Array Oper} {o:Oper} (hw:zSL ops o st) (hl:∀ t∈o.looksAt ops,t∉pS):Region.wanted o (yielded ops a.tmps)=false:=by
 obtain ⟨g,U,og,d,hg,h1,h2,h3⟩:=hw
 have Y:d∉pS:=hl d (by simp [Oper.looksAt,hg,h1,h2])
 unfold Region.wanted
 rw [hg]
 rcases h3 with h3 | h3
 ·have O:=(h.hs d _ h3 Y).resolve_left (by simp)
  have J:d<a.tmps.size:=o7 (oC.1 h3).1 h.sz
  have I:a.tmps[d]?=some (.bool (!U)):=by
   rw [nH,oq J] at O
   rw [oq J]
   simp only [o9] at O
   rw [O];rfl
  simp [yielded,h1,h2,I]
 ·have O:=(h.hs d _ h3 Y).resolve_left (by simp)
  have J:d<a.tmps.size:=o7 (oC.1 h3).1 h.sz
  have I:∃ l',a.tmps[d]?=some (.tuple l'):=by
   rw [nH,oq J] at O
   rw [oq J]
   simp only [o9] at O
   rw [O];exact ⟨_,rfl⟩
  obtain ⟨l',I⟩:=I
  simp [yielded,h1,h2,I]
theorem su (h:Rel av w0 e0 pS pB a w e st) (hp:∀ k,k∈pB'↔k∈pB) (hs:∀ i,i∈pS->i∈pS'):Rel av w0 e0 pS' pB' a w e st:=by
 have U:∀ k,k∉pB'↔k∉pB:=λk=>not_congr (hp k)
 have hL:∀ k b,Lives pB' e st.bx k b↔Lives pB e st.bx k b:=λk b=>by unfold Lives;rw [U]
 have aa:zT av pB' e st.bx=zT av pB e st.bx:=by
  funext b
  unfold zT
  exact propext (or_congr m9 (exists_congr λk=>hL k b))
 have Y:∀ i,i∉pS'->i∉pS:=λi hi hc=>hi (hs i hc)
 exact {
  el:=h.el
  br:=λk B I J=>h.br k B I ((U k).1 J)
  bo:=λk B I J=>by rw [aa];exact h.bo k B I ((U k).1 J)
  bf:=λk B I J j hj=>by have:=h.bf k B I ((U k).1 J) j hj;exact ⟨(U j).2 this.1,this.2⟩
  inj:=λk j b h1 h2=>h.inj k j b ((hL k b).1 h1) ((hL j b).1 h2)
  ku:=h.ku
  size:=h.size
  old:=h.old
  fz:=h.fz
  nd:=h.nd
  sz:=h.sz
  hN:=h.hN
  hs:=λi p hi O=>h.hs i p hi (Y i O)
  so:=λi p hi O=>by rw [aa];exact h.so i p hi (Y i O)
  sr:=λi p hi O k I=>by have:=h.sr i p hi (Y i O) k I;exact ⟨(U k).2 this.1,this.2⟩
  own:=λk b I=>h.own k b ((hL k b).1 I)
  avl:=h.avl
  avn:=λk b I=>h.avn k b ((hL k b).1 I)
  pin:=λk b hb=>by have:=h.pin k b hb;exact ⟨this.1,(U k).2 this.2⟩
  pit:=h.pit }
/-- an operation of the plain kind, at once -/
theorem zQC (h:Rel av w0 e0 pS pB a w e st) (aa:∀ k∈pB,k<st.bx.length) {o:Oper} (hx:∀ x∈o.op.operands,∀ t,x=.tmp t->t∉pS) {K:Res->Prop}
  (hs:nev P (opd st.sl) (λk=>st.bx[k]?) o.op o.type K) :
  ∃ v w' e' r,(execOp a.eval o).run P w=.ok (.value v) w'/\K r/\Rel av w0 e0 pS pB (a.put o.dst v) w' e' (st.push o.dst r):=by
 obtain ⟨r,hK,Y⟩:=zMQ _ hs
 have Y:=Y (λq=>q=r) rfl
 cases r with
 | v p=>
   rcases zEq h hx Y with ⟨v,q,O,J,I⟩ | ⟨v,c,t,B,f,O,J,I⟩
   ·cases J
    exact ⟨v,w,e,.v p,O,hK,xm h I λi hi _=>hi⟩
   ·cases J
 | b B f=>
   have O:=tH h (B:=B)
   have ab:nev P (opd st.sl) (λk=>(st.bx++[B])[k]?) o.op o.type (λq=>q=.b B f):=by
    rw [zCW (ρ:=opd st.sl) (rb:=λk=>st.bx[k]?) (λ_ _=>rfl) λx ac k hk=>?_]
    ·exact Y
    ·have:=(wP h (hx x ac)).rf k hk
     exact oM this.2
   rcases zEq O hx ab with ⟨v,q,O,J,I⟩ | ⟨v,c,t,B',f',h4,J,I⟩
   ·cases J
   ·cases J
    have h5:=qM O (k:=st.bx.length) (B:=B) (by simp) (by simp) I
    have U:st.bx.length<(e++[none]).length:=by simp [h.el]
    have h6:ValOk av (w.alloc (.cells c t)) ((e++[none]).set st.bx.length (some w.heap.size)) ((st.bx.length::pB).filter (·≠st.bx.length)) (st.bx++[B]) v (f st.bx.length):=
     ⟨.inr (I.val _ _ (Env.at_set_eq U)),I.fok _ _ _,by rw [I.fr];simp⟩
    refine ⟨v,_,_,.b B f,h4,hK,su (pS:=pS) (xm h5 h6 λi hi _=>hi) (λk=>?_) λ_=>id⟩
    simp only [ny,oF,ne_eq,o3]
    constructor
    ·intro hk;have:=aa k hk;exact ⟨.inr hk,by omega⟩
    ·rintro ⟨h7 | h7,h8⟩
     ·exact absurd h7 h8
     ·exact h7
/-- the operation of a hard entry -/
def zNb (P:Program) (sh:FuncId->List Sh) (o:Oper) (st:St) (K:St->Prop):Prop:=
 match zPL o.op with
 | true=>nev P (opd st.sl) (λk=>st.bx[k]?) o.op o.type λr=>K (st.push o.dst r)
 | false=>zSw P sh o st K
def zJQ (P:Program) (sh:FuncId->List Sh) (o:Oper) (st:St):List Nat:=
 match zPL o.op with
 | true=>[]
 | false=>zAl P sh o st
theorem zJD {dst:Option Nat} {r:Res}:Stp [] [] dst st (st.push dst r):=by
 cases r with
 | v p=>exact Stp.put Stp.rfl' p
 | b B f=>exact Stp.put (Stp.app Stp.rfl' [B] st.N) _
theorem zG4 (h:Rel av w0 e0 pS pB a w e st) (J:∀ k∈pB,k<st.bx.length) {sh:FuncId->List Sh} {o:Oper} {K:St->Prop}
  (U:∀ x∈o.op.operands,∀ t,x=.tmp t->t∉pS) (hs:zNb P sh o st K)
  {next:Act->World->Prop} {Q:Exit->Act->World->Prop}
  (O:∀ v w' e' st',K st'->Stp (zJQ P sh o st) (zOF st (zJQ P sh o st)) o.dst st st'->Rel av w0 e0 pS pB (a.put o.dst v) w' e' st'->next (a.put o.dst v) w'):o.wp P a w next Q:=by
 unfold zNb at hs
 unfold zJQ at O
 split at hs
 ·rename_i I
  simp only [I] at O
  obtain ⟨v,w',e',r,Y,h2,h3⟩:=zQC h J U hs
  unfold Oper.wp
  rw [Y,Oper.upon_value]
  exact O v w' e' _ h2 zJD h3
 ·rename_i I
  simp only [I] at O
  exact zN9 h J U (λi hi _=>hi) hs O
abbrev Pend:=List (Nat × Option Nat)
def rm (ops:Array Oper) (i:Nat):Option Nat:=(ops[i]?).bind (·.dst)
def zNs (T:List Nat) (st:St) (p:PV):Bool:=
 p.refs.all λk=>!T.contains k&&match st.bx[k]? with
  | some B=>B.refs.all λj=>!T.contains j
  | none=>true
def zMT (ops:Array Oper) (T:List Nat) (st:St) (x:Nat × Option Nat):Bool:=
 match ops[x.1]? with
 | some o=>(match x.2 with
   | some k=>!T.contains k&&(match st.bx[k]? with
     | some B=>B.refs.all λj=>!T.contains j
     | none=>true)
   | none=>true)&&(o.op.operands.toList.all λy=>zNs T st (opd st.sl y))&&(match o.dst with
   | some d=>zNs T st (st.sl.getD d .any)
   | none=>true)
 | none=>false
/-- a pending copy of a value: what a store writes does not matter to it -/
def mvP (ops:Array Oper) (x:Nat × Option Nat):Bool:=match x.2,ops[x.1]? with
 | none,some o=>match o.op with
   | .move _=>true
   | _=>false
 | _,_=>false
def zNI (ops:Array Oper) (T:List Nat) (st:St) (pf:Pend):Bool:=
 match T with
 | []=>true
 | T=>pf.all (zMT ops T st)
def safe (ops:Array Oper) (T:List Nat) (st:St) (pf:Pend):Bool:=
 match T with
 | []=>true
 | T=>pf.all λx=>zMT ops T st x||(mvP ops x&&zMT ops (zOF st T) st x)
def zNd:Res->Option Nat->Option PV
 | .v p,none=>some p
 | .b _ f,some k=>some (f k)
 | _,_=>none
def zQe (ops:Array Oper) (P:Program) (st:St) (o:Oper) (b:Option Nat):Prop:=
 (zQU ops o st/\(∀ y∈o.op.operands,∀ k∈(opd st.sl y).refs,k<st.bx.length)/\∃ r q,nev P (opd st.sl) (fun k=>st.bx[k]?) o.op o.type (fun q=>q=r)/\zNd r b=some q /\
  (∀ d,o.dst=some d->d<st.sl.length->st.sl[d]?=some q)/\∀ B f k,r=.b B f->b=some k->st.bx[k]?=some B) \/
 (zSL ops o st/\b=none/\∀ d,o.dst=some d->d<st.sl.length->st.sl[d]?=some (.tp []))
def zTM (ops:Array Oper) (P:Program) (st:St) (x:Nat × Option Nat):Prop:=∃ o,ops[x.1]?=some o/\zQe ops P st o x.2
structure SafeP (T:List Nat) (st:St) (p:PV):Prop where
 r:∀ k∈T,k∉p.refs
 b:∀ k∈p.refs,k∉T/\∀ B,st.bx[k]?=some B->∀ j∈T,j∉B.refs
theorem zEo {T:List Nat} {p:PV} (h:zNs T st p=true):SafeP T st p:=by
 simp only [zNs,oZ,oG,nR] at h
 have O:∀ k∈p.refs,k∉T:=λk I=>by have:=(h k I).1;simpa using this
 refine ⟨λk I hc=>O k hc I,λk I=>⟨O k I,λB U j Y J=>?_⟩⟩
 have:=(h k I).2
 rw [U] at this
 simp only [oZ,nR] at this
 have:=this j J
 simp at this
 exact this Y
structure Safe1 (T:List Nat) (st:St) (o:Oper) (b:Option Nat):Prop where
 op:∀ y∈o.op.operands,SafeP T st (opd st.sl y)
 ds:∀ d,o.dst=some d->SafeP T st (st.sl.getD d .any)
 bx:∀ k,b=some k->k∉T/\∀ B,st.bx[k]?=some B->∀ j∈T,j∉B.refs
theorem zBw {o:Oper} {b:Option Nat}:Safe1 [] st o b:=⟨λ_ _=>⟨by simp,by simp⟩,λ_ _=>⟨by simp,by simp⟩,by simp⟩
theorem zAN {ops:Array Oper} {T:List Nat} {x:Nat × Option Nat} {o:Oper} (U:ops[x.1]?=some o) (h:zMT ops T st x=true):Safe1 T st o x.2:=by
 unfold zMT at h
 rw [U] at h
 simp only [oG] at h
 obtain ⟨⟨I,Y⟩,O⟩:=h
 refine ⟨λy hy=>zEo (oZ.1 Y y (om.2 hy)),λd hd=>?_,λk hk=>?_⟩
 ·rw [hd] at O;exact zEo O
 ·rw [hk] at I
  simp only [oG,nR] at I
  refine ⟨by have:=I.1;simpa using this,λB hB j hj J=>?_⟩
  have:=I.2
  rw [hB] at this
  simp only [oZ,nR] at this
  have:=this j J
  simp at this
  exact this hj
/-- apart from what is written; of a pending copy, from the rows that are written -/
def zS7 (T TA:List Nat) (st:St) (o:Oper) (b:Option Nat):Prop:=Safe1 T st o b\/((∃ y,o.op=.move y)/\b=none/\Safe1 TA st o b)
theorem zKB {ops:Array Oper} {T:List Nat} {pf:Pend} (h:zNI ops T st pf=true) {x:Nat × Option Nat} (I:x∈pf) {o:Oper} (J:ops[x.1]?=some o):Safe1 T st o x.2:=by
 unfold zNI at h
 split at h
 ·exact zBw
 ·exact zAN J (oZ.1 h x I)
theorem zMX {ops:Array Oper} {T:List Nat} {pf:Pend} (h:safe ops T st pf=true) {x:Nat × Option Nat} (U:x∈pf) {o:Oper} (J:ops[x.1]?=some o):zS7 T (zOF st T) st o x.2:=by
 unfold safe at h
 split at h
 ·exact .inl zBw
 ·have:=oZ.1 h x U
  rw [mJ,oG] at this
  rcases this with I | ⟨I,Y⟩
  ·exact .inl (zAN J I)
  ·refine .inr ⟨?_,?_,zAN J Y⟩<;>unfold mvP at I<;>split at I
   ·rename_i o2 e1 O
    rw [J] at O;cases O
    split at I
    ·exact ⟨_,by assumption⟩
    ·cases I
   ·cases I
   ·assumption
   ·cases I
/-- a promise outlives a step that is apart from it -/
theorem zBv {ops:Array Oper} {o:Oper} {b:Option Nat} {T TA:List Nat} {dst:Option Nat} (h:zQe ops P st o b) (U:Stp T TA dst st st') (hA:∀ k∈TA,k∈T) (hs:zS7 T TA st o b) (hd:∀ d,dst=some d->d∉o.looksAt ops/\o.dst≠some d):zQe ops P st' o b:=by
 have aj:∀ y∈o.op.operands,∀ k∈TA,k∉(opd st.sl y).refs:=λy hy k J=>by
  rcases hs with hs | ⟨_,_,hs⟩
  ·exact (hs.op y hy).r k (hA k J)
  ·exact (hs.op y hy).r k J
 have ak:∀ d,o.dst=some d->∀ k∈TA,k∉(st.sl.getD d .any).refs:=λd I k J=>by
  rcases hs with hs | ⟨_,_,hs⟩
  ·exact (hs.ds d I).r k (hA k J)
  ·exact (hs.ds d I).r k J
 have O:∀ t p,t∈o.looksAt ops->st.sl[t]?=some p->(∀ k∈TA,k∉p.refs)->st'.sl[t]?=some p:=λt p ht hp J=>U.sl t p (λhc=>(hd t hc.symm).1 ht) hp J
 have aa:∀ y∈o.op.operands,opd st'.sl y=opd st.sl y:=λy hy=>by
  cases y with
  | tmp t=>
    have Y:=aj _ hy
    simp only [opd] at Y ⊢
    rw [oA] at Y
    rw [oA,oA]
    cases hp:st.sl[t]? with
    | none=>
      have:st'.sl[t]?=none:=oT (by rw [U.ll];exact nu.1 hp)
      rw [this]
    | some p=>
      rw [hp] at Y
      rw [O t p (by unfold Oper.looksAt;exact o0 _ (nW.2 ⟨.tmp t,om.2 hy,rfl⟩)) hp Y]
  | _=>rfl
 have ah:zQU ops o st->zQU ops o st':=λhw g ab hg=>by
  obtain ⟨og,d,h1,h2,h3⟩:=hw g ab hg
  exact ⟨og,d,h1,h2,O d _ (by simp [Oper.looksAt,hg,h1,h2]) h3 (by simp [PV.refs])⟩
 have ae:∀ d q,o.dst=some d->st.sl[d]?=some q->(∀ k∈TA,k∉q.refs)->st'.sl[d]?=some q:=λd q I hq J=>U.sl d q (λhc=>(hd d hc.symm).2 I) hq J
 rcases h with ⟨h1,h0,r,q,h2,h3,h4,h5⟩ | ⟨⟨g,ab,og,d,g1,g2,g3,g4⟩,h2,h3⟩
 ·refine .inl ⟨ah h1,λy hy k J=>?_,r,q,?_,h3,λd I ac=>?_,λB f k hr J=>?_⟩
  ·rw [aa y hy] at J;have:=h0 y hy k J;have:=U.bl;omega
  ·rcases hs with hs | ⟨⟨z,hz⟩,_,_⟩
   ·rw [zCW (ρ:=opd st.sl) (rb:=λk=>st.bx[k]?) aa λy hy k J=>?_]
    ·exact h2
    ·have al:=h0 y hy k J
     have ai:=(hs.op y hy).b k J
     have hB:st.bx[k]?=some st.bx[k]:=oH al
     show st'.bx[k]?=st.bx[k]?
     rw [U.bx k _ hB ai.1 (ai.2 _ hB),hB]
   ·have aa:=aa z (by rw [hz];simp [Op.operands])
    rw [hz] at h2 ⊢
    simp only [nev,qn] at h2 ⊢
    rw [aa];exact h2
  ·rw [U.ll] at ac
   have hq:=h4 d I ac
   have Y:=ak d I
   rw [oA,hq] at Y
   exact ae d q I hq Y
  ·rcases hs with hs | ⟨_,hb,_⟩
   ·have hB:=h5 B f k hr J
    have:=hs.bx k J
    exact U.bx k B hB this.1 (this.2 B hB)
   ·rw [hb] at J;cases J
 ·refine .inr ⟨⟨g,ab,og,d,g1,g2,g3,?_⟩,h2,λd' I ac=>?_⟩
  ·have hm:d∈o.looksAt ops:=by simp [Oper.looksAt,g1,g2,g3]
   rcases g4 with g4 | g4
   ·exact .inl (O d _ hm g4 (by simp [PV.refs]))
   ·exact .inr (O d _ hm g4 (by simp [PV.refs,PV.refsL]))
  ·rw [U.ll] at ac
   exact ae d' _ I (h3 d' I ac) (by simp [PV.refs,PV.refsL])
end Go.Proofs.YtnmnahkkcfghjaaGreat
