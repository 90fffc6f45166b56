/- A row is closed: it becomes a snapshot. -/
import Derived.Test.YtlahkdflngobiaaGreatDoorJe
set_option linter.unusedVariables false
set_option linter.unusedSimpArgs false
namespace Go.Proofs.YtlahkdflngobiaaGreatDoor
open Go
variable {av:Nat->Prop} {P:Program} {w0 w w':World} {e0 e:Env} {pS pS' pB:List Nat} {a:Act} {st st':St}
def zOd (k:Nat) (s:PV) (z:Nat) (p:PV):PV:=
 match p with
 | .sb k' z' lo n c=>if k'=k then (if z'=z/\lo=0 then s else .any) else p
 | _=>p.kill k
def zPF (k z len c:Nat) (p:PV) (K:Prop):Prop:=
 match p with
 | .sb k' z' lo n I=>if k'=k/\z'=z/\lo=0 then (n=len/\I=c)/\K else K
 | _=>K
def zO8 (k z len c:Nat):List PV->Prop->Prop
 | [],K=>K
 | p::ps,K=>zPF k z len c p (zO8 k z len c ps K)
def clo (k:Nat) (s:PV) (z:Nat) (p:PV):PV:=
 match p with
 | .pg cs=>if (PV.refsL cs).contains k then (if (cs.map (zOd k s z)).all PV.notAny=true then .pg (cs.map (zOd k s z)) else .any) else .pg cs
 | p=>zOd k s z p
def zOK (k z len c:Nat):List PV->Prop->Prop
 | [],K=>K
 | p::ps,K=>match p with
   | .pg cs=>zO8 k z len c cs (zOK k z len c ps K)
   | p=>zPF k z len c p (zOK k z len c ps K)
def Bx.clo (k:Nat) (s:PV) (z:Nat):Bx->Bx
 | .var cs=>.var (cs.map (zOd k s z))
 | B=>B
def zOp (k z len c:Nat):List Bx->Prop->Prop
 | [],K=>K
 | B::bs,K=>match B with
   | .var cs=>zO8 k z len c cs (zOp k z len c bs K)
   | _=>zOp k z len c bs K
def PV.ds1:PV->List D
 | .sv a z es c=>[.sl a z es c]
 | .d x=>[x]
 | .dc x=>[x]
 | .dg _ x=>[x]
 | _=>[]
def PV.ds:PV->List D
 | .pg cs=>cs.flatMap PV.ds1
 | p=>p.ds1
def Bx.ds:Bx->List D
 | .var cs=>cs.flatMap PV.ds1
 | .vd x _=>[x]
 | .arr _ _ es _=>[.ag es]
 | .gone=>[]
/-- the closed row's block is its own -/
structure Fresh (N0 N:Nat) (a:Option Addr) (ds:List D):Prop where
 lo:∀ ad,a=some ad->N0<=ad.block
 hi:∀ ad,a=some ad->ad.block<N
 off:∀ ad,a=some ad->ad.off=0
 ap:∀ ad,a=some ad->∀ d∈ds,ad.block∉d.foot
def St.clo (st:St) (k:Nat) (s:PV) (z:Nat) (N:Nat):St:={ st with sl:=st.sl.map (Proofs.YtlahkdflngobiaaGreatDoor.clo k s z),bx:=(st.bx.map (Bx.clo k s z)).set k .gone,N:=N }
/-- close box k; say that its block is none of those of the slots and boxes named -/
def zPK (N0:Option Nat) (st:St) (k:Nat) (fs I:List Nat) (K:St->Prop):Prop:=
 match N0,st.bx[k]?,Nat.ble st.pins.length k with
 | some N0,some (.arr _ z es c),true=>zOK k z es.length c st.sl (zOp k z es.length c st.bx (∀ a N,st.N<=N ->
  Fresh N0 N a (.ag es::(fs.flatMap λi=>(st.sl.getD i .any).ds)++I.flatMap λj=>if j=k then [] else (st.bx.getD j .gone).ds)->K (st.clo k (.sv a z es c) z N)))
 | _,_,_=>False
def NOk (N0:Option Nat) (w0:World):Prop:=∀ n,N0=some n->n=w0.heap.size
def zMl (k z len c:Nat) (p:PV):Prop:=∀ n I,p=.sb k z 0 n I->n=len/\I=c
theorem zHc {k z len c:Nat} {p:PV} {K:Prop} (h:zPF k z len c p K):zMl k z len c p/\K:=by
 cases p<;>simp only [zPF] at h<;>try exact ⟨λ_ _ h=>(by cases h),h⟩
 split at h
 ·rename_i hc
  exact ⟨λn J I=>by cases I;exact h.1,h.2⟩
 ·rename_i hc
  exact ⟨λn J I=>by cases I;exact absurd ⟨rfl,rfl,rfl⟩ hc,h⟩
theorem zDb {k z len c:Nat}:∀ {ps:List PV} {K:Prop},zO8 k z len c ps K->(∀ p∈ps,zMl k z len c p)/\K
 | [],K,h=>⟨by simp,h⟩
 | p::ps,K,h=>by
   simp only [zO8] at h
   obtain ⟨I,J⟩:=zHc h
   obtain ⟨O,h4⟩:=zDb J
   exact ⟨λq hq=>by rcases oH.1 hq with rfl | hq;exact I;exact O q hq,h4⟩
def zUC (k z len c:Nat) (p:PV):Prop:=zMl k z len c p/\∀ cs,p=.pg cs->∀ q∈cs,zMl k z len c q
theorem zDM {k z len c:Nat}:∀ {ps:List PV} {K:Prop},zOK k z len c ps K->(∀ p∈ps,zUC k z len c p)/\K
 | [],K,h=>⟨by simp,h⟩
 | p :: ps,K,h=>by
   have go:zPF k z len c p (zOK k z len c ps K)->(∀ cs,p≠.pg cs)->(∀ q∈p::ps,zUC k z len c q)/\K:=λh hp=>by
    obtain ⟨I,J⟩:=zHc h
    obtain ⟨O,h4⟩:=zDM J
    exact ⟨λq hq=>by
     rcases oH.1 hq with rfl | hq
     ·exact ⟨I,λcs hc=>absurd hc (hp cs)⟩
     ·exact O q hq,h4⟩
   cases p
   case pg cs=>
    simp only [zOK] at h
    obtain ⟨I,J⟩:=zDb h
    obtain ⟨O,h4⟩:=zDM J
    exact ⟨λq hq=>by
     rcases oH.1 hq with rfl | hq
     ·exact ⟨λ_ _ h=>(by cases h),λcs' hc=>by cases hc;exact I⟩
     ·exact O q hq,h4⟩
   all_goals exact go h (λ_ h=>by cases h)
theorem zC1 {k z len c:Nat}:∀ {bs:List Bx} {K:Prop},zOp k z len c bs K->(∀ cs,Bx.var cs∈bs->∀ q∈cs,zMl k z len c q)/\K
 | [],K,h=>⟨by simp,h⟩
 | B :: bs,K,h=>by
   cases B
   case var cs=>
    simp only [zOp] at h
    obtain ⟨O,h2⟩:=zDb h
    obtain ⟨I,J⟩:=zC1 h2
    exact ⟨λcs' hq=>by
     rcases oH.1 hq with hq | hq
     ·cases hq;exact O
     ·exact I cs' hq,J⟩
   all_goals
    simp only [zOp] at h
    obtain ⟨I,J⟩:=zC1 h
    exact ⟨λcs' hq=>by
     rcases oH.1 hq with hq | hq
     ·cases hq
     ·exact I cs' hq,J⟩
/-- a part of the state, closed: it reads as before -/
structure Clo (k:Nat) (w:World) (e:Env) (live:Nat->Prop) (p q:PV):Prop where
 v:q=.any\/p.val e=q.val e
 v1:q=.any\/p.cv e=q.cv e
 ok:p.Ok w live->q.Ok w live
 rf:∀ j∈q.refs,j∈p.refs/\j≠k
 c:p.isC->q=.any\/q.isC
theorem zQ6 {k:Nat} {live:Nat->Prop} {p:PV}:Clo k w e live p (p.kill k):=by
 rcases PV.kill_cases k p with h | ⟨h,J⟩
 ·rw [h];exact ⟨.inl rfl,.inl rfl,λ_=>trivial,by simp [PV.refs],λ_=>.inl rfl⟩
 ·rw [h];exact ⟨.inr rfl,.inr rfl,id,λj I=>⟨I,λhc=>J (hc ▸ I)⟩,λh=>.inr h⟩
theorem zFV {k z c:Nat} {es:List D} {live:Nat->Prop} (hg:Good w live (.sl ((e.at k).map λb=>⟨b,0,none⟩) z es c)) {p:PV} (hc:zMl k z es.length c p) :
  Clo k w e live p (zOd k (.sv ((e.at k).map λb=>⟨b,0,none⟩) z es c) z p):=by
 cases p
 case sb k' z' lo n I=>
  simp only [zOd]
  split
  ·rename_i J
   subst J
   split
   ·rename_i hz
    obtain ⟨rfl,rfl⟩:=hz
    obtain ⟨rfl,rfl⟩:=hc n I rfl
    have hv:(PV.sb k' z' 0 es.length I).cv e=(PV.sv ((e.at k').map λb=>⟨b,0,none⟩) z' es I).cv e:=by
     cases O:e.at k'<;>simp [PV.cv,O]
    exact ⟨.inr hv,.inr hv,λ_=>hg,by simp [PV.refs],λ_=>.inr trivial⟩
   ·exact ⟨.inl rfl,.inl rfl,λ_=>trivial,by simp [PV.refs],λ_=>.inl rfl⟩
  ·rename_i J
   exact ⟨.inr rfl,.inr rfl,id,λj hj=>⟨hj,λhc=>by simp [PV.refs] at hj;exact J (hj ▸ hc)⟩,λh=>.inr h⟩
 all_goals exact zQ6
theorem zIk {k z c:Nat} {es:List D} {live:Nat->Prop} (hg:Good w live (.sl ((e.at k).map λb=>⟨b,0,none⟩) z es c)) {p:PV} (hc:zUC k z es.length c p) (J:p.Ok w live) :
  (clo k (.sv ((e.at k).map λb=>⟨b,0,none⟩) z es c) z p=.any\/p.val e=(clo k (.sv ((e.at k).map λb=>⟨b,0,none⟩) z es c) z p).val e) /\
  (clo k (.sv ((e.at k).map λb=>⟨b,0,none⟩) z es c) z p).Ok w live/\∀ j∈(clo k (.sv ((e.at k).map λb=>⟨b,0,none⟩) z es c) z p).refs,j∈p.refs/\j≠k:=by
 generalize hs:PV.sv ((e.at k).map λb=>⟨b,0,none⟩) z es c=s
 cases p
 case pg cs=>
  simp only [clo]
  split
  ·split
   ·rename_i aa
    have O:∀ q∈cs,Clo k w e live q (zOd k s z q):=λq I=>by rw [<-hs];exact zFV hg (hc.2 cs rfl q I)
    have ab:∀ q∈cs,zOd k s z q≠.any:=λq I he=>by
     have:=oT.1 aa (zOd k s z q) (oU.2 ⟨q,I,rfl⟩)
     rw [he] at this
     simp [PV.notAny] at this
    simp only [PV.Ok,PV.OkL_iff] at J
    refine ⟨.inr ?_,?_,?_⟩
    ·simp only [PV.val,PV.val1,PV.cvs_eq,mO]
     congr 2
     exact nC λq I=>(O q I).v1.resolve_left (ab q I)
    ·simp only [PV.Ok,PV.OkL_iff]
     refine ⟨λq I=>?_,λq I=>?_⟩
     ·obtain ⟨r,hr,rfl⟩:=oU.1 I
      exact (O r hr).ok (J.1 r hr)
     ·obtain ⟨r,hr,rfl⟩:=oU.1 I
      exact ((O r hr).c (J.2 r hr)).resolve_left (ab r hr)
    ·intro j hj
     simp only [PV.refs] at hj ⊢
     obtain ⟨q,I,ac⟩:=PV.refsL_mem.1 hj
     obtain ⟨r,hr,rfl⟩:=oU.1 I
     have:=(O r hr).rf j ac
     exact ⟨PV.refsL_mem.2 ⟨r,hr,this.1⟩,this.2⟩
   ·exact ⟨.inl rfl,trivial,by simp [PV.refs]⟩
  ·rename_i hk
   refine ⟨.inr rfl,J,λj hj=>⟨hj,λae=>hk ?_⟩⟩
   simp only [PV.refs] at hj
   simpa using ae ▸ hj
 all_goals
  have:=zFV hg hc.1
  rw [hs] at this
  exact ⟨this.v,this.ok J,this.rf⟩
theorem zQP (h:Rel av w0 e0 pS pB a w e st) {k z c:Nat} {t:TypeId} {es:List D} (hk:st.bx[k]?=some (.arr t z es c)) (aj:k∉pB)
  (hS:∀ p∈st.sl,zUC k z es.length c p) (hB:∀ cs,Bx.var cs∈st.bx->∀ q∈cs,zMl k z es.length c q) :
  Rel av w0 e0 pS pB a w e (st.clo k (.sv ((e.at k).map λb=>⟨b,0,none⟩) z es c) z w.heap.size):=by
 have au:k<st.bx.length:=(oD.1 hk).1
 generalize hs:PV.sv ((e.at k).map λb=>(⟨b,0,none⟩:Addr)) z es c=s
 have ae:∀ (j:Nat) (B':Bx),((st.bx.map (Bx.clo k s z)).set k .gone)[j]?=some B'->(j=k/\B'=.gone)\/(j≠k/\∃ B,st.bx[j]?=some B/\B'=B.clo k s z):=λj B' hj=>by
  rw [nZ] at hj
  split at hj
  ·rename_i hh
   subst hh
   split at hj
   ·simp at hj;exact .inl ⟨rfl,hj.symm⟩
   ·cases hj
  ·rename_i hh
   rw [oI] at hj
   cases hB:st.bx[j]? with
   | none=>simp [hB] at hj
   | some B=>simp [hB] at hj;exact .inr ⟨λhc=>hh hc.symm,B,rfl,hj.symm⟩
 have I:∀ j b,Lives pB e ((st.bx.map (Bx.clo k s z)).set k .gone) j b->j≠k/\Lives pB e st.bx j b:=λj b ⟨h1,h2,B',h3,h4⟩=>by
  rcases ae j B' h3 with ⟨_,rfl⟩ | ⟨hj,B,J,rfl⟩
  ·exact absurd rfl h4
  ·refine ⟨hj,h1,h2,B,J,λhg=>h4 ?_⟩
   subst hg;rfl
 have aa:∀ b,zW av pB e ((st.bx.map (Bx.clo k s z)).set k .gone) b->zW av pB e st.bx b:=λb hb=>hb.imp id λ⟨j,hj⟩=>⟨j,(I j b hj).2⟩
 have ab:∀ p:PV,p.Ok w (zW av pB e st.bx)->p.Ok w (zW av pB e ((st.bx.map (Bx.clo k s z)).set k .gone)):=λp=>PV.Ok.mono (λ_ _ _=>rfl) (oB _) (λb _=>aa b) p
 -- the snapshot
 have hg:Good w (zW av pB e ((st.bx.map (Bx.clo k s z)).set k .gone)) (.sl ((e.at k).map λb=>⟨b,0,none⟩) z es c):=by
  have hr:=h.br k _ hk aj
  have ho:=h.bo k _ hk aj
  have ak:∀ x∈es,Good w (zW av pB e ((st.bx.map (Bx.clo k s z)).set k .gone)) x:=λx hx=>(ho x hx).mono (λ_ _ _=>rfl) λb _=>aa b
  rcases hr with ⟨g1,g2,g3⟩ | ⟨b,cc,g1,g2,g3,g4,g5,g6,g7⟩
  ·subst g2;subst g3
   rw [g1]
   exact ⟨.nil,by simp [D.foot,zC]⟩
  ·rw [g1]
   refine ⟨.sl (λ_=>rfl) g4 g6 (λx hx=>(ak x hx).1) (.inr ⟨cc,t,(0,0),g2,λi u hu=>by simpa using g7 i u hu⟩),λj hj ah=>?_⟩
   simp only [oe,D.foot] at hj
   split at hj
   ·simp at hj
   ·rcases oH.1 hj with rfl | hj
    ·have al:Lives pB e st.bx k j:=⟨aj,g1,_,hk,by simp⟩
     rcases ah with ah | ⟨i,hi⟩
     ·exact h.avn k j al ah
     ·obtain ⟨h1,h2⟩:=I i _ hi
      exact h1 (h.inj i k _ h2 al)
    ·obtain ⟨x,hx,ao⟩:=zH.1 hj
     exact (ak x hx).2 j ao ah
 have ac:∀ (i:Nat) (q:PV),(st.sl.map (clo k s z))[i]?=some q->∃ p,st.sl[i]?=some p/\q=clo k s z p/\zUC k z es.length c p:=λi q hi=>by
  rw [oI] at hi
  cases hp:st.sl[i]? with
  | none=>simp [hp] at hi
  | some p=>simp [hp] at hi;exact ⟨p,rfl,hi.symm,hS p (oC hp)⟩
 have O:∀ (j:Nat) (cs:List PV),st.bx[j]?=some (.var cs)->∀ q∈cs,Clo k w e (zW av pB e ((st.bx.map (Bx.clo k s z)).set k .gone)) q (zOd k s z q):=λj cs hj q hq=>by
  rw [<-hs];rw [<-hs] at hg;exact zFV hg (hB cs (oC hj) q hq)
 exact {
  el:=by simp [St.clo,h.el]
  br := λj B' hj hn=>by
   rcases ae j B' hj with ⟨_,rfl⟩ | ⟨am,B,J,rfl⟩
   ·exact True.intro
   ·have h6:=h.br j B J hn
    cases B with
    | var cs=>
      obtain ⟨b,cc,tt,h1,h2,h3,h4⟩:=h6
      refine ⟨b,cc,tt,h1,h2,by simpa using h3,λi p hp=>?_⟩
      rw [oI] at hp
      cases ai:cs[i]? with
      | none=>simp [ai] at hp
      | some q=>
        simp [ai] at hp
        subst hp
        rcases h4 i q ai with h7 | h7
        ·subst h7;exact .inl rfl
        ·rcases (O j cs J q (oC ai)).v1 with h8 | h8
         ·exact .inl h8
         ·exact .inr (by rw [<-h8];exact h7)
    | _=>exact h6
  bo:=λj B' hj hn=>by
   rcases ae j B' hj with ⟨_,rfl⟩ | ⟨am,B,J,rfl⟩
   ·exact True.intro
   ·have h6:=(h.bo j B J hn).mono (w':=w) (live':=zW av pB e ((st.bx.map (Bx.clo k s z)).set k .gone)) (λ_ _ _=>rfl) (oB _) (λb _=>aa b)
    cases B with
    | var cs=>
      obtain ⟨h7,h8⟩:=h6
      rw [PV.OkL_iff] at h7
      refine ⟨PV.OkL_iff.2 λp hp=>?_,λp hp=>?_⟩
      ·obtain ⟨q,hq,rfl⟩:=oU.1 hp
       exact (O j cs J q hq).ok (h7 q hq)
      ·obtain ⟨q,hq,rfl⟩:=oU.1 hp
       rcases h8 q hq with h9 | h9
       ·subst h9;exact .inl rfl
       ·exact (O j cs J q hq).c h9
    | _=>exact h6
  bf:=λj B' hj hn i hi=>by
   simp only [St.clo,nw,nO]
   rcases ae j B' hj with ⟨_,rfl⟩ | ⟨am,B,J,rfl⟩
   ·simp [Bx.refs] at hi
   ·cases B with
    | var cs=>
      simp only [Bx.clo,Bx.refs] at hi
      obtain ⟨p,hp,aq⟩:=PV.refsL_mem.1 hi
      obtain ⟨q,hq,rfl⟩:=oU.1 hp
      exact h.bf j _ J hn i (by simp only [Bx.refs];exact PV.refsL_mem.2 ⟨q,hq,((O j cs J q hq).rf i aq).1⟩)
    | _=>exact h.bf j _ J hn i hi
  inj:=λi j b hi hj=>h.inj i j b (I i b hi).2 (I j b hj).2
  ku:=h.ku
  size:=h.size
  old:=h.old
  fz:=h.fz
  nd:=h.nd
  sz:=by simp [St.clo];exact h.sz
  hN:=oB _
  hs:=λi q hi hn=>by
   obtain ⟨p,h1,rfl,h3⟩:=ac i q hi
   have h4:=ab p (h.so i p h1 hn)
   rw [<-hs] at hg h4
   have J:=zIk hg h3 h4
   rw [hs] at J
   rcases J.1 with h6 | h6
   ·exact .inl h6
   ·rcases h.hs i p h1 hn with h7 | h7
    ·subst h7;left;simp [clo,zOd,PV.kill,PV.refs]
    ·exact .inr (h7.trans h6)
  so:=λi q hi hn=>by
   obtain ⟨p,h1,rfl,h3⟩:=ac i q hi
   have h4:=ab p (h.so i p h1 hn)
   rw [<-hs] at hg h4
   have J:=zIk hg h3 h4
   rw [hs] at J
   exact J.2.1
  sr:=λi q hi hn j hj=>by
   obtain ⟨p,h1,rfl,h3⟩:=ac i q hi
   have h4:=ab p (h.so i p h1 hn)
   rw [<-hs] at hg h4
   have J:=zIk hg h3 h4
   rw [hs] at J
   have:=h.sr i p h1 hn j (J.2.2 j hj).1
   exact ⟨this.1,by simp [St.clo];exact this.2⟩
  own:=λj b hj=>h.own j b (I j b hj).2
  avl:=h.avl
  avn:=λj b hj=>h.avn j b (I j b hj).2
  pin:=h.pin
  pit:=h.pit }
theorem zJN {live:Nat->Prop} {p:PV} (h:p.Ok w live):∀ d∈p.ds1,Good w live d:=by
 cases p<;>simp [PV.ds1]<;>simp only [PV.Ok] at h
 ·exact h
 ·exact h
 ·exact h.1
 ·exact h.1
theorem zTV {live:Nat->Prop} {p:PV} (h:p.Ok w live):∀ d∈p.ds,Good w live d:=by
 cases p
 case pg cs=>
  simp only [PV.Ok,PV.OkL_iff] at h
  intro d hd
  simp only [PV.ds] at hd
  obtain ⟨q,I,hd⟩:=ny.1 hd
  exact zJN (h.1 q I) d hd
 all_goals exact zJN h
theorem zRJ {live:Nat->Prop} {B:Bx} (h:B.Ok w live):∀ d∈B.ds,Good w live d:=by
 cases B with
 | var cs=>
   have I:=h.1
   rw [PV.OkL_iff] at I
   intro d hd
   simp only [Bx.ds] at hd
   obtain ⟨q,J,hd⟩:=ny.1 hd
   exact zJN (I q J) d hd
 | vd x n=>simp only [Bx.ds];intro d hd;simp at hd;subst hd;exact h
 | arr t z es c=>simp only [Bx.ds];intro d hd;simp at hd;subst hd;exact Good.ag h
 | gone=>simp [Bx.ds]
/-- closing: none of the slots and boxes named may be pending -/
theorem zLf (h:Rel av w0 e0 pS pB a w e st) {N0:Option Nat} (ae:NOk N0 w0) {k:Nat} (aa:k∉pB) {fs fb:List Nat} (ah:∀ i∈fs,i∉pS) (ai:∀ i∈fb,i∉pB) {K:St->Prop} (hs:zPK N0 st k fs fb K) :
  ∃ s z N,K (st.clo k s z N)/\Rel av w0 e0 pS pB a w e (st.clo k s z N)/\s.refs=[]:=by
 unfold zPK at hs
 split at hs
 rotate_left
 ·exact hs.elim
 rename_i n0 t z es c hk ac
 have ac:=mT ac
 obtain rfl:=ae _ rfl
 obtain ⟨h1,hs⟩:=zDM hs
 obtain ⟨h2,hs⟩:=zC1 hs
 refine ⟨_,_,_,hs ((e.at k).map λb=>⟨b,0,none⟩) w.heap.size h.hN ?_,zQP h hk aa h1 h2,rfl⟩
 have O:∀ ad,((e.at k).map λb=>(⟨b,0,none⟩:Addr))=some ad->ad.off=0/\Lives pB e st.bx k ad.block:=λad I=>by
  cases ab:e.at k with
  | none=>simp [ab] at I
  | some b=>simp [ab] at I;subst I;exact ⟨rfl,aa,ab,_,hk,by simp⟩
 have J:∀ b,Lives pB e st.bx k b->∀ d,Good w (zW av pB e st.bx) d->b∉d.foot:=λb hl d hd hc=>hd.2 b hc (.inr ⟨k,hl⟩)
 refine ⟨λad I=>?_,λad I=>Lives.lt h.toMem (O ad I).2,λad I=>(O ad I).1,λad I d hd=>?_⟩
 ·rcases h.own k _ (O ad I).2 with h3 | h3
  ·exact h3
  ·omega
 ·have J:=J _ (O ad I).2
  simp only [o9] at hd
  rcases oH.1 hd with rfl | hd
  ·exact J _ (Good.ag (h.bo k _ hk aa))
  ·rcases oG.1 hd with hd | hd
   ·obtain ⟨i,hi,hd⟩:=ny.1 hd
    cases hp:st.sl[i]? with
    | none=>rw [oA,hp] at hd;simp [PV.ds,PV.ds1] at hd
    | some p=>
      rw [oA,hp] at hd
      exact J d (zTV (h.so i p hp (ah i hi)) d hd)
   ·obtain ⟨j,hj,hd⟩:=ny.1 hd
    split at hd
    ·simp at hd
    ·cases hB:st.bx[j]? with
     | none=>rw [oA,hB] at hd;simp [Bx.ds] at hd
     | some B=>
       rw [oA,hB] at hd
       exact J d (zRJ (h.bo j B hB (ai j hj)) d hd)
variable {av:Nat->Prop} {P:Program} {w0 w w':World} {e0 e:Env} {pS pS' pB:List Nat} {a:Act} {st st':St}
def yH (P:Program):List TypeId->List PV->List PV
 | t::I,p::ps=>retag P t p::yH P I ps
 | _,ps=>ps
def zT4 (P:Program) (p:PV):List TypeId:=
 match p with
 | .fn f _=>match P.funcs[f]? with
   | some fn=>fn.params.toList
   | none=>[]
 | _=>[]
theorem ww:∀ (I:List TypeId) (ps:List PV),(yH P I ps).length=ps.length
 | [],ps=>rfl
 | t::I,[]=>rfl
 | t::I,p::ps=>by simp [yH,ww I ps]
theorem rq:∀ (I:List TypeId) (ps:List PV) (i:Nat) (q:PV),(yH P I ps)[i]?=some q->∃ p,ps[i]?=some p/\(q=p\/∃ t,q=retag P t p)
 | [],ps,i,q,h=>⟨q,h,.inl rfl⟩
 | t::I,[],i,q,h=>by simp [yH] at h
 | t::I,p::ps,i,q,h=>by
   cases i with
   | zero=>simp [yH] at h;exact ⟨p,rfl,.inr ⟨t,h.symm⟩⟩
   | succ i=>simp [yH] at h;simpa using rq I ps i q h
/-- the results of a call that may write the caller's boxes, as the table marks them -/
def zVr:List Sh->Option (List Sh)
 | .row _ z::l=>match Nat.beq z 1000007 with
   | true=>some l
   | false=>none
 | _=>none
/-- it rewrites a row in place -/
def zV7:List Sh->Bool
 | .row t _::_=>Nat.beq t 1
 | _=>false
/-- a call: lent, or handed on to be written -/
def zUT (P:Program) (sh:FuncId->List Sh) (st:St) (dst:Option Nat) (x:Operand) (args:List PV) (K:St->Prop):Prop:=
 match zQy (opd st.sl x) with
 | some (f,_)=>match zVr (sh f) with
   | some rs=>match zV7 (sh f) with
     | true=>zSg P st dst x args K
     | false=>zUF P rs st dst x args K
   | none=>zTQ P sh st dst x args K
 | none=>False
def zTg (sh:FuncId->List Sh) (st:St) (x:Operand) (args:List PV):List Nat:=
 match zQy (opd st.sl x) with
 | some (f,caps)=>match zVr (sh f) with
   | some _=>zAh st.bx 200 (PV.refsL (args++caps)) []
   | none=>[]
 | none=>[]
def zVc (P:Program) (sh:FuncId->List Sh) (o:Oper) (st:St) (K:St->Prop):Prop:=
 match o.op with
 | .store t x y=>stF P (opd st.sl) (λk=>st.bx[k]?) t x y λk B=>K (St.put { st with bx:=st.bx.set k B } o.dst (.tp []))
 | .call c=>match c.callee with
   | .builtin .append=>match c.args.toList,c.argTypes.toList with
     | [x,y],[t,I]=>if t=I then apF false P st o.dst t x y K else match P.underlying I with
       | some .string=>zQi P st o.dst t I x y K
       | _=>zTx P st o.dst t I x y K
     | _,_=>False
   | .builtin .clear=>match c.args.toList,c.argTypes.toList with
     | [x],[t]=>zPS P st o.dst t x K
     | _,_=>False
   | .builtin .cap=>match c.args.toList,c.argTypes.toList with
     | [x],[t]=>match P.underlying t,zVp (opd st.sl x) with
       | some (.slice _),some n=>K (st.put o.dst (.int .i64 n))
       | _,_=>False
     | _,_=>False
   | .value x=>zUT P sh st o.dst x (yH P (zT4 P (opd st.sl x)) (c.args.toList.map (opd st.sl))) K
   | _=>False
 | _=>False
/-- the boxes that the operation writes -/
def sj (P:Program) (sh:FuncId->List Sh) (o:Oper) (st:St):List Nat:=
 match o.op with
 | .store t x y=>match opd st.sl x with
   | .pb k _ _ _=>[k]
   | _=>[]
 | .call c=>match c.callee with
   | .builtin .append=>match c.args.toList,c.argTypes.toList with
     | [x,y],[t,I]=>match retag P t (opd st.sl x) with
       | .sb k _ _ _ _=>[k]
       | _=>[]
     | _,_=>[]
   | .builtin .clear=>match c.args.toList with
     | [x]=>match opd st.sl x with
       | .sb k _ _ _ _=>[k]
       | _=>[]
     | _=>[]
   | .value x=>zTg sh st x (yH P (zT4 P (opd st.sl x)) (c.args.toList.map (opd st.sl)))
   | _=>[]
 | _=>[]
/-- rows among these boxes -/
def zOz (st:St) (T:List Nat):List Nat:=T.filter λk=>(st.bx.getD k .gone).isArr
theorem zJq {T:List Nat}:∀ k∈zOz st T,k∈T:=λk h=>(nx.1 h).1
/-- what a step leaves as it was: boxes apart from T, slots apart from TA -/
structure Stp (T TA:List Nat) (dst:Option Nat) (st st':St):Prop where
 sl:∀ (i:Nat) (p:PV),some i≠dst->st.sl[i]?=some p->(∀ k∈TA,k∉p.refs)->st'.sl[i]?=some p
 bx:∀ (k:Nat) (B:Bx),st.bx[k]?=some B->k∉T->(∀ j∈T,j∉B.refs)->st'.bx[k]?=some B
 bl:st.bx.length<=st'.bx.length
 ll:st'.sl.length=st.sl.length
theorem Stp.rfl' {T TA:List Nat} {dst:Option Nat}:Stp T TA dst st st:=⟨λ_ _ _ h _=>h,λ_ _ h _ _=>h,oB _,rfl⟩
theorem Stp.put {T TA:List Nat} {dst:Option Nat} (h:Stp T TA dst st st') (p:PV):Stp T TA dst st (st'.put dst p):=by
 cases dst with
 | none=>exact h
 | some d=>
   refine ⟨λi q hi I hT=>?_,λk B J O h2=>h.bx k B J O h2,h.bl,by simp [St.put,h.ll]⟩
   simp only [St.put]
   rw [nY (λhc=>hi (by rw [hc]))]
   exact h.sl i q hi I hT
theorem Stp.app {T TA:List Nat} {dst:Option Nat} (h:Stp T TA dst st st') (rows:List Bx) (N:Nat):Stp T TA dst st { st' with bx:=st'.bx++rows,N:=N }:=by
 refine ⟨h.sl,λk B I J O=>?_,by simp;have:=h.bl;omega,h.ll⟩
 have:=h.bx k B I J O
 simp only
 rw [oN (oD.1 this).1]
 exact this
theorem Stp.set {T TA:List Nat} {dst:Option Nat} (h:Stp T TA dst st st') {k:Nat} (J:k∈T) (B:Bx):Stp T TA dst st { st' with bx:=st'.bx.set k B }:=by
 refine ⟨h.sl,λj C O I h2=>?_,by simp;exact h.bl,h.ll⟩
 simp only
 rw [nY (λhc=>I (by rw [<-hc];exact J))]
 exact h.bx j C O I h2
theorem zFN {k:Nat} {p:PV} (h:k∉p.refs):p.kill k=p:=by
 simp [PV.kill,h]
theorem Stp.kill {T TA:List Nat} {dst:Option Nat} (h:Stp T TA dst st st') {k:Nat} (O:k∈T) (ha:k∈TA):Stp T TA dst st (st'.kill k):=by
 refine ⟨λi p hi I hT=>?_,λj C hj h1 J=>?_,by simp [St.kill];exact h.bl,by simp [St.kill,h.ll]⟩
 ·simp only [St.kill,oI,h.sl i p hi I hT,oe,zFN (hT k ha)]
 ·simp only [St.kill,oI,h.bx j C hj h1 J,oe]
  congr 1
  cases C with
  | var cs=>
    simp only [Bx.kill]
    congr 1
    conv=>rhs;rw [<-List.map_id cs]
    refine nC λp I=>zFN λhc=>J k O ?_
    simp only [Bx.refs];exact PV.refsL_mem.2 ⟨p,I,hc⟩
  | _=>rfl
theorem zFh {T TA:List Nat} {dst:Option Nat} {bx:List Bx}:∀ (ks:List Nat) (st':St),(∀ k∈ks,k∈T)->(∀ k∈ks,(bx.getD k .gone).isArr=true->k∈TA)->Stp T TA dst st st'->Stp T TA dst st (vG bx ks st')
 | [],st',_,_,h=>h
 | k::ks,st',J,O,h=>by
   simp only [vG]
   split
   ·rename_i hc
    exact zFh ks _ (λj I=>J j (by simp [I])) (λj I=>O j (by simp [I])) (h.kill (J k (by simp)) (O k (by simp) hc))
   ·exact zFh ks _ (λj I=>J j (by simp [I])) (λj I=>O j (by simp [I])) h
theorem zUj {dst:Option Nat} (ks:List Nat) (nb rows:List Bx) (N:Nat):Stp ks (zOz st ks) dst st (zVK st ks nb rows N):=by
 have I:=zFh (dst:=dst) (bx:=st.bx) ks st (λ_ h=>h) (λk J hc=>nx.2 ⟨J,hc⟩) Stp.rfl'
 refine Stp.app (st':={ vG st.bx ks st with bx:=bxN ks (nb.map (Bx.mapR λj=>ks.getD j 0)) 0 (vG st.bx ks st).bx }) ⟨I.sl,λk B J hT O=>?_,by simp only [xv];exact I.bl,I.ll⟩ rows N
 have h2:=I.bx k B J hT O
 simp only [zL5,h2,oe,nM]
 cases hp:pos ks k with
 | none=>rfl
 | some j=>exact absurd (oC (zAH hp)) hT
theorem zLi {ρ:Operand->PV} {rb:Nat->Option Bx} {t:TypeId} {x y:Operand} {K:Nat->Bx->Prop} (h:stF P ρ rb t x y K):stF P ρ rb t x y λk B=>(∃ z i o,ρ x=.pb k z i o)/\K k B:=by
 unfold stF at h ⊢
 split at h
 ·rename_i z k zz i o J I
  split at h
  ·rename_i B O
   have:(λB=>(∃ z i o,ρ x=.pb k z i o)/\K k B)=K k:=by
    funext B
    exact propext ⟨λh=>h.2,λh=>⟨⟨_,_,_,I⟩,h⟩⟩
   show zOG z zz B i o (retag P t (ρ y)) (λB=>(∃ z i o,ρ x=.pb k z i o)/\K k B)
   rw [this]
   exact h
  ·exact h.elim
 ·exact h.elim
theorem zKO {g:Bool} {dst:Option Nat} {t:TypeId} {x y:Operand} {K:St->Prop} {T:List Nat} (hT:T=match retag P t (opd st.sl x) with | .sb k _ _ _ _=>[k] | _=>[]) (h:apF g P st dst t x y K) :
  apF g P st dst t x y λst'=>Stp T (zOz st T) dst st st'/\K st':=by
 have mono:∀ (q:PV) (R R':Nat->List D->Prop),(∀ z l,R z l->R' z l)->zOr g (λk=>st.bx[k]?) q R->zOr g (λk=>st.bx[k]?) q R':=λq R R' O h=>by
  unfold zOr at h ⊢
  split at h
  ·rename_i k z lo n c
   simp only
   split at h
   ·rename_i I
    simp only [I]
    split at h
    ·split at h
     ·rename_i hc;rw [if_pos hc];exact O _ _ h
     ·exact h.elim
    ·split at h
     ·rename_i hc;rw [if_pos hc];exact ⟨h.1,O _ _ h.2⟩
     ·exact h.elim
   ·exact h.elim
  ·exact O _ _ h
  ·exact h.elim
 unfold apF at h ⊢
 split at h
 rotate_left
 ·exact h.elim
 rename_i el aa
 try simp only [aa]
 split at h
 rotate_left
 ·exact h.elim
 rename_i z i hz hi
 try simp only [hz,hi]
 split at h
 ·exact h.elim
 rename_i hb
 rw [if_neg hb]
 refine mono _ _ _ (λz2 new h=>?_) h
 split at h
 rotate_left
 ·exact h.elim
 rename_i ab
 rw [if_pos ab]
 split at h
 ·rename_i k z1 lo n c J
  rw [J] at hT
  simp only at hT
  try simp only [J]
  split at h
  ·exact h.elim
  rename_i ac
  try simp only [ac]
  split at h
  ·rename_i t' z' es c' I
   try simp only [I]
   split at h
   ·rename_i hc
    rw [if_pos hc]
    refine ⟨h.1,h.2.1,λc2=>(h.2.2 c2).mono λh=>⟨?_,h⟩⟩
    refine Stp.put (Stp.set (st':=st.kill k) (Stp.kill Stp.rfl' (by rw [hT];simp) (by rw [hT];simp [zOz,oA,I,Bx.isArr])) (by rw [hT];simp) _) _
   ·exact h.elim
  ·exact h.elim
 ·rename_i ad z1 es c J
  try simp only [J]
  split at h
  ·rename_i hc
   rw [if_pos hc]
   refine ⟨h.1,h.2.1,λc2=>⟨?_,h.2.2 c2⟩⟩
   exact Stp.put (Stp.app Stp.rfl' _ _) _
  ·exact h.elim
 ·exact h.elim
theorem zR8 (h:Rel av w0 e0 pS pB a w e st) (al:∀ k∈pB,k<st.bx.length) {sh:FuncId->List Sh} {o:Oper} {K:St->Prop}
  (hx:∀ x∈o.op.operands,∀ t,x=.tmp t->t∉pS) (ac:∀ i,i∈pS->some i≠o.dst->i∈pS') (hs:zVc P sh o st K)
  {next:Act->World->Prop} {Q:Exit->Act->World->Prop}
  (hn:∀ v w' e' st',K st'->Stp (sj P sh o st) (zOz st (sj P sh o st)) o.dst st st'->Rel av w0 e0 pS' pB (a.put o.dst v) w' e' st'->next (a.put o.dst v) w'):o.wp P a w next Q:=by
 unfold zVc at hs
 split at hs
 ·rename_i t x y J
  have ae:sj P sh o st=match opd st.sl x with | .pb k _ _ _=>[k] | _=>[]:=by simp only [sj,J]
  rw [J] at hx
  simp only [Op.operands] at hx
  obtain ⟨w',k,B',h1,⟨⟨z,i,oo,hk⟩,h2⟩,h3⟩:=zJ2 h (hx x (by simp)) (hx y (by simp)) (zLi hs)
  have O:(execOp a.eval o).run P w=.ok .skip w':=by
   obtain ⟨dst,op,ty,pos,after,guard⟩:=o
   simp only at J
   subst J
   simp [execOp,h1]
  unfold Oper.wp
  rw [O,Oper.upon_skip]
  refine hn undef w' e _ h2 ?_ (xz h3 ⟨.inr rfl,by simp [PV.Ok,PV.OkL],by simp [PV.refs,PV.refsL]⟩ ac)
  rw [ae,hk]
  exact Stp.put (Stp.set Stp.rfl' (by simp) _) _
 ·rename_i c J
  rw [J] at hx
  simp only [Op.operands,Call.operands] at hx
  split at hs
  ·rename_i hc
   split at hs
   ·rename_i x y t t' I ab
    split at hs
    rotate_left
    ·have hm:∀ z,z∈[x,y]->z∈c.args:=λz hz=>by rw [<-I] at hz;exact ou.1 hz
     split at hs
     ·skip
      obtain ⟨v,w',e',st',h1,h3,h4,k,z,lo,n,cc,B,q,hq,⟨t1,z1,a6,c1,hk⟩,h2⟩:=zMd h (ty:=o.type) (hx x (by simp [hm])) (hx y (by simp [hm])) ac hs
      have ea:c.args=#[x,y]:=by rw [<-nE,I]
      have et:c.argTypes=#[t,t']:=by rw [<-nE,ab]
      have O:(execOp a.eval o).run P w=.ok (.value v) w':=by
       obtain ⟨dst,op,ty,pos,after,guard⟩:=o
       simp only at J h1
       subst J
       simp [execOp,resolve,hc,invoke,builtin,ea,et,h1]
      unfold Oper.wp
      rw [O,Oper.upon_value]
      refine hn v w' e' st' h3 ?_ h4
      rw [h2]
      have ae:sj P sh o st=[k]:=by simp only [sj,J,hc,I,ab,hq]
      rw [ae]
      exact Stp.put (Stp.set (st':=st.kill k) (Stp.kill Stp.rfl' (by simp) (by simp [zOz,oA,hk,Bx.isArr])) (by simp) _) _
     ·skip
      obtain ⟨v,w',e',st',h1,h3,h4,rows,q,h2⟩:=zN0 h al (ty:=o.type) (hx x (by simp [hm])) (hx y (by simp [hm])) ac hs
      have ea:c.args=#[x,y]:=by rw [<-nE,I]
      have et:c.argTypes=#[t,t']:=by rw [<-nE,ab]
      have O:(execOp a.eval o).run P w=.ok (.value v) w':=by
       obtain ⟨dst,op,ty,pos,after,guard⟩:=o
       simp only at J h1
       subst J
       simp [execOp,resolve,hc,invoke,builtin,ea,et,h1]
      unfold Oper.wp
      rw [O,Oper.upon_value]
      refine hn v w' e' st' h3 ?_ h4
      rw [h2]
      exact Stp.put (Stp.app (N:=st.N) Stp.rfl' rows) q
    rename_i aw
    subst aw
    have hm:∀ z,z∈[x,y]->z∈c.args:=λz hz=>by rw [<-I] at hz;exact ou.1 hz
    have ae:sj P sh o st=match retag P t (opd st.sl x) with | .sb k _ _ _ _=>[k] | _=>[]:=by simp only [sj,J,hc,I,ab]
    obtain ⟨v,w',e',st',h1,⟨h2,h3⟩,h4⟩:=zKE h al (ty:=o.type) (hx x (by simp [hm])) (hx y (by simp [hm])) ac (zKO ae hs)
    have ea:c.args=#[x,y]:=by rw [<-nE,I]
    have et:c.argTypes=#[t,t]:=by rw [<-nE,ab]
    have O:(execOp a.eval o).run P w=.ok (.value v) w':=by
     obtain ⟨dst,op,ty,pos,after,guard⟩:=o
     simp only at J h1
     subst J
     simp [execOp,resolve,hc,invoke,builtin,ea,et,h1]
    unfold Oper.wp
    rw [O,Oper.upon_value]
    exact hn v w' e' st' h3 h2 h4
   ·exact hs.elim
  ·rename_i hc
   split at hs
   ·rename_i x t I ab
    have hm:∀ z,z∈[x]->z∈c.args:=λz hz=>by rw [<-I] at hz;exact ou.1 hz
    obtain ⟨v,w',st',h1,h3,h4,k,B,⟨z,lo,n,cc,hk⟩,h2⟩:=zMM h (ty:=o.type) (hx x (by simp [hm])) ac hs
    have ae:sj P sh o st=[k]:=by simp only [sj,J,hc,I,hk]
    have ea:c.args=#[x]:=by rw [<-nE,I]
    have et:c.argTypes=#[t]:=by rw [<-nE,ab]
    have O:(execOp a.eval o).run P w=.ok (.value v) w':=by
     obtain ⟨dst,op,ty,pos,after,guard⟩:=o
     simp only at J h1
     subst J
     simp [execOp,resolve,hc,invoke,builtin,ea,et,h1]
    unfold Oper.wp
    rw [O,Oper.upon_value]
    refine hn v w' e st' h3 ?_ h4
    rw [ae,h2]
    exact Stp.put (Stp.set Stp.rfl' (by simp) _) _
   ·exact hs.elim
  ·rename_i hc
   split at hs
   ·rename_i x t I ab
    split at hs
    ·rename_i el n ax am
     have hm:∀ z,z∈[x]->z∈c.args:=λz hz=>by rw [<-I] at hz;exact ou.1 hz
     have ox:=(xZ h (hx x (by simp [hm]))).valOk
     have ea:c.args=#[x]:=by rw [<-nE,I]
     have et:c.argTypes=#[t]:=by rw [<-nE,ab]
     have hv:∃ (b:Option Addr) (m:Nat),a.eval x=.slice b m n:=by
      cases ay:opd st.sl x<;>rw [ay] at am ox<;>simp [zVp] at am
      ·subst am
       have:=ox.1.resolve_left (by simp)
       exact ⟨_,_,this⟩
      ·subst am
       have:=ox.1.resolve_left (by simp)
       rw [this]
       simp only [PV.val,PV.val1,PV.cv]
       split<;>exact ⟨_,_,rfl⟩
     obtain ⟨b,m,hv⟩:=hv
     have O:(execOp a.eval o).run P w=.ok (.value (.int .i64 n)) w:=by
      obtain ⟨dst,op,ty,pos,after,guard⟩:=o
      simp only at J
      subst J
      simp [execOp,resolve,hc,invoke,builtin,ea,et,Builtin.cap_,run_underlying ax,hv,goInt]
     unfold Oper.wp
     rw [O,Oper.upon_value]
     exact hn _ w e _ hs (Stp.put Stp.rfl' _) (xz h z7 ac)
    ·exact hs.elim
   ·exact hs.elim
  ·rename_i x hc
   have ae:sj P sh o st=zTg sh st x (yH P (zT4 P (opd st.sl x)) (c.args.toList.map (opd st.sl))):=by simp only [sj,J,hc]
   rw [ae] at hn
   have ah:∀ (i:Nat) (p:PV) (y:Operand),(yH P (zT4 P (opd st.sl x)) (c.args.toList.map (opd st.sl)))[i]?=some p->c.args[i]?=some y->ValOk av w e pB st.bx (a.eval y) p:=λi p y hp hy=>by
    obtain ⟨q,hq,az⟩:=rq _ _ _ _ hp
    rw [oI] at hq
    simp only [nT,hy,oe,o4] at hq
    subst hq
    have:=(xZ h (hx y (by simp [Array.mem_of_getElem? hy]))).valOk
    rcases az with rfl | ⟨t,rfl⟩
    ·exact this
    ·exact this.retag t
   have ai:(yH P (zT4 P (opd st.sl x)) (c.args.toList.map (opd st.sl))).length=c.args.size:=by rw [ww];simp
   generalize yH P (zT4 P (opd st.sl x)) (c.args.toList.map (opd st.sl))=args at hs hn ah ai
   unfold zUT at hs
   unfold zTg at hn
   split at hs
   ·rename_i f caps hf
    simp only [hf] at hn
    split at hs
    ·rename_i rs aq
     simp only [aq] at hn
     split at hs
     ·unfold zSg at hs
      rw [hf] at hs
      simp only at hs
      split at hs
      ·rename_i aa
       rw [oT] at aa
       have aj:∀ k∈PV.refsL (args++caps),k∉pB:=λk hk=>by
        obtain ⟨p,hp,ak⟩:=PV.refsL_mem.1 hk
        rcases oG.1 hp with hp | hp
        ·obtain ⟨i,hi⟩:=oQ.1 hp
         have au:i<c.args.size:=by rw [<-ai];exact (oD.1 hi).1
         exact ((ah i p _ hi (oi au)).2.2 k ak).1
        ·have ox:=tP (xZ h (hx x (by simp [hc]))).valOk hf
         exact (ox.2.2 k (by simp only [PV.refs];exact PV.refsL_mem.2 ⟨p,hp,ak⟩)).1
       refine zLd h J hc (hx x (by simp [hc])) ai ah hf aa (pY (A:=λk=>k∉pB) (λk hk j hj=>?_) 200 _ [] aj (by simp)) ac hs λv w' e' st' h1 h2 h3=>?_
       ·rw [oA] at hj
        cases hB:st.bx[k]? with
        | none=>rw [hB] at hj;simp [Bx.refs] at hj
        | some B=>rw [hB] at hj;exact (h.bf k B hB hk j hj).1
       ·obtain ⟨k,B,N,hk,rfl⟩:=h2
        have ao:=Stp.set (dst:=o.dst) (st:=st) (TA:=zOz st (zAh st.bx 200 (PV.refsL (args++caps)) [])) Stp.rfl' hk B
        exact hn v w' e' _ h1 (Stp.put (st':={ st with bx:=st.bx.set k B,N:=N }) ⟨ao.sl,ao.bx,ao.bl,ao.ll⟩ _) h3
      ·exact hs.elim
     unfold zUF at hs
     rw [hf] at hs
     simp only at hs
     split at hs
     ·rename_i aa
      rw [oT] at aa
      have aj:∀ k∈PV.refsL (args++caps),k∉pB:=λk hk=>by
       obtain ⟨p,hp,ak⟩:=PV.refsL_mem.1 hk
       rcases oG.1 hp with hp | hp
       ·obtain ⟨i,hi⟩:=oQ.1 hp
        have au:i<c.args.size:=by rw [<-ai];exact (oD.1 hi).1
        exact ((ah i p _ hi (oi au)).2.2 k ak).1
       ·have ox:=tP (xZ h (hx x (by simp [hc]))).valOk hf
        exact (ox.2.2 k (by simp only [PV.refs];exact PV.refsL_mem.2 ⟨p,hp,ak⟩)).1
      refine zMQ h al J hc (hx x (by simp [hc])) ai ah hf aa (ti 200 _ [] mK) (pY (A:=λk=>k∉pB) (λk hk j hj=>?_) 200 _ [] aj (by simp)) ac hs λv w' e' st' h1 h2 h3=>?_
      ·rw [oA] at hj
       cases hB:st.bx[k]? with
       | none=>rw [hB] at hj;simp [Bx.refs] at hj
       | some B=>rw [hB] at hj;exact (h.bf k B hB hk j hj).1
      ·obtain ⟨nb,rows,N,q,rfl⟩:=h2
       exact hn v w' e' _ h1 (Stp.put (zUj _ _ _ _) _) h3
     ·exact hs.elim
    ·rename_i aq
     simp only [aq] at hn
     refine zMr h al J hc (hx x (by simp [hc])) ai ah ac hs λv w' e' st' h1 h2 h3=>?_
     obtain ⟨rows,q,N,rfl⟩:=h2
     exact hn v w' e' _ h1 (Stp.put (Stp.app Stp.rfl' _ _) _) h3
   ·exact hs.elim
  ·exact hs.elim
 ·exact hs.elim
variable {av:Nat->Prop} {P:Program} {w0 w w':World} {e0 e:Env} {pS pS' pB pB':List Nat} {a:Act} {st st':St}
/-- a call that writes what it is handed: where that lies (a slot with its place), and which slots are kept -/
structure MkH where
 place:Option Nat:=none
 keep:List Nat:=[]
 /-- a slot that holds the very slice -/
 same:Option Nat:=none
structure Ent where
 i:Nat
 hard:Bool:=false
 /-- slots whose rows are closed ahead of the operation -/
 cl:List Nat:=[]
 /-- slots whose snapshots the closed rows' blocks are apart from -/
 fs:List Nat:=[]
 mh:Option MkH:=none
 /-- behind the operation the row of the result is cut to the result's length -/
 tr:Bool:=false
def Br (v:Bool) (A B:Prop):Prop:=match v with
 | true=>A
 | false=>B
theorem Br.spec {v:Bool} {A B:Prop} (h:Br v A B):(v=true/\A)\/(v=false/\B):=by
 cases v
 ·exact .inr ⟨rfl,h⟩
 ·exact .inl ⟨rfl,h⟩
def zQX (ops:Array Oper) (o:Oper) (st:St) (A B:St->Prop):Prop:=
 match o.guard with
 | none=>A st
 | some (g,I)=>match ops[g]? with
   | some J=>match J.dst with
     | some d=>match st.sl[d]? with
       | some (.bool v)=>Br v (match I with
         | true=>A (st.put (some d) (.bool true))
         | false=>B (st.put (some d) (.bool true))) (match I with
         | true=>B (st.put (some d) (.bool false))
         | false=>A (st.put (some d) (.bool false)))
       | some (.tp [])=>B st
       | _=>False
     | none=>False
   | none=>False
def zT1 (ops:Array Oper) (o:Oper) (st:St):Prop:=∀ g I,o.guard=some (g,I)->∃ J d,ops[g]?=some J/\J.dst=some d/\st.sl[d]?=some (.bool I)
def zVC (ops:Array Oper) (o:Oper) (st:St):Prop:=∃ g I J d,o.guard=some (g,I)/\ops[g]?=some J/\J.dst=some d/\(st.sl[d]?=some (.bool (!I))\/st.sl[d]?=some (.tp []))
theorem zI2 {d:Nat} {p:PV} (h:st.sl[d]?=some p):st.put (some d) p=st:=
 St.put_same λd' hd I=>by cases hd;exact h
theorem zHo {ops:Array Oper} {o:Oper} {A B:St->Prop} (h:zQX ops o st A B):(zT1 ops o st/\A st)\/(zVC ops o st/\B st):=by
 unfold zQX at h
 split at h
 ·rename_i hg
  exact .inl ⟨λg I hc=>(by rw [hg] at hc;cases hc),h⟩
 ·rename_i g I hg
  split at h
  ·rename_i og J
   split at h
   ·rename_i d hd
    split at h
    ·rename_i v O
     rcases h.spec with ⟨rfl,h⟩ | ⟨rfl,h⟩
     ·rw [zI2 O] at h
      cases I
      ·exact .inr ⟨⟨g,false,og,d,hg,J,hd,.inl O⟩,h⟩
      ·exact .inl ⟨λg' aa hc=>(by rw [hg] at hc;cases hc;exact ⟨og,d,J,hd,O⟩),h⟩
     ·rw [zI2 O] at h
      cases I
      ·exact .inl ⟨λg' aa hc=>(by rw [hg] at hc;cases hc;exact ⟨og,d,J,hd,O⟩),h⟩
      ·exact .inr ⟨⟨g,true,og,d,hg,J,hd,.inl O⟩,h⟩
    ·rename_i O
     exact .inr ⟨⟨g,I,og,d,hg,J,hd,.inr O⟩,h⟩
    ·exact h.elim
   ·exact h.elim
  ·exact h.elim
theorem zKe (h:Rel av w0 e0 pS pB a w e st) {ops:Array Oper} {o:Oper} (hw:zT1 ops o st) (hl:∀ t∈o.looksAt ops,t∉pS):Region.wanted o (yielded ops a.tmps)=true:=by
 unfold Region.wanted
 cases hg:o.guard with
 | none=>rfl
 | some gw=>
   obtain ⟨g,I⟩:=gw
   obtain ⟨og,d,h1,h2,h3⟩:=hw g I hg
   have aa:d∉pS:=hl d (by simp [Oper.looksAt,hg,h1,h2])
   have hv:=(h.hs d _ h3 aa).resolve_left (by simp)
   have J:d<a.tmps.size:=o5 (oD.1 h3).1 h.sz
   have O:a.tmps[d]?=some (.bool I):=by
    rw [nF,oi J] at hv
    rw [oi J]
    simp only [o7] at hv
    rw [hv];rfl
   simp [yielded,h1,h2,O]
theorem zLO (h:Rel av w0 e0 pS pB a w e st) {ops:Array Oper} {o:Oper} (hw:zVC ops o st) (hl:∀ t∈o.looksAt ops,t∉pS):Region.wanted o (yielded ops a.tmps)=false:=by
 obtain ⟨g,aa,og,d,hg,h1,h2,h3⟩:=hw
 have ab:d∉pS:=hl d (by simp [Oper.looksAt,hg,h1,h2])
 unfold Region.wanted
 rw [hg]
 rcases h3 with h3 | h3
 ·have O:=(h.hs d _ h3 ab).resolve_left (by simp)
  have J:d<a.tmps.size:=o5 (oD.1 h3).1 h.sz
  have I:a.tmps[d]?=some (.bool (!aa)):=by
   rw [nF,oi J] at O
   rw [oi J]
   simp only [o7] at O
   rw [O];rfl
  simp [yielded,h1,h2,I]
 ·have O:=(h.hs d _ h3 ab).resolve_left (by simp)
  have J:d<a.tmps.size:=o5 (oD.1 h3).1 h.sz
  have I:∃ l',a.tmps[d]?=some (.tuple l'):=by
   rw [nF,oi J] at O
   rw [oi J]
   simp only [o7] at O
   rw [O];exact ⟨_,rfl⟩
  obtain ⟨l',I⟩:=I
  simp [yielded,h1,h2,I]
theorem ph (h:Rel av w0 e0 pS pB a w e st) (hp:∀ k,k∈pB'↔k∈pB) (hs:∀ i,i∈pS->i∈pS'):Rel av w0 e0 pS' pB' a w e st:=by
 have hn:∀ k,k∉pB'↔k∉pB:=λk=>not_congr (hp k)
 have hL:∀ k b,Lives pB' e st.bx k b↔Lives pB e st.bx k b:=λk b=>by unfold Lives;rw [hn]
 have ab:zW av pB' e st.bx=zW av pB e st.bx:=by
  funext b
  unfold zW
  exact propext (or_congr mw (exists_congr λk=>hL k b))
 have aa:∀ i,i∉pS'->i∉pS:=λi hi hc=>hi (hs i hc)
 exact {
  el:=h.el
  br:=λk B I J=>h.br k B I ((hn k).1 J)
  bo:=λk B I J=>by rw [ab];exact h.bo k B I ((hn k).1 J)
  bf:=λk B I J j hj=>by have:=h.bf k B I ((hn k).1 J) j hj;exact ⟨(hn j).2 this.1,this.2⟩
  inj:=λk j b h1 h2=>h.inj k j b ((hL k b).1 h1) ((hL j b).1 h2)
  ku:=h.ku
  size:=h.size
  old:=h.old
  fz:=h.fz
  nd:=h.nd
  sz:=h.sz
  hN:=h.hN
  hs:=λi p hi O=>h.hs i p hi (aa i O)
  so:=λi p hi O=>by rw [ab];exact h.so i p hi (aa i O)
  sr:=λi p hi O k I=>by have:=h.sr i p hi (aa i O) k I;exact ⟨(hn k).2 this.1,this.2⟩
  own:=λk b I=>h.own k b ((hL k b).1 I)
  avl:=h.avl
  avn:=λk b I=>h.avn k b ((hL k b).1 I)
  pin:=λk b hb=>by have:=h.pin k b hb;exact ⟨this.1,(hn k).2 this.2⟩
  pit:=h.pit }
/-- an operation of the plain kind, at once -/
theorem zTp (h:Rel av w0 e0 pS pB a w e st) (aa:∀ k∈pB,k<st.bx.length) {o:Oper} (hx:∀ x∈o.op.operands,∀ t,x=.tmp t->t∉pS) {K:Res->Prop}
  (hs:nev P (opd st.sl) (λk=>st.bx[k]?) o.op o.type K) :
  ∃ v w' e' r,(execOp a.eval o).run P w=.ok (.value v) w'/\K r/\Rel av w0 e0 pS pB (a.put o.dst v) w' e' (st.push o.dst r):=by
 obtain ⟨r,hK,hr⟩:=zQK _ hs
 have hr:=hr (λq=>q=r) rfl
 cases r with
 | v p=>
   rcases zIG h hx hr with ⟨v,q,O,J,I⟩ | ⟨v,c,t,B,f,O,J,I⟩
   ·cases J
    exact ⟨v,w,e,.v p,O,hK,xz h I λi hi _=>hi⟩
   ·cases J
 | b B f=>
   have O:=rd h (B:=B)
   have ab:nev P (opd st.sl) (λk=>(st.bx++[B])[k]?) o.op o.type (λq=>q=.b B f):=by
    rw [zFi (ρ:=opd st.sl) (rb:=λk=>st.bx[k]?) (λ_ _=>rfl) λx ac k hk=>?_]
    ·exact hr
    ·have:=(xZ h (hx x ac)).rf k hk
     exact oN this.2
   rcases zIG O hx ab with ⟨v,q,O,J,I⟩ | ⟨v,c,t,B',f',h4,J,I⟩
   ·cases J
   ·cases J
    have h5:=zBC O (k:=st.bx.length) (B:=B) (by simp) (by simp) I
    have hlen:st.bx.length<(e++[none]).length:=by simp [h.el]
    have h6:ValOk av (w.alloc (.cells c t)) ((e++[none]).set st.bx.length (some w.heap.size)) ((st.bx.length::pB).filter (·≠st.bx.length)) (st.bx++[B]) v (f st.bx.length):=
     ⟨.inr (I.val _ _ (Env.at_set_eq hlen)),I.fok _ _ _,by rw [I.fr];simp⟩
    refine ⟨v,_,_,.b B f,h4,hK,ph (pS:=pS) (xz h5 h6 λi hi _=>hi) (λk=>?_) λ_=>id⟩
    simp only [nx,oH,ne_eq,nD]
    constructor
    ·intro hk;have:=aa k hk;exact ⟨.inr hk,by omega⟩
    ·rintro ⟨h7 | h7,h8⟩
     ·exact absurd h7 h8
     ·exact h7
/-- the operation of a hard entry -/
def zRT (P:Program) (sh:FuncId->List Sh) (o:Oper) (st:St) (K:St->Prop):Prop:=
 match zQ8 o.op with
 | true=>nev P (opd st.sl) (λk=>st.bx[k]?) o.op o.type λr=>K (st.push o.dst r)
 | false=>zVc P sh o st K
def zAz (P:Program) (sh:FuncId->List Sh) (o:Oper) (st:St):List Nat:=
 match zQ8 o.op with
 | true=>[]
 | false=>sj P sh o st
theorem zNM {dst:Option Nat} {r:Res}:Stp [] [] dst st (st.push dst r):=by
 cases r with
 | v p=>exact Stp.put Stp.rfl' p
 | b B f=>exact Stp.put (Stp.app Stp.rfl' [B] st.N) _
theorem zKc (h:Rel av w0 e0 pS pB a w e st) (J:∀ k∈pB,k<st.bx.length) {sh:FuncId->List Sh} {o:Oper} {K:St->Prop}
  (hx:∀ x∈o.op.operands,∀ t,x=.tmp t->t∉pS) (hs:zRT P sh o st K)
  {next:Act->World->Prop} {Q:Exit->Act->World->Prop}
  (O:∀ v w' e' st',K st'->Stp (zAz P sh o st) (zOz st (zAz P sh o st)) o.dst st st'->Rel av w0 e0 pS pB (a.put o.dst v) w' e' st'->next (a.put o.dst v) w'):o.wp P a w next Q:=by
 unfold zRT at hs
 unfold zAz at O
 split at hs
 ·rename_i I
  simp only [I] at O
  obtain ⟨v,w',e',r,h1,h2,h3⟩:=zTp h J hx hs
  unfold Oper.wp
  rw [h1,Oper.upon_value]
  exact O v w' e' _ h2 zNM h3
 ·rename_i I
  simp only [I] at O
  exact zR8 h J hx (λi hi _=>hi) hs O
abbrev Pend:=List (Nat × Option Nat)
def zAf (ops:Array Oper) (i:Nat):Option Nat:=(ops[i]?).bind (·.dst)
def zRo (T:List Nat) (st:St) (p:PV):Bool:=
 p.refs.all λk=>!T.contains k&&match st.bx[k]? with
  | some B=>B.refs.all λj=>!T.contains j
  | none=>true
def zOf (ops:Array Oper) (T:List Nat) (st:St) (x:Nat × Option Nat):Bool:=
 match ops[x.1]? with
 | some o=>(match x.2 with
   | some k=>!T.contains k&&(match st.bx[k]? with
     | some B=>B.refs.all λj=>!T.contains j
     | none=>true)
   | none=>true)&&(o.op.operands.toList.all λy=>zRo T st (opd st.sl y))&&(match o.dst with
   | some d=>zRo T st (st.sl.getD d .any)
   | none=>true)
 | none=>false
/-- a pending copy of a value: what a store writes does not matter to it -/
def mvP (ops:Array Oper) (x:Nat × Option Nat):Bool:=match x.2,ops[x.1]? with
 | none,some o=>match o.op with
   | .move _=>true
   | _=>false
 | _,_=>false
def zQ9 (ops:Array Oper) (T:List Nat) (st:St) (pf:Pend):Bool:=
 match T with
 | []=>true
 | T=>pf.all (zOf ops T st)
def zU8 (ops:Array Oper) (T:List Nat) (st:St) (pf:Pend):Bool:=
 match T with
 | []=>true
 | T=>pf.all λx=>zOf ops T st x||(mvP ops x&&zOf ops (zOz st T) st x)
def zRU:Res->Option Nat->Option PV
 | .v p,none=>some p
 | .b _ f,some k=>some (f k)
 | _,_=>none
def zO0 (ops:Array Oper) (P:Program) (st:St) (o:Oper) (b:Option Nat):Prop:=
 (zT1 ops o st/\(∀ y∈o.op.operands,∀ k∈(opd st.sl y).refs,k<st.bx.length)/\∃ r q,nev P (opd st.sl) (fun k=>st.bx[k]?) o.op o.type (fun q=>q=r)/\zRU r b=some q /\
  (∀ d,o.dst=some d->d<st.sl.length->st.sl[d]?=some q)/\∀ B f k,r=.b B f->b=some k->st.bx[k]?=some B) \/
 (zVC ops o st/\b=none/\∀ d,o.dst=some d->d<st.sl.length->st.sl[d]?=some (.tp []))
def zWG (ops:Array Oper) (P:Program) (st:St) (x:Nat × Option Nat):Prop:=∃ o,ops[x.1]?=some o/\zO0 ops P st o x.2
structure SafeP (T:List Nat) (st:St) (p:PV):Prop where
 r:∀ k∈T,k∉p.refs
 b:∀ k∈p.refs,k∉T/\∀ B,st.bx[k]?=some B->∀ j∈T,j∉B.refs
theorem zIE {T:List Nat} {p:PV} (h:zRo T st p=true):SafeP T st p:=by
 simp only [zRo,oT,oL,na] at h
 have O:∀ k∈p.refs,k∉T:=λk I=>by have:=(h k I).1;simpa using this
 refine ⟨λk I hc=>O k hc I,λk I=>⟨O k I,λB hB j hj J=>?_⟩⟩
 have:=(h k I).2
 rw [hB] at this
 simp only [oT,na] at this
 have:=this j J
 simp at this
 exact this hj
structure Safe1 (T:List Nat) (st:St) (o:Oper) (b:Option Nat):Prop where
 op:∀ y∈o.op.operands,SafeP T st (opd st.sl y)
 ds:∀ d,o.dst=some d->SafeP T st (st.sl.getD d .any)
 bx:∀ k,b=some k->k∉T/\∀ B,st.bx[k]?=some B->∀ j∈T,j∉B.refs
theorem zEx {o:Oper} {b:Option Nat}:Safe1 [] st o b:=⟨λ_ _=>⟨by simp,by simp⟩,λ_ _=>⟨by simp,by simp⟩,by simp⟩
theorem zAF {ops:Array Oper} {T:List Nat} {x:Nat × Option Nat} {o:Oper} (ho:ops[x.1]?=some o) (h:zOf ops T st x=true):Safe1 T st o x.2:=by
 unfold zOf at h
 rw [ho] at h
 simp only [oL] at h
 obtain ⟨⟨I,h2⟩,O⟩:=h
 refine ⟨λy hy=>zIE (oT.1 h2 y (ou.2 hy)),λd hd=>?_,λk hk=>?_⟩
 ·rw [hd] at O;exact zIE O
 ·rw [hk] at I
  simp only [oL,na] at I
  refine ⟨by have:=I.1;simpa using this,λB hB j hj J=>?_⟩
  have:=I.2
  rw [hB] at this
  simp only [oT,na] at this
  have:=this j J
  simp at this
  exact this hj
/-- apart from what is written; of a pending copy, from the rows that are written -/
def zVq (T TA:List Nat) (st:St) (o:Oper) (b:Option Nat):Prop:=Safe1 T st o b\/((∃ y,o.op=.move y)/\b=none/\Safe1 TA st o b)
theorem zHg {ops:Array Oper} {T:List Nat} {pf:Pend} (h:zQ9 ops T st pf=true) {x:Nat × Option Nat} (I:x∈pf) {o:Oper} (J:ops[x.1]?=some o):Safe1 T st o x.2:=by
 unfold zQ9 at h
 split at h
 ·exact zEx
 ·exact zAF J (oT.1 h x I)
theorem zLN {ops:Array Oper} {T:List Nat} {pf:Pend} (h:zU8 ops T st pf=true) {x:Nat × Option Nat} (hx:x∈pf) {o:Oper} (J:ops[x.1]?=some o):zVq T (zOz st T) st o x.2:=by
 unfold zU8 at h
 split at h
 ·exact .inl zEx
 ·have:=oT.1 h x hx
  rw [nk,oL] at this
  rcases this with I | ⟨I,h2⟩
  ·exact .inl (zAF J I)
  ·refine .inr ⟨?_,?_,zAF J h2⟩<;>unfold mvP at I<;>split at I
   ·rename_i o2 e1 O
    rw [J] at O;cases O
    split at I
    ·exact ⟨_,by assumption⟩
    ·cases I
   ·cases I
   ·assumption
   ·cases I
/-- a promise outlives a step that is apart from it -/
theorem ry {ops:Array Oper} {o:Oper} {b:Option Nat} {T TA:List Nat} {dst:Option Nat} (h:zO0 ops P st o b) (aa:Stp T TA dst st st') (hA:∀ k∈TA,k∈T) (hs:zVq T TA st o b) (hd:∀ d,dst=some d->d∉o.looksAt ops/\o.dst≠some d):zO0 ops P st' o b:=by
 have al:∀ y∈o.op.operands,∀ k∈TA,k∉(opd st.sl y).refs:=λy hy k J=>by
  rcases hs with hs | ⟨_,_,hs⟩
  ·exact (hs.op y hy).r k (hA k J)
  ·exact (hs.op y hy).r k J
 have am:∀ d,o.dst=some d->∀ k∈TA,k∉(st.sl.getD d .any).refs:=λd I k J=>by
  rcases hs with hs | ⟨_,_,hs⟩
  ·exact (hs.ds d I).r k (hA k J)
  ·exact (hs.ds d I).r k J
 have O:∀ t p,t∈o.looksAt ops->st.sl[t]?=some p->(∀ k∈TA,k∉p.refs)->st'.sl[t]?=some p:=λt p ht hp J=>aa.sl t p (λhc=>(hd t hc.symm).1 ht) hp J
 have ac:∀ y∈o.op.operands,opd st'.sl y=opd st.sl y:=λy hy=>by
  cases y with
  | tmp t=>
    have ab:=al _ hy
    simp only [opd] at ab ⊢
    rw [oA] at ab
    rw [oA,oA]
    cases hp:st.sl[t]? with
    | none=>
      have:st'.sl[t]?=none:=oc (by rw [aa.ll];exact nV.1 hp)
      rw [this]
    | some p=>
      rw [hp] at ab
      rw [O t p (by unfold Oper.looksAt;exact oY _ (nR.2 ⟨.tmp t,ou.2 hy,rfl⟩)) hp ab]
  | _=>rfl
 have aj:zT1 ops o st->zT1 ops o st':=λhw g ae hg=>by
  obtain ⟨og,d,h1,h2,h3⟩:=hw g ae hg
  exact ⟨og,d,h1,h2,O d _ (by simp [Oper.looksAt,hg,h1,h2]) h3 (by simp [PV.refs])⟩
 have ai:∀ d q,o.dst=some d->st.sl[d]?=some q->(∀ k∈TA,k∉q.refs)->st'.sl[d]?=some q:=λd q I hq J=>aa.sl d q (λhc=>(hd d hc.symm).2 I) hq J
 rcases h with ⟨h1,h0,r,q,h2,h3,h4,h5⟩ | ⟨⟨g,ae,og,d,g1,g2,g3,g4⟩,h2,h3⟩
 ·refine .inl ⟨aj h1,λy hy k J=>?_,r,q,?_,h3,λd I ah=>?_,λB f k hr J=>?_⟩
  ·rw [ac y hy] at J;have:=h0 y hy k J;have:=aa.bl;omega
  ·rcases hs with hs | ⟨⟨z,hz⟩,_,_⟩
   ·rw [zFi (ρ:=opd st.sl) (rb:=λk=>st.bx[k]?) ac λy hy k J=>?_]
    ·exact h2
    ·have ao:=h0 y hy k J
     have ak:=(hs.op y hy).b k J
     have hB:st.bx[k]?=some st.bx[k]:=oF ao
     show st'.bx[k]?=st.bx[k]?
     rw [aa.bx k _ hB ak.1 (ak.2 _ hB),hB]
   ·have ac:=ac z (by rw [hz];simp [Op.operands])
    rw [hz] at h2 ⊢
    simp only [nev,zBL] at h2 ⊢
    rw [ac];exact h2
  ·rw [aa.ll] at ah
   have hq:=h4 d I ah
   have ab:=am d I
   rw [oA,hq] at ab
   exact ai d q I hq ab
  ·rcases hs with hs | ⟨_,hb,_⟩
   ·have hB:=h5 B f k hr J
    have:=hs.bx k J
    exact aa.bx k B hB this.1 (this.2 B hB)
   ·rw [hb] at J;cases J
 ·refine .inr ⟨⟨g,ae,og,d,g1,g2,g3,?_⟩,h2,λd' I ah=>?_⟩
  ·have hm:d∈o.looksAt ops:=by simp [Oper.looksAt,g1,g2,g3]
   rcases g4 with g4 | g4
   ·exact .inl (O d _ hm g4 (by simp [PV.refs]))
   ·exact .inr (O d _ hm g4 (by simp [PV.refs,PV.refsL]))
  ·rw [aa.ll] at ah
   exact ai d' _ I (h3 d' I ah) (by simp [PV.refs,PV.refsL])
def zVT (ops:Array Oper) (T:List Nat) (st:St) (pf:Pend):Bool:=pf.all λx=>zOf ops T st x||mvP ops x
theorem zPA {ops:Array Oper} {o:Oper} {y:Operand} {dst:Option Nat} (ho:o.op=.move y) (h:zO0 ops P st o none) (ae:∀ (i:Nat) (p:PV),some i≠dst->st.sl[i]?=some p->st'.sl[i]?=some p) (aj:st.bx.length<=st'.bx.length) (ac:st'.sl.length=st.sl.length) (hd:∀ d,dst=some d->d∉o.looksAt ops/\o.dst≠some d):zO0 ops P st' o none:=by
 have I:∀ t p,t∈o.looksAt ops->st.sl[t]?=some p->st'.sl[t]?=some p:=λt p ht hp=>ae t p (λhc=>(hd t hc.symm).1 ht) hp
 have ab:∀ d q,o.dst=some d->st.sl[d]?=some q->st'.sl[d]?=some q:=λd q J hq=>ae d q (λhc=>(hd d hc.symm).2 J) hq
 have ah:opd st'.sl y=opd st.sl y:=by
  cases y with
  | tmp t=>
    simp only [opd]
    rw [oA,oA]
    cases hp:st.sl[t]? with
    | none=>
      have:st'.sl[t]?=none:=oc (by rw [ac];exact nV.1 hp)
      rw [this]
    | some p=>rw [I t p (by unfold Oper.looksAt;exact oY _ (nR.2 ⟨.tmp t,by simp [ho,Op.operands],rfl⟩)) hp]
  | _=>rfl
 rcases h with ⟨h1,h0,r,q,h2,h3,h4,h5⟩ | ⟨⟨g,O,og,d,g1,g2,g3,g4⟩,h2,h3⟩
 ·refine .inl ⟨λg O hg=>?_,λz hz k hk=>?_,r,q,?_,h3,λd J aa=>?_,λB f k _ hk=>by cases hk⟩
  ·obtain ⟨og,d,g1,g2,g3⟩:=h1 g O hg
   exact ⟨og,d,g1,g2,I d _ (by simp [Oper.looksAt,hg,g1,g2]) g3⟩
  ·have ai:z=y:=by rw [ho] at hz;simpa [Op.operands] using hz
   subst ai
   rw [ah] at hk
   have:=h0 z (by rw [ho];simp [Op.operands]) k hk
   omega
  ·rw [ho] at h2 ⊢
   simp only [nev,zBL] at h2 ⊢
   rw [ah];exact h2
  ·rw [ac] at aa
   exact ab d q J (h4 d J aa)
 ·refine .inr ⟨⟨g,O,og,d,g1,g2,g3,?_⟩,h2,λd' J aa=>?_⟩
  ·have hm:d∈o.looksAt ops:=by simp [Oper.looksAt,g1,g2,g3]
   rcases g4 with g4 | g4
   ·exact .inl (I d _ hm g4)
   ·exact .inr (I d _ hm g4)
  ·rw [ac] at aa
   exact ab d' _ J (h3 d' J aa)
/-- a store among pending copies -/
def zQM (P:Program) (sh:FuncId->List Sh) (ops:Array Oper) (pf:Pend) (o:Oper) (st:St) (K:St->Prop):Prop:=
 match o.op with
 | .store t x y=>match zVT ops (sj P sh o st) st pf with
   | true=>stF P (opd st.sl) (λk=>st.bx[k]?) t x y λk B=>K (St.put { st with bx:=st.bx.set k B } o.dst (.tp []))
   | false=>False
 | _=>False
theorem zMS (h:Rel av w0 e0 pS pB a w e st) {sh:FuncId->List Sh} {ops:Array Oper} {pf:Pend} {o:Oper} {K:St->Prop}
  (hx:∀ x∈o.op.operands,∀ t,x=.tmp t->t∉pS) (hs:zQM P sh ops pf o st K)
  {next:Act->World->Prop} {Q:Exit->Act->World->Prop}
  (hn:∀ v w' e' st',K st'->st.bx.length<=st'.bx.length->(∀ x∈pf,∀ ox,ops[x.1]?=some ox->zO0 ops P st ox x.2->(∀ d,o.dst=some d->d∉ox.looksAt ops/\ox.dst≠some d)->zO0 ops P st' ox x.2) ->
   Rel av w0 e0 pS pB (a.put o.dst v) w' e' st'->next (a.put o.dst v) w'):o.wp P a w next Q:=by
 unfold zQM at hs
 split at hs
 rotate_left
 ·exact hs.elim
 rename_i t x y hop
 split at hs
 rotate_left
 ·exact hs.elim
 rename_i hsf
 rw [hop] at hx
 simp only [Op.operands] at hx
 obtain ⟨w',k,B',h1,⟨⟨z,i,oo,hk⟩,h2⟩,h3⟩:=zJ2 h (hx x (by simp)) (hx y (by simp)) (zLi hs)
 have hrun:(execOp a.eval o).run P w=.ok .skip w':=by
  obtain ⟨dst,op,ty,pos,after,guard⟩:=o
  simp only at hop
  subst hop
  simp [execOp,h1]
 unfold Oper.wp
 rw [hrun,Oper.upon_skip]
 have hst:Stp (sj P sh o st) (zOz st (sj P sh o st)) o.dst st (St.put { st with bx:=st.bx.set k B' } o.dst (.tp [])):=by
  have htc:sj P sh o st=[k]:=by simp only [sj,hop,hk]
  rw [htc]
  exact Stp.put (Stp.set Stp.rfl' (by simp) _) _
 refine hn undef w' e _ h2 hst.bl (fun x hx ox hox hkp hd=>?_) (xz h3 ⟨.inr rfl,by simp [PV.Ok,PV.OkL],by simp [PV.refs,PV.refsL]⟩ fun _ hi _=>hi)
 have hx2:=oT.1 hsf x hx
 rw [nk] at hx2
 rcases hx2 with hx2 | hx2
 ·exact ry hkp hst zJq (.inl (zAF hox hx2)) hd
 ·unfold mvP at hx2
  split at hx2
  ·rename_i o2 e1 e2
   rw [hox] at e2
   cases e2
   split at hx2
   ·rename_i z hz
    rw [e1] at hkp ⊢
    refine zPA hz hkp (fun i p hi hp=>?_) hst.bl hst.ll hd
    have hs0:Stp [] [] o.dst st (St.put st o.dst (.tp [])):=Stp.put Stp.rfl' _
    have:=hs0.sl i p hi hp (by simp)
    cases hdd:o.dst with
    | none=>exact hp
    | some d=>rw [hdd] at this;exact this
   ·cases hx2
  ·cases hx2
end Go.Proofs.YtlahkdflngobiaaGreatDoor
