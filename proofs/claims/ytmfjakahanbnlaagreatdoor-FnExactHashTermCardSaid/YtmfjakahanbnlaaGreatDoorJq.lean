/- A row is closed: it becomes a snapshot. -/
import Derived.Test.YtmfjakahanbnlaaGreatDoorJe
set_option linter.unusedVariables false
set_option linter.unusedSimpArgs false
namespace Go.Proofs.YtmfjakahanbnlaaGreatDoor
open Go
variable {av:Nat->Prop} {P:Program} {w0 w w':World} {e0 e:Env} {pS pS' pB:List Nat} {a:Act} {st st':St}
def zFG (k:Nat) (s:PV) (z:Nat) (p:PV):PV:=
 match p with
 | .sb k' z' lo n c=>if k'=k then (if z'=z/\lo=0 then s else .any) else p
 | _=>p.kill k
def zHJ (k z len c:Nat) (p:PV) (K:Prop):Prop:=
 match p with
 | .sb k' z' lo n c'=>if k'=k/\z'=z/\lo=0 then (n=len/\c'=c)/\K else K
 | _=>K
def zF0 (k z len c:Nat):List PV->Prop->Prop
 | [],K=>K
 | p::ps,K=>zHJ k z len c p (zF0 k z len c ps K)
def clo (k:Nat) (s:PV) (z:Nat) (p:PV):PV:=
 match p with
 | .pg cs=>if (PV.refsL cs).contains k then (if (cs.map (zFG k s z)).all PV.notAny=true then .pg (cs.map (zFG k s z)) else .any) else .pg cs
 | p=>zFG k s z p
def zFe (k z len c:Nat):List PV->Prop->Prop
 | [],K=>K
 | p::ps,K=>match p with
   | .pg cs=>zF0 k z len c cs (zFe k z len c ps K)
   | p=>zHJ k z len c p (zFe k z len c ps K)
def Bx.clo (k:Nat) (s:PV) (z:Nat):Bx->Bx
 | .var cs=>.var (cs.map (zFG k s z))
 | B=>B
def zFa (k z len c:Nat):List Bx->Prop->Prop
 | [],K=>K
 | B::bs,K=>match B with
   | .var cs=>zF0 k z len c cs (zFa k z len c bs K)
   | _=>zFa k z len c bs K
def PV.ds1:PV->List D
 | .sv a z es c=>[.sl a z es c]
 | .d x=>[x]
 | .dc x=>[x]
 | .dg _ x=>[x]
 | _=>[]
def PV.ds:PV->List D
 | .pg cs=>cs.flatMap PV.ds1
 | p=>p.ds1
def Bx.ds:Bx->List D
 | .var cs=>cs.flatMap PV.ds1
 | .vd x _=>[x]
 | .arr _ _ es _=>[.ag es]
 | .gone=>[]
/-- the closed row's block is its own -/
structure Fresh (N0 N:Nat) (a:Option Addr) (ds:List D):Prop where
 lo:∀ ad,a=some ad->N0<=ad.block
 hi:∀ ad,a=some ad->ad.block<N
 off:∀ ad,a=some ad->ad.off=0
 ap:∀ ad,a=some ad->∀ d∈ds,ad.block∉d.foot
def St.clo (st:St) (k:Nat) (s:PV) (z:Nat) (N:Nat):St:={ st with sl:=st.sl.map (Proofs.YtmfjakahanbnlaaGreatDoor.clo k s z),bx:=(st.bx.map (Bx.clo k s z)).set k .gone,N:=N }
/-- close box k; say that its block is none of those of the slots and boxes named -/
def zGY (N0:Option Nat) (st:St) (k:Nat) (fs fb:List Nat) (K:St->Prop):Prop:=
 match N0,st.bx[k]?,Nat.ble st.pins.length k with
 | some N0,some (.arr _ z es c),true=>zFe k z es.length c st.sl (zFa k z es.length c st.bx (∀ a N,st.N<=N ->
  Fresh N0 N a (.ag es::(fs.flatMap fun i=>(st.sl.getD i .any).ds)++fb.flatMap fun j=>if j=k then [] else (st.bx.getD j .gone).ds)->K (st.clo k (.sv a z es c) z N)))
 | _,_,_=>False
def NOk (N0:Option Nat) (w0:World):Prop:=∀ n,N0=some n->n=w0.heap.size
def zED (k z len c:Nat) (p:PV):Prop:=∀ n c',p=.sb k z 0 n c'->n=len/\c'=c
theorem zAn {k z len c:Nat} {p:PV} {K:Prop} (h:zHJ k z len c p K):zED k z len c p/\K:=by
 cases p<;>simp only [zHJ] at h<;>try exact ⟨fun _ _ h=>(by cases h),h⟩
 split at h
 ·rename_i hc
  exact ⟨fun n c' he=>by cases he;exact h.1,h.2⟩
 ·rename_i hc
  exact ⟨fun n c' he=>by cases he;exact absurd ⟨rfl,rfl,rfl⟩ hc,h⟩
theorem rH {k z len c:Nat}:∀ {ps:List PV} {K:Prop},zF0 k z len c ps K->(∀ p∈ps,zED k z len c p)/\K
 | [],K,h=>⟨by simp,h⟩
 | p::ps,K,h=>by
   simp only [zF0] at h
   obtain ⟨h1,h2⟩:=zAn h
   obtain ⟨h3,h4⟩:=rH h2
   exact ⟨fun q hq=>by rcases oI.1 hq with rfl | hq;exact h1;exact h3 q hq,h4⟩
def zKD (k z len c:Nat) (p:PV):Prop:=zED k z len c p/\∀ cs,p=.pg cs->∀ q∈cs,zED k z len c q
theorem sW {k z len c:Nat}:∀ {ps:List PV} {K:Prop},zFe k z len c ps K->(∀ p∈ps,zKD k z len c p)/\K
 | [],K,h=>⟨by simp,h⟩
 | p :: ps,K,h=>by
   have go:zHJ k z len c p (zFe k z len c ps K)->(∀ cs,p≠.pg cs)->(∀ q∈p::ps,zKD k z len c q)/\K:=fun h hp=>by
    obtain ⟨h1,h2⟩:=zAn h
    obtain ⟨h3,h4⟩:=sW h2
    exact ⟨fun q hq=>by
     rcases oI.1 hq with rfl | hq
     ·exact ⟨h1,fun cs hc=>absurd hc (hp cs)⟩
     ·exact h3 q hq,h4⟩
   cases p
   case pg cs=>
    simp only [zFe] at h
    obtain ⟨h1,h2⟩:=rH h
    obtain ⟨h3,h4⟩:=sW h2
    exact ⟨fun q hq=>by
     rcases oI.1 hq with rfl | hq
     ·exact ⟨fun _ _ h=>(by cases h),fun cs' hc=>by cases hc;exact h1⟩
     ·exact h3 q hq,h4⟩
   all_goals exact go h (fun _ h=>by cases h)
theorem rD {k z len c:Nat}:∀ {bs:List Bx} {K:Prop},zFa k z len c bs K->(∀ cs,Bx.var cs∈bs->∀ q∈cs,zED k z len c q)/\K
 | [],K,h=>⟨by simp,h⟩
 | B :: bs,K,h=>by
   cases B
   case var cs=>
    simp only [zFa] at h
    obtain ⟨h1,h2⟩:=rH h
    obtain ⟨h3,h4⟩:=rD h2
    exact ⟨fun cs' hq=>by
     rcases oI.1 hq with hq | hq
     ·cases hq;exact h1
     ·exact h3 cs' hq,h4⟩
   all_goals
    simp only [zFa] at h
    obtain ⟨h3,h4⟩:=rD h
    exact ⟨fun cs' hq=>by
     rcases oI.1 hq with hq | hq
     ·cases hq
     ·exact h3 cs' hq,h4⟩
/-- a part of the state, closed: it reads as before -/
structure Clo (k:Nat) (w:World) (e:Env) (live:Nat->Prop) (p q:PV):Prop where
 v:q=.any\/p.val e=q.val e
 v1:q=.any\/p.cv e=q.cv e
 ok:p.Ok w live->q.Ok w live
 rf:∀ j∈q.refs,j∈p.refs/\j≠k
 c:p.isC->q=.any\/q.isC
theorem zHt {k:Nat} {live:Nat->Prop} {p:PV}:Clo k w e live p (p.kill k):=by
 rcases PV.kill_cases k p with h | ⟨h,hk⟩
 ·rw [h];exact ⟨.inl rfl,.inl rfl,fun _=>trivial,by simp [PV.refs],fun _=>.inl rfl⟩
 ·rw [h];exact ⟨.inr rfl,.inr rfl,id,fun j hj=>⟨hj,fun hc=>hk (hc ▸ hj)⟩,fun h=>.inr h⟩
theorem pm {k z c:Nat} {es:List D} {live:Nat->Prop} (hg:Good w live (.sl ((e.at k).map fun b=>⟨b,0,none⟩) z es c)) {p:PV} (hc:zED k z es.length c p) :
  Clo k w e live p (zFG k (.sv ((e.at k).map fun b=>⟨b,0,none⟩) z es c) z p):=by
 cases p
 case sb k' z' lo n c'=>
  simp only [zFG]
  split
  ·rename_i hk
   subst hk
   split
   ·rename_i hz
    obtain ⟨rfl,rfl⟩:=hz
    obtain ⟨rfl,rfl⟩:=hc n c' rfl
    have hv:(PV.sb k' z' 0 es.length c').cv e=(PV.sv ((e.at k').map fun b=>⟨b,0,none⟩) z' es c').cv e:=by
     cases hat:e.at k'<;>simp [PV.cv,hat]
    exact ⟨.inr hv,.inr hv,fun _=>hg,by simp [PV.refs],fun _=>.inr trivial⟩
   ·exact ⟨.inl rfl,.inl rfl,fun _=>trivial,by simp [PV.refs],fun _=>.inl rfl⟩
  ·rename_i hk
   exact ⟨.inr rfl,.inr rfl,id,fun j hj=>⟨hj,fun hc=>by simp [PV.refs] at hj;exact hk (hj ▸ hc)⟩,fun h=>.inr h⟩
 all_goals exact zHt
theorem zCB {k z c:Nat} {es:List D} {live:Nat->Prop} (hg:Good w live (.sl ((e.at k).map fun b=>⟨b,0,none⟩) z es c)) {p:PV} (hc:zKD k z es.length c p) (hok:p.Ok w live) :
  (clo k (.sv ((e.at k).map fun b=>⟨b,0,none⟩) z es c) z p=.any\/p.val e=(clo k (.sv ((e.at k).map fun b=>⟨b,0,none⟩) z es c) z p).val e) /\
  (clo k (.sv ((e.at k).map fun b=>⟨b,0,none⟩) z es c) z p).Ok w live/\∀ j∈(clo k (.sv ((e.at k).map fun b=>⟨b,0,none⟩) z es c) z p).refs,j∈p.refs/\j≠k:=by
 generalize hs:PV.sv ((e.at k).map fun b=>⟨b,0,none⟩) z es c=s
 cases p
 case pg cs=>
  simp only [clo]
  split
  ·split
   ·rename_i hall
    have hcl:∀ q∈cs,Clo k w e live q (zFG k s z q):=fun q hq=>by rw [<-hs];exact pm hg (hc.2 cs rfl q hq)
    have hna:∀ q∈cs,zFG k s z q≠.any:=fun q hq he=>by
     have:=oS.1 hall (zFG k s z q) (oQ.2 ⟨q,hq,rfl⟩)
     rw [he] at this
     simp [PV.notAny] at this
    simp only [PV.Ok,PV.OkL_iff] at hok
    refine ⟨.inr ?_,?_,?_⟩
    ·simp only [PV.val,PV.val1,PV.cvs_eq,nc]
     congr 2
     exact oe fun q hq=>(hcl q hq).v1.resolve_left (hna q hq)
    ·simp only [PV.Ok,PV.OkL_iff]
     refine ⟨fun q hq=>?_,fun q hq=>?_⟩
     ·obtain ⟨r,hr,rfl⟩:=oQ.1 hq
      exact (hcl r hr).ok (hok.1 r hr)
     ·obtain ⟨r,hr,rfl⟩:=oQ.1 hq
      exact ((hcl r hr).c (hok.2 r hr)).resolve_left (hna r hr)
    ·intro j hj
     simp only [PV.refs] at hj ⊢
     obtain ⟨q,hq,hjq⟩:=PV.refsL_mem.1 hj
     obtain ⟨r,hr,rfl⟩:=oQ.1 hq
     have:=(hcl r hr).rf j hjq
     exact ⟨PV.refsL_mem.2 ⟨r,hr,this.1⟩,this.2⟩
   ·exact ⟨.inl rfl,trivial,by simp [PV.refs]⟩
  ·rename_i hk
   refine ⟨.inr rfl,hok,fun j hj=>⟨hj,fun hjk=>hk ?_⟩⟩
   simp only [PV.refs] at hj
   simpa using hjk ▸ hj
 all_goals
  have:=pm hg hc.1
  rw [hs] at this
  exact ⟨this.v,this.ok hok,this.rf⟩
theorem zGp (h:Rel av w0 e0 pS pB a w e st) {k z c:Nat} {t:TypeId} {es:List D} (hk:st.bx[k]?=some (.arr t z es c)) (hkp:k∉pB)
  (hS:∀ p∈st.sl,zKD k z es.length c p) (hB:∀ cs,Bx.var cs∈st.bx->∀ q∈cs,zED k z es.length c q) :
  Rel av w0 e0 pS pB a w e (st.clo k (.sv ((e.at k).map fun b=>⟨b,0,none⟩) z es c) z w.heap.size):=by
 have hklt:k<st.bx.length:=(oB.1 hk).1
 generalize hs:PV.sv ((e.at k).map fun b=>(⟨b,0,none⟩:Addr)) z es c=s
 have hget:∀ (j:Nat) (B':Bx),((st.bx.map (Bx.clo k s z)).set k .gone)[j]?=some B'->(j=k/\B'=.gone)\/(j≠k/\∃ B,st.bx[j]?=some B/\B'=B.clo k s z):=fun j B' hj=>by
  rw [nI] at hj
  split at hj
  ·rename_i hh
   subst hh
   split at hj
   ·simp at hj;exact .inl ⟨rfl,hj.symm⟩
   ·cases hj
  ·rename_i hh
   rw [oE] at hj
   cases hB:st.bx[j]? with
   | none=>simp [hB] at hj
   | some B=>simp [hB] at hj;exact .inr ⟨fun hc=>hh hc.symm,B,rfl,hj.symm⟩
 have hlives:∀ j b,Lives pB e ((st.bx.map (Bx.clo k s z)).set k .gone) j b->j≠k/\Lives pB e st.bx j b:=fun j b ⟨h1,h2,B',h3,h4⟩=>by
  rcases hget j B' h3 with ⟨_,rfl⟩ | ⟨hj,B,h5,rfl⟩
  ·exact absurd rfl h4
  ·refine ⟨hj,h1,h2,B,h5,fun hg=>h4 ?_⟩
   subst hg;rfl
 have hlive:∀ b,zJ av pB e ((st.bx.map (Bx.clo k s z)).set k .gone) b->zJ av pB e st.bx b:=fun b hb=>hb.imp id fun ⟨j,hj⟩=>⟨j,(hlives j b hj).2⟩
 have hmono:∀ p:PV,p.Ok w (zJ av pB e st.bx)->p.Ok w (zJ av pB e ((st.bx.map (Bx.clo k s z)).set k .gone)):=fun p=>PV.Ok.mono (fun _ _ _=>rfl) (oF _) (fun b _=>hlive b) p
 -- the snapshot
 have hg:Good w (zJ av pB e ((st.bx.map (Bx.clo k s z)).set k .gone)) (.sl ((e.at k).map fun b=>⟨b,0,none⟩) z es c):=by
  have hr:=h.br k _ hk hkp
  have ho:=h.bo k _ hk hkp
  have hoe:∀ x∈es,Good w (zJ av pB e ((st.bx.map (Bx.clo k s z)).set k .gone)) x:=fun x hx=>(ho x hx).mono (fun _ _ _=>rfl) fun b _=>hlive b
  rcases hr with ⟨g1,g2,g3⟩ | ⟨b,cc,g1,g2,g3,g4,g5,g6,g7⟩
  ·subst g2;subst g3
   rw [g1]
   exact ⟨.nil,by simp [D.foot,zM]⟩
  ·rw [g1]
   refine ⟨.sl (fun _=>rfl) g4 g6 (fun x hx=>(hoe x hx).1) (.inr ⟨cc,t,(0,0),g2,fun i u hu=>by simpa using g7 i u hu⟩),fun j hj hlj=>?_⟩
   simp only [oT,D.foot] at hj
   split at hj
   ·simp at hj
   ·rcases oI.1 hj with rfl | hj
    ·have hbl:Lives pB e st.bx k j:=⟨hkp,g1,_,hk,by simp⟩
     rcases hlj with hlj | ⟨i,hi⟩
     ·exact h.avn k j hbl hlj
     ·obtain ⟨h1,h2⟩:=hlives i _ hi
      exact h1 (h.inj i k _ h2 hbl)
    ·obtain ⟨x,hx,hjx⟩:=zD.1 hj
     exact (hoe x hx).2 j hjx hlj
 have hslot:∀ (i:Nat) (q:PV),(st.sl.map (clo k s z))[i]?=some q->∃ p,st.sl[i]?=some p/\q=clo k s z p/\zKD k z es.length c p:=fun i q hi=>by
  rw [oE] at hi
  cases hp:st.sl[i]? with
  | none=>simp [hp] at hi
  | some p=>simp [hp] at hi;exact ⟨p,rfl,hi.symm,hS p (oC hp)⟩
 have hcell:∀ (j:Nat) (cs:List PV),st.bx[j]?=some (.var cs)->∀ q∈cs,Clo k w e (zJ av pB e ((st.bx.map (Bx.clo k s z)).set k .gone)) q (zFG k s z q):=fun j cs hj q hq=>by
  rw [<-hs];rw [<-hs] at hg;exact pm hg (hB cs (oC hj) q hq)
 exact {
  el:=by simp [St.clo,h.el]
  br := fun j B' hj hn=>by
   rcases hget j B' hj with ⟨_,rfl⟩ | ⟨hjk,B,h5,rfl⟩
   ·exact True.intro
   ·have h6:=h.br j B h5 hn
    cases B with
    | var cs=>
      obtain ⟨b,cc,tt,h1,h2,h3,h4⟩:=h6
      refine ⟨b,cc,tt,h1,h2,by simpa using h3,fun i p hp=>?_⟩
      rw [oE] at hp
      cases hci:cs[i]? with
      | none=>simp [hci] at hp
      | some q=>
        simp [hci] at hp
        subst hp
        rcases h4 i q hci with h7 | h7
        ·subst h7;exact .inl rfl
        ·rcases (hcell j cs h5 q (oC hci)).v1 with h8 | h8
         ·exact .inl h8
         ·exact .inr (by rw [<-h8];exact h7)
    | _=>exact h6
  bo:=fun j B' hj hn=>by
   rcases hget j B' hj with ⟨_,rfl⟩ | ⟨hjk,B,h5,rfl⟩
   ·exact True.intro
   ·have h6:=(h.bo j B h5 hn).mono (w':=w) (live':=zJ av pB e ((st.bx.map (Bx.clo k s z)).set k .gone)) (fun _ _ _=>rfl) (oF _) (fun b _=>hlive b)
    cases B with
    | var cs=>
      obtain ⟨h7,h8⟩:=h6
      rw [PV.OkL_iff] at h7
      refine ⟨PV.OkL_iff.2 fun p hp=>?_,fun p hp=>?_⟩
      ·obtain ⟨q,hq,rfl⟩:=oQ.1 hp
       exact (hcell j cs h5 q hq).ok (h7 q hq)
      ·obtain ⟨q,hq,rfl⟩:=oQ.1 hp
       rcases h8 q hq with h9 | h9
       ·subst h9;exact .inl rfl
       ·exact (hcell j cs h5 q hq).c h9
    | _=>exact h6
  bf:=fun j B' hj hn i hi=>by
   simp only [St.clo,mW,nM]
   rcases hget j B' hj with ⟨_,rfl⟩ | ⟨hjk,B,h5,rfl⟩
   ·simp [Bx.refs] at hi
   ·cases B with
    | var cs=>
      simp only [Bx.clo,Bx.refs] at hi
      obtain ⟨p,hp,hip⟩:=PV.refsL_mem.1 hi
      obtain ⟨q,hq,rfl⟩:=oQ.1 hp
      exact h.bf j _ h5 hn i (by simp only [Bx.refs];exact PV.refsL_mem.2 ⟨q,hq,((hcell j cs h5 q hq).rf i hip).1⟩)
    | _=>exact h.bf j _ h5 hn i hi
  inj:=fun i j b hi hj=>h.inj i j b (hlives i b hi).2 (hlives j b hj).2
  ku:=h.ku
  size:=h.size
  old:=h.old
  fz:=h.fz
  nd:=h.nd
  sz:=by simp [St.clo];exact h.sz
  hN:=oF _
  hs:=fun i q hi hn=>by
   obtain ⟨p,h1,rfl,h3⟩:=hslot i q hi
   have h4:=hmono p (h.so i p h1 hn)
   rw [<-hs] at hg h4
   have h5:=zCB hg h3 h4
   rw [hs] at h5
   rcases h5.1 with h6 | h6
   ·exact .inl h6
   ·rcases h.hs i p h1 hn with h7 | h7
    ·subst h7;left;simp [clo,zFG,PV.kill,PV.refs]
    ·exact .inr (h7.trans h6)
  so:=fun i q hi hn=>by
   obtain ⟨p,h1,rfl,h3⟩:=hslot i q hi
   have h4:=hmono p (h.so i p h1 hn)
   rw [<-hs] at hg h4
   have h5:=zCB hg h3 h4
   rw [hs] at h5
   exact h5.2.1
  sr:=fun i q hi hn j hj=>by
   obtain ⟨p,h1,rfl,h3⟩:=hslot i q hi
   have h4:=hmono p (h.so i p h1 hn)
   rw [<-hs] at hg h4
   have h5:=zCB hg h3 h4
   rw [hs] at h5
   have:=h.sr i p h1 hn j (h5.2.2 j hj).1
   exact ⟨this.1,by simp [St.clo];exact this.2⟩
  own:=fun j b hj=>h.own j b (hlives j b hj).2
  avl:=h.avl
  avn:=fun j b hj=>h.avn j b (hlives j b hj).2
  pin:=h.pin
  pit:=h.pit }
theorem zBE {live:Nat->Prop} {p:PV} (h:p.Ok w live):∀ d∈p.ds1,Good w live d:=by
 cases p<;>simp [PV.ds1]<;>simp only [PV.Ok] at h
 ·exact h
 ·exact h
 ·exact h.1
 ·exact h.1
theorem zJs {live:Nat->Prop} {p:PV} (h:p.Ok w live):∀ d∈p.ds,Good w live d:=by
 cases p
 case pg cs=>
  simp only [PV.Ok,PV.OkL_iff] at h
  intro d hd
  simp only [PV.ds] at hd
  obtain ⟨q,hq,hd⟩:=nX.1 hd
  exact zBE (h.1 q hq) d hd
 all_goals exact zBE h
theorem zIE {live:Nat->Prop} {B:Bx} (h:B.Ok w live):∀ d∈B.ds,Good w live d:=by
 cases B with
 | var cs=>
   have h1:=h.1
   rw [PV.OkL_iff] at h1
   intro d hd
   simp only [Bx.ds] at hd
   obtain ⟨q,hq,hd⟩:=nX.1 hd
   exact zBE (h1 q hq) d hd
 | vd x n=>simp only [Bx.ds];intro d hd;simp at hd;subst hd;exact h
 | arr t z es c=>simp only [Bx.ds];intro d hd;simp at hd;subst hd;exact Good.ag h
 | gone=>simp [Bx.ds]
/-- closing: none of the slots and boxes named may be pending -/
theorem zCa (h:Rel av w0 e0 pS pB a w e st) {N0:Option Nat} (hN0:NOk N0 w0) {k:Nat} (hkp:k∉pB) {fs fb:List Nat} (hfs:∀ i∈fs,i∉pS) (hfb:∀ i∈fb,i∉pB) {K:St->Prop} (hs:zGY N0 st k fs fb K) :
  ∃ s z N,K (st.clo k s z N)/\Rel av w0 e0 pS pB a w e (st.clo k s z N)/\s.refs=[]:=by
 unfold zGY at hs
 split at hs
 rotate_left
 ·exact hs.elim
 rename_i n0 t z es c hk hpl
 have hpl:=mC hpl
 obtain rfl:=hN0 _ rfl
 obtain ⟨h1,hs⟩:=sW hs
 obtain ⟨h2,hs⟩:=rD hs
 refine ⟨_,_,_,hs ((e.at k).map fun b=>⟨b,0,none⟩) w.heap.size h.hN ?_,zGp h hk hkp h1 h2,rfl⟩
 have hfr:∀ ad,((e.at k).map fun b=>(⟨b,0,none⟩:Addr))=some ad->ad.off=0/\Lives pB e st.bx k ad.block:=fun ad had=>by
  cases hat:e.at k with
  | none=>simp [hat] at had
  | some b=>simp [hat] at had;subst had;exact ⟨rfl,hkp,hat,_,hk,by simp⟩
 have hgood:∀ b,Lives pB e st.bx k b->∀ d,Good w (zJ av pB e st.bx) d->b∉d.foot:=fun b hl d hd hc=>hd.2 b hc (.inr ⟨k,hl⟩)
 refine ⟨fun ad had=>?_,fun ad had=>Lives.lt h.toMem (hfr ad had).2,fun ad had=>(hfr ad had).1,fun ad had d hd=>?_⟩
 ·rcases h.own k _ (hfr ad had).2 with h3 | h3
  ·exact h3
  ·omega
 ·have hgood:=hgood _ (hfr ad had).2
  simp only [nY] at hd
  rcases oI.1 hd with rfl | hd
  ·exact hgood _ (Good.ag (h.bo k _ hk hkp))
  ·rcases oO.1 hd with hd | hd
   ·obtain ⟨i,hi,hd⟩:=nX.1 hd
    cases hp:st.sl[i]? with
    | none=>rw [oA,hp] at hd;simp [PV.ds,PV.ds1] at hd
    | some p=>
      rw [oA,hp] at hd
      exact hgood d (zJs (h.so i p hp (hfs i hi)) d hd)
   ·obtain ⟨j,hj,hd⟩:=nX.1 hd
    split at hd
    ·simp at hd
    ·cases hB:st.bx[j]? with
     | none=>rw [oA,hB] at hd;simp [Bx.ds] at hd
     | some B=>
       rw [oA,hB] at hd
       exact hgood d (zIE (h.bo j B hB (hfb j hj)) d hd)
variable {av:Nat->Prop} {P:Program} {w0 w w':World} {e0 e:Env} {pS pS' pB:List Nat} {a:Act} {st st':St}
def zT (P:Program):List TypeId->List PV->List PV
 | t::ts,p::ps=>retag P t p::zT P ts ps
 | _,ps=>ps
def zJ7 (P:Program) (p:PV):List TypeId:=
 match p with
 | .fn f _=>match P.funcs[f]? with
   | some fn=>fn.params.toList
   | none=>[]
 | _=>[]
theorem yi:∀ (ts:List TypeId) (ps:List PV),(zT P ts ps).length=ps.length
 | [],ps=>rfl
 | t::ts,[]=>rfl
 | t::ts,p::ps=>by simp [zT,yi ts ps]
theorem vI:∀ (ts:List TypeId) (ps:List PV) (i:Nat) (q:PV),(zT P ts ps)[i]?=some q->∃ p,ps[i]?=some p/\(q=p\/∃ t,q=retag P t p)
 | [],ps,i,q,h=>⟨q,h,.inl rfl⟩
 | t::ts,[],i,q,h=>by simp [zT] at h
 | t::ts,p::ps,i,q,h=>by
   cases i with
   | zero=>simp [zT] at h;exact ⟨p,rfl,.inr ⟨t,h.symm⟩⟩
   | succ i=>simp [zT] at h;simpa using vI ts ps i q h
/-- the results of a call that may write the caller's boxes, as the table marks them -/
def zLk:List Sh->Option (List Sh)
 | .row _ z::l=>match Nat.beq z 1000007 with
   | true=>some l
   | false=>none
 | _=>none
/-- a call: lent, or handed on to be written -/
def zJ9 (P:Program) (sh:FuncId->List Sh) (st:St) (dst:Option Nat) (x:Operand) (args:List PV) (K:St->Prop):Prop:=
 match zJA (opd st.sl x) with
 | some (f,_)=>match zLk (sh f) with
   | some rs=>zKl P rs st dst x args K
   | none=>zJp P sh st dst x args K
 | none=>False
def zJU (sh:FuncId->List Sh) (st:St) (x:Operand) (args:List PV):List Nat:=
 match zJA (opd st.sl x) with
 | some (f,caps)=>match zLk (sh f) with
   | some _=>sB st.bx 200 (PV.refsL (args++caps)) []
   | none=>[]
 | none=>[]
def zK7 (P:Program) (sh:FuncId->List Sh) (o:Oper) (st:St) (K:St->Prop):Prop:=
 match o.op with
 | .store t x y=>stF P (opd st.sl) (fun k=>st.bx[k]?) t x y fun k B=>K (St.put { st with bx:=st.bx.set k B } o.dst (.tp []))
 | .call c=>match c.callee with
   | .builtin .append=>match c.args.toList,c.argTypes.toList with
     | [x,y],[t,t']=>if t=t' then apF false P st o.dst t x y K else match P.underlying t' with
       | some .string=>zGc P st o.dst t t' x y K
       | _=>zJS P st o.dst t t' x y K
     | _,_=>False
   | .builtin .clear=>match c.args.toList,c.argTypes.toList with
     | [x],[t]=>zGH P st o.dst t x K
     | _,_=>False
   | .builtin .cap=>match c.args.toList,c.argTypes.toList with
     | [x],[t]=>match P.underlying t,zLo (opd st.sl x) with
       | some (.slice _),some n=>K (st.put o.dst (.int .i64 n))
       | _,_=>False
     | _,_=>False
   | .value x=>zJ9 P sh st o.dst x (zT P (zJ7 P (opd st.sl x)) (c.args.toList.map (opd st.sl))) K
   | _=>False
 | _=>False
/-- the boxes that the operation writes -/
def sd (P:Program) (sh:FuncId->List Sh) (o:Oper) (st:St):List Nat:=
 match o.op with
 | .store t x y=>match opd st.sl x with
   | .pb k _ _ _=>[k]
   | _=>[]
 | .call c=>match c.callee with
   | .builtin .append=>match c.args.toList,c.argTypes.toList with
     | [x,y],[t,t']=>match retag P t (opd st.sl x) with
       | .sb k _ _ _ _=>[k]
       | _=>[]
     | _,_=>[]
   | .builtin .clear=>match c.args.toList with
     | [x]=>match opd st.sl x with
       | .sb k _ _ _ _=>[k]
       | _=>[]
     | _=>[]
   | .value x=>zJU sh st x (zT P (zJ7 P (opd st.sl x)) (c.args.toList.map (opd st.sl)))
   | _=>[]
 | _=>[]
/-- rows among these boxes -/
def zHw (st:St) (T:List Nat):List Nat:=T.filter fun k=>(st.bx.getD k .gone).isArr
theorem zIi {T:List Nat}:∀ k∈zHw st T,k∈T:=fun k h=>(nk.1 h).1
/-- what a step leaves as it was: boxes apart from T, slots apart from TA -/
structure Stp (T TA:List Nat) (dst:Option Nat) (st st':St):Prop where
 sl:∀ (i:Nat) (p:PV),some i≠dst->st.sl[i]?=some p->(∀ k∈TA,k∉p.refs)->st'.sl[i]?=some p
 bx:∀ (k:Nat) (B:Bx),st.bx[k]?=some B->k∉T->(∀ j∈T,j∉B.refs)->st'.bx[k]?=some B
 bl:st.bx.length<=st'.bx.length
 ll:st'.sl.length=st.sl.length
theorem Stp.rfl' {T TA:List Nat} {dst:Option Nat}:Stp T TA dst st st:=⟨fun _ _ _ h _=>h,fun _ _ h _ _=>h,oF _,rfl⟩
theorem Stp.put {T TA:List Nat} {dst:Option Nat} (h:Stp T TA dst st st') (p:PV):Stp T TA dst st (st'.put dst p):=by
 cases dst with
 | none=>exact h
 | some d=>
   refine ⟨fun i q hi hq hT=>?_,fun k B hk h1 h2=>h.bx k B hk h1 h2,h.bl,by simp [St.put,h.ll]⟩
   simp only [St.put]
   rw [nV (fun hc=>hi (by rw [hc]))]
   exact h.sl i q hi hq hT
theorem Stp.app {T TA:List Nat} {dst:Option Nat} (h:Stp T TA dst st st') (rows:List Bx) (N:Nat):Stp T TA dst st { st' with bx:=st'.bx++rows,N:=N }:=by
 refine ⟨h.sl,fun k B hk h1 h2=>?_,by simp;have:=h.bl;omega,h.ll⟩
 have:=h.bx k B hk h1 h2
 simp only
 rw [oK (oB.1 this).1]
 exact this
theorem Stp.set {T TA:List Nat} {dst:Option Nat} (h:Stp T TA dst st st') {k:Nat} (hk:k∈T) (B:Bx):Stp T TA dst st { st' with bx:=st'.bx.set k B }:=by
 refine ⟨h.sl,fun j C hj h1 h2=>?_,by simp;exact h.bl,h.ll⟩
 simp only
 rw [nV (fun hc=>h1 (by rw [<-hc];exact hk))]
 exact h.bx j C hj h1 h2
theorem pN {k:Nat} {p:PV} (h:k∉p.refs):p.kill k=p:=by
 simp [PV.kill,h]
theorem Stp.kill {T TA:List Nat} {dst:Option Nat} (h:Stp T TA dst st st') {k:Nat} (hk:k∈T) (ha:k∈TA):Stp T TA dst st (st'.kill k):=by
 refine ⟨fun i p hi hp hT=>?_,fun j C hj h1 h2=>?_,by simp [St.kill];exact h.bl,by simp [St.kill,h.ll]⟩
 ·simp only [St.kill,oE,h.sl i p hi hp hT,oT,pN (hT k ha)]
 ·simp only [St.kill,oE,h.bx j C hj h1 h2,oT]
  congr 1
  cases C with
  | var cs=>
    simp only [Bx.kill]
    congr 1
    conv=>rhs;rw [<-List.map_id cs]
    refine oe fun p hp=>pN fun hc=>h2 k hk ?_
    simp only [Bx.refs];exact PV.refsL_mem.2 ⟨p,hp,hc⟩
  | _=>rfl
theorem pc {T TA:List Nat} {dst:Option Nat} {bx:List Bx}:∀ (ks:List Nat) (st':St),(∀ k∈ks,k∈T)->(∀ k∈ks,(bx.getD k .gone).isArr=true->k∈TA)->Stp T TA dst st st'->Stp T TA dst st (y4 bx ks st')
 | [],st',_,_,h=>h
 | k::ks,st',hk,ha,h=>by
   simp only [y4]
   split
   ·rename_i hc
    exact pc ks _ (fun j hj=>hk j (by simp [hj])) (fun j hj=>ha j (by simp [hj])) (h.kill (hk k (by simp)) (ha k (by simp) hc))
   ·exact pc ks _ (fun j hj=>hk j (by simp [hj])) (fun j hj=>ha j (by simp [hj])) h
theorem zKe {dst:Option Nat} (ks:List Nat) (nb rows:List Bx) (N:Nat):Stp ks (zHw st ks) dst st (zK4 st ks nb rows N):=by
 have h1:=pc (dst:=dst) (bx:=st.bx) ks st (fun _ h=>h) (fun k hk hc=>nk.2 ⟨hk,hc⟩) Stp.rfl'
 refine Stp.app (st':={ y4 st.bx ks st with bx:=bxN ks (nb.map (Bx.mapR fun j=>ks.getD j 0)) 0 (y4 st.bx ks st).bx }) ⟨h1.sl,fun k B hk hT hr=>?_,by simp only [yH];exact h1.bl,h1.ll⟩ rows N
 have h2:=h1.bx k B hk hT hr
 simp only [zEG,h2,oT,nE]
 cases hp:pos ks k with
 | none=>rfl
 | some j=>exact absurd (oC (ub hp)) hT
theorem zGe {ρ:Operand->PV} {rb:Nat->Option Bx} {t:TypeId} {x y:Operand} {K:Nat->Bx->Prop} (h:stF P ρ rb t x y K):stF P ρ rb t x y fun k B=>(∃ z i o,ρ x=.pb k z i o)/\K k B:=by
 unfold stF at h ⊢
 split at h
 ·rename_i z k zz i o hz hp
  split at h
  ·rename_i B hB
   have:(fun B=>(∃ z i o,ρ x=.pb k z i o)/\K k B)=K k:=by
    funext B
    exact propext ⟨fun h=>h.2,fun h=>⟨⟨_,_,_,hp⟩,h⟩⟩
   show zFE z zz B i o (retag P t (ρ y)) (fun B=>(∃ z i o,ρ x=.pb k z i o)/\K k B)
   rw [this]
   exact h
  ·exact h.elim
 ·exact h.elim
theorem zHF {g:Bool} {dst:Option Nat} {t:TypeId} {x y:Operand} {K:St->Prop} {T:List Nat} (hT:T=match retag P t (opd st.sl x) with | .sb k _ _ _ _=>[k] | _=>[]) (h:apF g P st dst t x y K) :
  apF g P st dst t x y fun st'=>Stp T (zHw st T) dst st st'/\K st':=by
 have mono:∀ (q:PV) (R R':Nat->List D->Prop),(∀ z l,R z l->R' z l)->zFf g (fun k=>st.bx[k]?) q R->zFf g (fun k=>st.bx[k]?) q R':=fun q R R' hR h=>by
  unfold zFf at h ⊢
  split at h
  ·rename_i k z lo n c
   simp only
   split at h
   ·rename_i hk
    simp only [hk]
    split at h
    ·split at h
     ·rename_i hc;rw [if_pos hc];exact hR _ _ h
     ·exact h.elim
    ·split at h
     ·rename_i hc;rw [if_pos hc];exact ⟨h.1,hR _ _ h.2⟩
     ·exact h.elim
   ·exact h.elim
  ·exact hR _ _ h
  ·exact h.elim
 unfold apF at h ⊢
 split at h
 rotate_left
 ·exact h.elim
 rename_i el hel
 try simp only [hel]
 split at h
 rotate_left
 ·exact h.elim
 rename_i z i hz hi
 try simp only [hz,hi]
 split at h
 ·exact h.elim
 rename_i hb
 rw [if_neg hb]
 refine mono _ _ _ (fun z2 new h=>?_) h
 split at h
 rotate_left
 ·exact h.elim
 rename_i hz2
 rw [if_pos hz2]
 split at h
 ·rename_i k z1 lo n c hp
  rw [hp] at hT
  simp only at hT
  try simp only [hp]
  split at h
  ·exact h.elim
  rename_i hpn
  try simp only [hpn]
  split at h
  ·rename_i t' z' es c' hk
   try simp only [hk]
   split at h
   ·rename_i hc
    rw [if_pos hc]
    refine ⟨h.1,h.2.1,fun c2=>(h.2.2 c2).mono fun h=>⟨?_,h⟩⟩
    refine Stp.put (Stp.set (st':=st.kill k) (Stp.kill Stp.rfl' (by rw [hT];simp) (by rw [hT];simp [zHw,oA,hk,Bx.isArr])) (by rw [hT];simp) _) _
   ·exact h.elim
  ·exact h.elim
 ·rename_i ad z1 es c hp
  try simp only [hp]
  split at h
  ·rename_i hc
   rw [if_pos hc]
   refine ⟨h.1,h.2.1,fun c2=>⟨?_,h.2.2 c2⟩⟩
   exact Stp.put (Stp.app Stp.rfl' _ _) _
  ·exact h.elim
 ·exact h.elim
theorem zIL (h:Rel av w0 e0 pS pB a w e st) (hpl:∀ k∈pB,k<st.bx.length) {sh:FuncId->List Sh} {o:Oper} {K:St->Prop}
  (hx:∀ x∈o.op.operands,∀ t,x=.tmp t->t∉pS) (hps:∀ i,i∈pS->some i≠o.dst->i∈pS') (hs:zK7 P sh o st K)
  {next:Act->World->Prop} {Q:Exit->Act->World->Prop}
  (hn:∀ v w' e' st',K st'->Stp (sd P sh o st) (zHw st (sd P sh o st)) o.dst st st'->Rel av w0 e0 pS' pB (a.put o.dst v) w' e' st'->next (a.put o.dst v) w'):o.wp P a w next Q:=by
 unfold zK7 at hs
 split at hs
 ·rename_i t x y hop
  have htc:sd P sh o st=match opd st.sl x with | .pb k _ _ _=>[k] | _=>[]:=by simp only [sd,hop]
  rw [hop] at hx
  simp only [Op.operands] at hx
  obtain ⟨w',k,B',h1,⟨⟨z,i,oo,hk⟩,h2⟩,h3⟩:=zGW h (hx x (by simp)) (hx y (by simp)) (zGe hs)
  have hrun:(execOp a.eval o).run P w=.ok .skip w':=by
   obtain ⟨dst,op,ty,pos,after,guard⟩:=o
   simp only at hop
   subst hop
   simp [execOp,h1]
  unfold Oper.wp
  rw [hrun,Oper.upon_skip]
  refine hn undef w' e _ h2 ?_ (yX h3 ⟨.inr rfl,by simp [PV.Ok,PV.OkL],by simp [PV.refs,PV.refsL]⟩ hps)
  rw [htc,hk]
  exact Stp.put (Stp.set Stp.rfl' (by simp) _) _
 ·rename_i c hop
  rw [hop] at hx
  simp only [Op.operands,Call.operands] at hx
  split at hs
  ·rename_i hc
   split at hs
   ·rename_i x y t t' hargs hats
    split at hs
    rotate_left
    ·have hm:∀ z,z∈[x,y]->z∈c.args:=fun z hz=>by rw [<-hargs] at hz;exact oa.1 hz
     split at hs
     ·skip
      obtain ⟨v,w',e',st',h1,h3,h4,k,z,lo,n,cc,B,q,hq,⟨t1,z1,es1,c1,hk⟩,h2⟩:=zDW h (ty:=o.type) (hx x (by simp [hm])) (hx y (by simp [hm])) hps hs
      have ea:c.args=#[x,y]:=by rw [<-nG,hargs]
      have et:c.argTypes=#[t,t']:=by rw [<-nG,hats]
      have hrun:(execOp a.eval o).run P w=.ok (.value v) w':=by
       obtain ⟨dst,op,ty,pos,after,guard⟩:=o
       simp only at hop h1
       subst hop
       simp [execOp,resolve,hc,invoke,builtin,ea,et,h1]
      unfold Oper.wp
      rw [hrun,Oper.upon_value]
      refine hn v w' e' st' h3 ?_ h4
      rw [h2]
      have htc:sd P sh o st=[k]:=by simp only [sd,hop,hc,hargs,hats,hq]
      rw [htc]
      exact Stp.put (Stp.set (st':=st.kill k) (Stp.kill Stp.rfl' (by simp) (by simp [zHw,oA,hk,Bx.isArr])) (by simp) _) _
     ·skip
      obtain ⟨v,w',e',st',h1,h3,h4,rows,q,h2⟩:=zFh h hpl (ty:=o.type) (hx x (by simp [hm])) (hx y (by simp [hm])) hps hs
      have ea:c.args=#[x,y]:=by rw [<-nG,hargs]
      have et:c.argTypes=#[t,t']:=by rw [<-nG,hats]
      have hrun:(execOp a.eval o).run P w=.ok (.value v) w':=by
       obtain ⟨dst,op,ty,pos,after,guard⟩:=o
       simp only at hop h1
       subst hop
       simp [execOp,resolve,hc,invoke,builtin,ea,et,h1]
      unfold Oper.wp
      rw [hrun,Oper.upon_value]
      refine hn v w' e' st' h3 ?_ h4
      rw [h2]
      exact Stp.put (Stp.app (N:=st.N) Stp.rfl' rows) q
    rename_i htt
    subst htt
    have hm:∀ z,z∈[x,y]->z∈c.args:=fun z hz=>by rw [<-hargs] at hz;exact oa.1 hz
    have htc:sd P sh o st=match retag P t (opd st.sl x) with | .sb k _ _ _ _=>[k] | _=>[]:=by simp only [sd,hop,hc,hargs,hats]
    obtain ⟨v,w',e',st',h1,⟨h2,h3⟩,h4⟩:=zGx h hpl (ty:=o.type) (hx x (by simp [hm])) (hx y (by simp [hm])) hps (zHF htc hs)
    have ea:c.args=#[x,y]:=by rw [<-nG,hargs]
    have et:c.argTypes=#[t,t]:=by rw [<-nG,hats]
    have hrun:(execOp a.eval o).run P w=.ok (.value v) w':=by
     obtain ⟨dst,op,ty,pos,after,guard⟩:=o
     simp only at hop h1
     subst hop
     simp [execOp,resolve,hc,invoke,builtin,ea,et,h1]
    unfold Oper.wp
    rw [hrun,Oper.upon_value]
    exact hn v w' e' st' h3 h2 h4
   ·exact hs.elim
  ·rename_i hc
   split at hs
   ·rename_i x t hargs hats
    have hm:∀ z,z∈[x]->z∈c.args:=fun z hz=>by rw [<-hargs] at hz;exact oa.1 hz
    obtain ⟨v,w',st',h1,h3,h4,k,B,⟨z,lo,n,cc,hk⟩,h2⟩:=zD8 h (ty:=o.type) (hx x (by simp [hm])) hps hs
    have htc:sd P sh o st=[k]:=by simp only [sd,hop,hc,hargs,hk]
    have ea:c.args=#[x]:=by rw [<-nG,hargs]
    have et:c.argTypes=#[t]:=by rw [<-nG,hats]
    have hrun:(execOp a.eval o).run P w=.ok (.value v) w':=by
     obtain ⟨dst,op,ty,pos,after,guard⟩:=o
     simp only at hop h1
     subst hop
     simp [execOp,resolve,hc,invoke,builtin,ea,et,h1]
    unfold Oper.wp
    rw [hrun,Oper.upon_value]
    refine hn v w' e st' h3 ?_ h4
    rw [htc,h2]
    exact Stp.put (Stp.set Stp.rfl' (by simp) _) _
   ·exact hs.elim
  ·rename_i hc
   split at hs
   ·rename_i x t hargs hats
    split at hs
    ·rename_i el n hel hcp
     have hm:∀ z,z∈[x]->z∈c.args:=fun z hz=>by rw [<-hargs] at hz;exact oa.1 hz
     have ox:=(yP h (hx x (by simp [hm]))).valOk
     have ea:c.args=#[x]:=by rw [<-nG,hargs]
     have et:c.argTypes=#[t]:=by rw [<-nG,hats]
     have hv:∃ (b:Option Addr) (m:Nat),a.eval x=.slice b m n:=by
      cases hpx:opd st.sl x<;>rw [hpx] at hcp ox<;>simp [zLo] at hcp
      ·subst hcp
       have:=ox.1.resolve_left (by simp)
       exact ⟨_,_,this⟩
      ·subst hcp
       have:=ox.1.resolve_left (by simp)
       rw [this]
       simp only [PV.val,PV.val1,PV.cv]
       split<;>exact ⟨_,_,rfl⟩
     obtain ⟨b,m,hv⟩:=hv
     have hrun:(execOp a.eval o).run P w=.ok (.value (.int .i64 n)) w:=by
      obtain ⟨dst,op,ty,pos,after,guard⟩:=o
      simp only at hop
      subst hop
      simp [execOp,resolve,hc,invoke,builtin,ea,et,Builtin.cap_,run_underlying hel,hv,goInt]
     unfold Oper.wp
     rw [hrun,Oper.upon_value]
     exact hn _ w e _ hs (Stp.put Stp.rfl' _) (yX h zU hps)
    ·exact hs.elim
   ·exact hs.elim
  ·rename_i x hc
   have htc:sd P sh o st=zJU sh st x (zT P (zJ7 P (opd st.sl x)) (c.args.toList.map (opd st.sl))):=by simp only [sd,hop,hc]
   rw [htc] at hn
   have hav:∀ (i:Nat) (p:PV) (y:Operand),(zT P (zJ7 P (opd st.sl x)) (c.args.toList.map (opd st.sl)))[i]?=some p->c.args[i]?=some y->ValOk av w e pB st.bx (a.eval y) p:=fun i p y hp hy=>by
    obtain ⟨q,hq,hpq⟩:=vI _ _ _ _ hp
    rw [oE] at hq
    simp only [o3,hy,oT,oZ] at hq
    subst hq
    have:=(yP h (hx y (by simp [Array.mem_of_getElem? hy]))).valOk
    rcases hpq with rfl | ⟨t,rfl⟩
    ·exact this
    ·exact this.retag t
   have hal:(zT P (zJ7 P (opd st.sl x)) (c.args.toList.map (opd st.sl))).length=c.args.size:=by rw [yi];simp
   generalize zT P (zJ7 P (opd st.sl x)) (c.args.toList.map (opd st.sl))=args at hs hn hav hal
   unfold zJ9 at hs
   unfold zJU at hn
   split at hs
   ·rename_i f caps hf
    simp only [hf] at hn
    split at hs
    ·rename_i rs hrs
     simp only [hrs] at hn
     unfold zKl at hs
     rw [hf] at hs
     simp only at hs
     split at hs
     ·rename_i hcapall
      rw [oS] at hcapall
      have hcrf:∀ k∈PV.refsL (args++caps),k∉pB:=fun k hk=>by
       obtain ⟨p,hp,hkp⟩:=PV.refsL_mem.1 hk
       rcases oO.1 hp with hp | hp
       ·obtain ⟨i,hi⟩:=oP.1 hp
        have hlt:i<c.args.size:=by rw [<-hal];exact (oB.1 hi).1
        exact ((hav i p _ hi (oY hlt)).2.2 k hkp).1
       ·have ox:=rF (yP h (hx x (by simp [hc]))).valOk hf
        exact (ox.2.2 k (by simp only [PV.refs];exact PV.refsL_mem.2 ⟨p,hp,hkp⟩)).1
      refine zDX h hpl hop hc (hx x (by simp [hc])) hal hav hf hcapall (wC 200 _ [] mA) (sO (A:=fun k=>k∉pB) (fun k hk j hj=>?_) 200 _ [] hcrf (by simp)) hps hs fun v w' e' st' h1 h2 h3=>?_
      ·rw [oA] at hj
       cases hB:st.bx[k]? with
       | none=>rw [hB] at hj;simp [Bx.refs] at hj
       | some B=>rw [hB] at hj;exact (h.bf k B hB hk j hj).1
      ·obtain ⟨nb,rows,N,q,rfl⟩:=h2
       exact hn v w' e' _ h1 (Stp.put (zKe _ _ _ _) _) h3
     ·exact hs.elim
    ·rename_i hrs
     simp only [hrs] at hn
     refine zEN h hpl hop hc (hx x (by simp [hc])) hal hav hps hs fun v w' e' st' h1 h2 h3=>?_
     obtain ⟨rows,q,N,rfl⟩:=h2
     exact hn v w' e' _ h1 (Stp.put (Stp.app Stp.rfl' _ _) _) h3
   ·exact hs.elim
  ·exact hs.elim
 ·exact hs.elim
variable {av:Nat->Prop} {P:Program} {w0 w w':World} {e0 e:Env} {pS pS' pB pB':List Nat} {a:Act} {st st':St}
/-- a call that writes what it is handed: where that lies (a slot with its place), and which slots are kept -/
structure MkH where
 place:Option Nat:=none
 keep:List Nat:=[]
 /-- a slot that holds the very slice -/
 same:Option Nat:=none
structure Ent where
 i:Nat
 hard:Bool:=false
 /-- slots whose rows are closed ahead of the operation -/
 cl:List Nat:=[]
 /-- slots whose snapshots the closed rows' blocks are apart from -/
 fs:List Nat:=[]
 mh:Option MkH:=none
 /-- behind the operation the row of the result is cut to the result's length -/
 tr:Bool:=false
def Br (v:Bool) (A B:Prop):Prop:=match v with
 | true=>A
 | false=>B
theorem Br.spec {v:Bool} {A B:Prop} (h:Br v A B):(v=true/\A)\/(v=false/\B):=by
 cases v
 ·exact .inr ⟨rfl,h⟩
 ·exact .inl ⟨rfl,h⟩
def zGd (ops:Array Oper) (o:Oper) (st:St) (A B:St->Prop):Prop:=
 match o.guard with
 | none=>A st
 | some (g,want)=>match ops[g]? with
   | some og=>match og.dst with
     | some d=>match st.sl[d]? with
       | some (.bool v)=>Br v (match want with
         | true=>A (st.put (some d) (.bool true))
         | false=>B (st.put (some d) (.bool true))) (match want with
         | true=>B (st.put (some d) (.bool false))
         | false=>A (st.put (some d) (.bool false)))
       | some (.tp [])=>B st
       | _=>False
     | none=>False
   | none=>False
def zJ2 (ops:Array Oper) (o:Oper) (st:St):Prop:=∀ g want,o.guard=some (g,want)->∃ og d,ops[g]?=some og/\og.dst=some d/\st.sl[d]?=some (.bool want)
def zK8 (ops:Array Oper) (o:Oper) (st:St):Prop:=∃ g want og d,o.guard=some (g,want)/\ops[g]?=some og/\og.dst=some d/\(st.sl[d]?=some (.bool (!want))\/st.sl[d]?=some (.tp []))
theorem zBB {d:Nat} {p:PV} (h:st.sl[d]?=some p):st.put (some d) p=st:=
 St.put_same fun d' hd hlt=>by cases hd;exact h
theorem zAk {ops:Array Oper} {o:Oper} {A B:St->Prop} (h:zGd ops o st A B):(zJ2 ops o st/\A st)\/(zK8 ops o st/\B st):=by
 unfold zGd at h
 split at h
 ·rename_i hg
  exact .inl ⟨fun g want hc=>(by rw [hg] at hc;cases hc),h⟩
 ·rename_i g want hg
  split at h
  ·rename_i og hog
   split at h
   ·rename_i d hd
    split at h
    ·rename_i v hv
     rcases h.spec with ⟨rfl,h⟩ | ⟨rfl,h⟩
     ·rw [zBB hv] at h
      cases want
      ·exact .inr ⟨⟨g,false,og,d,hg,hog,hd,.inl hv⟩,h⟩
      ·exact .inl ⟨fun g' want' hc=>(by rw [hg] at hc;cases hc;exact ⟨og,d,hog,hd,hv⟩),h⟩
     ·rw [zBB hv] at h
      cases want
      ·exact .inl ⟨fun g' want' hc=>(by rw [hg] at hc;cases hc;exact ⟨og,d,hog,hd,hv⟩),h⟩
      ·exact .inr ⟨⟨g,true,og,d,hg,hog,hd,.inl hv⟩,h⟩
    ·rename_i hv
     exact .inr ⟨⟨g,want,og,d,hg,hog,hd,.inr hv⟩,h⟩
    ·exact h.elim
   ·exact h.elim
  ·exact h.elim
theorem zCw (h:Rel av w0 e0 pS pB a w e st) {ops:Array Oper} {o:Oper} (hw:zJ2 ops o st) (hl:∀ t∈o.looksAt ops,t∉pS):Region.wanted o (yielded ops a.tmps)=true:=by
 unfold Region.wanted
 cases hg:o.guard with
 | none=>rfl
 | some gw=>
   obtain ⟨g,want⟩:=gw
   obtain ⟨og,d,h1,h2,h3⟩:=hw g want hg
   have hdn:d∉pS:=hl d (by simp [Oper.looksAt,hg,h1,h2])
   have hv:=(h.hs d _ h3 hdn).resolve_left (by simp)
   have hlt:d<a.tmps.size:=ow (oB.1 h3).1 h.sz
   have hget:a.tmps[d]?=some (.bool want):=by
    rw [o0,oY hlt] at hv
    rw [oY hlt]
    simp only [oc] at hv
    rw [hv];rfl
   simp [yielded,h1,h2,hget]
theorem zDR (h:Rel av w0 e0 pS pB a w e st) {ops:Array Oper} {o:Oper} (hw:zK8 ops o st) (hl:∀ t∈o.looksAt ops,t∉pS):Region.wanted o (yielded ops a.tmps)=false:=by
 obtain ⟨g,want,og,d,hg,h1,h2,h3⟩:=hw
 have hdn:d∉pS:=hl d (by simp [Oper.looksAt,hg,h1,h2])
 unfold Region.wanted
 rw [hg]
 rcases h3 with h3 | h3
 ·have hv:=(h.hs d _ h3 hdn).resolve_left (by simp)
  have hlt:d<a.tmps.size:=ow (oB.1 h3).1 h.sz
  have hget:a.tmps[d]?=some (.bool (!want)):=by
   rw [o0,oY hlt] at hv
   rw [oY hlt]
   simp only [oc] at hv
   rw [hv];rfl
  simp [yielded,h1,h2,hget]
 ·have hv:=(h.hs d _ h3 hdn).resolve_left (by simp)
  have hlt:d<a.tmps.size:=ow (oB.1 h3).1 h.sz
  have hget:∃ l',a.tmps[d]?=some (.tuple l'):=by
   rw [o0,oY hlt] at hv
   rw [oY hlt]
   simp only [oc] at hv
   rw [hv];exact ⟨_,rfl⟩
  obtain ⟨l',hget⟩:=hget
  simp [yielded,h1,h2,hget]
theorem vo (h:Rel av w0 e0 pS pB a w e st) (hp:∀ k,k∈pB'↔k∈pB) (hs:∀ i,i∈pS->i∈pS'):Rel av w0 e0 pS' pB' a w e st:=by
 have hn:∀ k,k∉pB'↔k∉pB:=fun k=>not_congr (hp k)
 have hL:∀ k b,Lives pB' e st.bx k b↔Lives pB e st.bx k b:=fun k b=>by unfold Lives;rw [hn]
 have hLv:zJ av pB' e st.bx=zJ av pB e st.bx:=by
  funext b
  unfold zJ
  exact propext (or_congr mS (exists_congr fun k=>hL k b))
 have hns:∀ i,i∉pS'->i∉pS:=fun i hi hc=>hi (hs i hc)
 exact {
  el:=h.el
  br:=fun k B hk hkn=>h.br k B hk ((hn k).1 hkn)
  bo:=fun k B hk hkn=>by rw [hLv];exact h.bo k B hk ((hn k).1 hkn)
  bf:=fun k B hk hkn j hj=>by have:=h.bf k B hk ((hn k).1 hkn) j hj;exact ⟨(hn j).2 this.1,this.2⟩
  inj:=fun k j b h1 h2=>h.inj k j b ((hL k b).1 h1) ((hL j b).1 h2)
  ku:=h.ku
  size:=h.size
  old:=h.old
  fz:=h.fz
  nd:=h.nd
  sz:=h.sz
  hN:=h.hN
  hs:=fun i p hi hin=>h.hs i p hi (hns i hin)
  so:=fun i p hi hin=>by rw [hLv];exact h.so i p hi (hns i hin)
  sr:=fun i p hi hin k hk=>by have:=h.sr i p hi (hns i hin) k hk;exact ⟨(hn k).2 this.1,this.2⟩
  own:=fun k b hk=>h.own k b ((hL k b).1 hk)
  avl:=h.avl
  avn:=fun k b hk=>h.avn k b ((hL k b).1 hk)
  pin:=fun k b hb=>by have:=h.pin k b hb;exact ⟨this.1,(hn k).2 this.2⟩
  pit:=h.pit }
/-- an operation of the plain kind, at once -/
theorem zJv (h:Rel av w0 e0 pS pB a w e st) (hpl:∀ k∈pB,k<st.bx.length) {o:Oper} (hx:∀ x∈o.op.operands,∀ t,x=.tmp t->t∉pS) {K:Res->Prop}
  (hs:nev P (opd st.sl) (fun k=>st.bx[k]?) o.op o.type K) :
  ∃ v w' e' r,(execOp a.eval o).run P w=.ok (.value v) w'/\K r/\Rel av w0 e0 pS pB (a.put o.dst v) w' e' (st.push o.dst r):=by
 obtain ⟨r,hK,hr⟩:=zGT _ hs
 have hr:=hr (fun q=>q=r) rfl
 cases r with
 | v p=>
   rcases zBL h hx hr with ⟨v,q,h1,h2,h3⟩ | ⟨v,c,t,B,f,h1,h2,h3⟩
   ·cases h2
    exact ⟨v,w,e,.v p,h1,hK,yX h h3 fun i hi _=>hi⟩
   ·cases h2
 | b B f=>
   have h1:=vJ h (B:=B)
   have hcg:nev P (opd st.sl) (fun k=>(st.bx++[B])[k]?) o.op o.type (fun q=>q=.b B f):=by
    rw [qk (ρ:=opd st.sl) (rb:=fun k=>st.bx[k]?) (fun _ _=>rfl) fun x hx' k hk=>?_]
    ·exact hr
    ·have:=(yP h (hx x hx')).rf k hk
     exact oK this.2
   rcases zBL h1 hx hcg with ⟨v,q,h1,h2,h3⟩ | ⟨v,c,t,B',f',h4,h2,h3⟩
   ·cases h2
   ·cases h2
    have h5:=tQ h1 (k:=st.bx.length) (B:=B) (by simp) (by simp) h3
    have hlen:st.bx.length<(e++[none]).length:=by simp [h.el]
    have h6:ValOk av (w.alloc (.cells c t)) ((e++[none]).set st.bx.length (some w.heap.size)) ((st.bx.length::pB).filter (·≠st.bx.length)) (st.bx++[B]) v (f st.bx.length):=
     ⟨.inr (h3.val _ _ (Env.at_set_eq hlen)),h3.fok _ _ _,by rw [h3.fr];simp⟩
    refine ⟨v,_,_,.b B f,h4,hK,vo (pS:=pS) (yX h5 h6 fun i hi _=>hi) (fun k=>?_) fun _=>id⟩
    simp only [nk,oI,ne_eq,na]
    constructor
    ·intro hk;have:=hpl k hk;exact ⟨.inr hk,by omega⟩
    ·rintro ⟨h7 | h7,h8⟩
     ·exact absurd h7 h8
     ·exact h7
/-- the operation of a hard entry -/
def zHz (P:Program) (sh:FuncId->List Sh) (o:Oper) (st:St) (K:St->Prop):Prop:=
 match zJu o.op with
 | true=>nev P (opd st.sl) (fun k=>st.bx[k]?) o.op o.type fun r=>K (st.push o.dst r)
 | false=>zK7 P sh o st K
def zEf (P:Program) (sh:FuncId->List Sh) (o:Oper) (st:St):List Nat:=
 match zJu o.op with
 | true=>[]
 | false=>sd P sh o st
theorem zFB {dst:Option Nat} {r:Res}:Stp [] [] dst st (st.push dst r):=by
 cases r with
 | v p=>exact Stp.put Stp.rfl' p
 | b B f=>exact Stp.put (Stp.app Stp.rfl' [B] st.N) _
theorem zDE (h:Rel av w0 e0 pS pB a w e st) (hpl:∀ k∈pB,k<st.bx.length) {sh:FuncId->List Sh} {o:Oper} {K:St->Prop}
  (hx:∀ x∈o.op.operands,∀ t,x=.tmp t->t∉pS) (hs:zHz P sh o st K)
  {next:Act->World->Prop} {Q:Exit->Act->World->Prop}
  (hn:∀ v w' e' st',K st'->Stp (zEf P sh o st) (zHw st (zEf P sh o st)) o.dst st st'->Rel av w0 e0 pS pB (a.put o.dst v) w' e' st'->next (a.put o.dst v) w'):o.wp P a w next Q:=by
 unfold zHz at hs
 unfold zEf at hn
 split at hs
 ·rename_i hne
  simp only [hne] at hn
  obtain ⟨v,w',e',r,h1,h2,h3⟩:=zJv h hpl hx hs
  unfold Oper.wp
  rw [h1,Oper.upon_value]
  exact hn v w' e' _ h2 zFB h3
 ·rename_i hne
  simp only [hne] at hn
  exact zIL h hpl hx (fun i hi _=>hi) hs hn
abbrev Pend:=List (Nat × Option Nat)
def uw (ops:Array Oper) (i:Nat):Option Nat:=(ops[i]?).bind (·.dst)
def zHv (T:List Nat) (st:St) (p:PV):Bool:=
 p.refs.all fun k=>!T.contains k&&match st.bx[k]? with
  | some B=>B.refs.all fun j=>!T.contains j
  | none=>true
def zHI (ops:Array Oper) (T:List Nat) (st:St) (x:Nat × Option Nat):Bool:=
 match ops[x.1]? with
 | some o=>(match x.2 with
   | some k=>!T.contains k&&(match st.bx[k]? with
     | some B=>B.refs.all fun j=>!T.contains j
     | none=>true)
   | none=>true)&&(o.op.operands.toList.all fun y=>zHv T st (opd st.sl y))&&(match o.dst with
   | some d=>zHv T st (st.sl.getD d .any)
   | none=>true)
 | none=>false
/-- a pending copy of a value: what a store writes does not matter to it -/
def mvP (ops:Array Oper) (x:Nat × Option Nat):Bool:=match x.2,ops[x.1]? with
 | none,some o=>match o.op with
   | .move _=>true
   | _=>false
 | _,_=>false
def zIc (ops:Array Oper) (T:List Nat) (st:St) (pf:Pend):Bool:=
 match T with
 | []=>true
 | T=>pf.all (zHI ops T st)
def zLa (ops:Array Oper) (T:List Nat) (st:St) (pf:Pend):Bool:=
 match T with
 | []=>true
 | T=>pf.all fun x=>zHI ops T st x||(mvP ops x&&zHI ops (zHw st T) st x)
def zHo:Res->Option Nat->Option PV
 | .v p,none=>some p
 | .b _ f,some k=>some (f k)
 | _,_=>none
def zJ6 (ops:Array Oper) (P:Program) (st:St) (o:Oper) (b:Option Nat):Prop:=
 (zJ2 ops o st/\(∀ y∈o.op.operands,∀ k∈(opd st.sl y).refs,k<st.bx.length)/\∃ r q,nev P (opd st.sl) (fun k=>st.bx[k]?) o.op o.type (fun q=>q=r)/\zHo r b=some q /\
  (∀ d,o.dst=some d->d<st.sl.length->st.sl[d]?=some q)/\∀ B f k,r=.b B f->b=some k->st.bx[k]?=some B) \/
 (zK8 ops o st/\b=none/\∀ d,o.dst=some d->d<st.sl.length->st.sl[d]?=some (.tp []))
def zLv (ops:Array Oper) (P:Program) (st:St) (x:Nat × Option Nat):Prop:=∃ o,ops[x.1]?=some o/\zJ6 ops P st o x.2
structure SafeP (T:List Nat) (st:St) (p:PV):Prop where
 r:∀ k∈T,k∉p.refs
 b:∀ k∈p.refs,k∉T/\∀ B,st.bx[k]?=some B->∀ j∈T,j∉B.refs
theorem zAq {T:List Nat} {p:PV} (h:zHv T st p=true):SafeP T st p:=by
 simp only [zHv,oS,oL,o7] at h
 have h1:∀ k∈p.refs,k∉T:=fun k hk=>by have:=(h k hk).1;simpa using this
 refine ⟨fun k hk hc=>h1 k hc hk,fun k hk=>⟨h1 k hk,fun B hB j hj hjr=>?_⟩⟩
 have:=(h k hk).2
 rw [hB] at this
 simp only [oS,o7] at this
 have:=this j hjr
 simp at this
 exact this hj
structure Safe1 (T:List Nat) (st:St) (o:Oper) (b:Option Nat):Prop where
 op:∀ y∈o.op.operands,SafeP T st (opd st.sl y)
 ds:∀ d,o.dst=some d->SafeP T st (st.sl.getD d .any)
 bx:∀ k,b=some k->k∉T/\∀ B,st.bx[k]?=some B->∀ j∈T,j∉B.refs
theorem r6 {o:Oper} {b:Option Nat}:Safe1 [] st o b:=⟨fun _ _=>⟨by simp,by simp⟩,fun _ _=>⟨by simp,by simp⟩,by simp⟩
theorem rI {ops:Array Oper} {T:List Nat} {x:Nat × Option Nat} {o:Oper} (ho:ops[x.1]?=some o) (h:zHI ops T st x=true):Safe1 T st o x.2:=by
 unfold zHI at h
 rw [ho] at h
 simp only [oL] at h
 obtain ⟨⟨h1,h2⟩,h3⟩:=h
 refine ⟨fun y hy=>zAq (oS.1 h2 y (oa.2 hy)),fun d hd=>?_,fun k hk=>?_⟩
 ·rw [hd] at h3;exact zAq h3
 ·rw [hk] at h1
  simp only [oL,o7] at h1
  refine ⟨by have:=h1.1;simpa using this,fun B hB j hj hjr=>?_⟩
  have:=h1.2
  rw [hB] at this
  simp only [oS,o7] at this
  have:=this j hjr
  simp at this
  exact this hj
/-- apart from what is written; of a pending copy, from the rows that are written -/
def zLm (T TA:List Nat) (st:St) (o:Oper) (b:Option Nat):Prop:=Safe1 T st o b\/((∃ y,o.op=.move y)/\b=none/\Safe1 TA st o b)
theorem zFI {ops:Array Oper} {T:List Nat} {pf:Pend} (h:zIc ops T st pf=true) {x:Nat × Option Nat} (hx:x∈pf) {o:Oper} (ho:ops[x.1]?=some o):Safe1 T st o x.2:=by
 unfold zIc at h
 split at h
 ·exact r6
 ·exact rI ho (oS.1 h x hx)
theorem zG6 {ops:Array Oper} {T:List Nat} {pf:Pend} (h:zLa ops T st pf=true) {x:Nat × Option Nat} (hx:x∈pf) {o:Oper} (ho:ops[x.1]?=some o):zLm T (zHw st T) st o x.2:=by
 unfold zLa at h
 split at h
 ·exact .inl r6
 ·have:=oS.1 h x hx
  rw [mF,oL] at this
  rcases this with h1 | ⟨h1,h2⟩
  ·exact .inl (rI ho h1)
  ·refine .inr ⟨?_,?_,rI ho h2⟩<;>unfold mvP at h1<;>split at h1
   ·rename_i o2 e1 e2
    rw [ho] at e2;cases e2
    split at h1
    ·exact ⟨_,by assumption⟩
    ·cases h1
   ·cases h1
   ·assumption
   ·cases h1
/-- a promise outlives a step that is apart from it -/
theorem rz {ops:Array Oper} {o:Oper} {b:Option Nat} {T TA:List Nat} {dst:Option Nat} (h:zJ6 ops P st o b) (hst:Stp T TA dst st st') (hA:∀ k∈TA,k∈T) (hs:zLm T TA st o b) (hd:∀ d,dst=some d->d∉o.looksAt ops/\o.dst≠some d):zJ6 ops P st' o b:=by
 have hso:∀ y∈o.op.operands,∀ k∈TA,k∉(opd st.sl y).refs:=fun y hy k hk=>by
  rcases hs with hs | ⟨_,_,hs⟩
  ·exact (hs.op y hy).r k (hA k hk)
  ·exact (hs.op y hy).r k hk
 have hsd:∀ d,o.dst=some d->∀ k∈TA,k∉(st.sl.getD d .any).refs:=fun d hdd k hk=>by
  rcases hs with hs | ⟨_,_,hs⟩
  ·exact (hs.ds d hdd).r k (hA k hk)
  ·exact (hs.ds d hdd).r k hk
 have hlook:∀ t p,t∈o.looksAt ops->st.sl[t]?=some p->(∀ k∈TA,k∉p.refs)->st'.sl[t]?=some p:=fun t p ht hp hk=>hst.sl t p (fun hc=>(hd t hc.symm).1 ht) hp hk
 have hop:∀ y∈o.op.operands,opd st'.sl y=opd st.sl y:=fun y hy=>by
  cases y with
  | tmp t=>
    have hsp:=hso _ hy
    simp only [opd] at hsp ⊢
    rw [oA] at hsp
    rw [oA,oA]
    cases hp:st.sl[t]? with
    | none=>
      have:st'.sl[t]?=none:=oU (by rw [hst.ll];exact nZ.1 hp)
      rw [this]
    | some p=>
      rw [hp] at hsp
      rw [hlook t p (by unfold Oper.looksAt;exact oW _ (nK.2 ⟨.tmp t,oa.2 hy,rfl⟩)) hp hsp]
  | _=>rfl
 have hwant:zJ2 ops o st->zJ2 ops o st':=fun hw g want hg=>by
  obtain ⟨og,d,h1,h2,h3⟩:=hw g want hg
  exact ⟨og,d,h1,h2,hlook d _ (by simp [Oper.looksAt,hg,h1,h2]) h3 (by simp [PV.refs])⟩
 have hdst:∀ d q,o.dst=some d->st.sl[d]?=some q->(∀ k∈TA,k∉q.refs)->st'.sl[d]?=some q:=fun d q hdd hq hk=>hst.sl d q (fun hc=>(hd d hc.symm).2 hdd) hq hk
 rcases h with ⟨h1,h0,r,q,h2,h3,h4,h5⟩ | ⟨⟨g,want,og,d,g1,g2,g3,g4⟩,h2,h3⟩
 ·refine .inl ⟨hwant h1,fun y hy k hk=>?_,r,q,?_,h3,fun d hdd hlt=>?_,fun B f k hr hk=>?_⟩
  ·rw [hop y hy] at hk;have:=h0 y hy k hk;have:=hst.bl;omega
  ·rcases hs with hs | ⟨⟨z,hz⟩,_,_⟩
   ·rw [qk (ρ:=opd st.sl) (rb:=fun k=>st.bx[k]?) hop fun y hy k hk=>?_]
    ·exact h2
    ·have hk1:=h0 y hy k hk
     have hk2:=(hs.op y hy).b k hk
     have hB:st.bx[k]?=some st.bx[k]:=oG hk1
     show st'.bx[k]?=st.bx[k]?
     rw [hst.bx k _ hB hk2.1 (hk2.2 _ hB),hB]
   ·have hop:=hop z (by rw [hz];simp [Op.operands])
    rw [hz] at h2 ⊢
    simp only [nev,tw] at h2 ⊢
    rw [hop];exact h2
  ·rw [hst.ll] at hlt
   have hq:=h4 d hdd hlt
   have hsp:=hsd d hdd
   rw [oA,hq] at hsp
   exact hdst d q hdd hq hsp
  ·rcases hs with hs | ⟨_,hb,_⟩
   ·have hB:=h5 B f k hr hk
    have:=hs.bx k hk
    exact hst.bx k B hB this.1 (this.2 B hB)
   ·rw [hb] at hk;cases hk
 ·refine .inr ⟨⟨g,want,og,d,g1,g2,g3,?_⟩,h2,fun d' hdd hlt=>?_⟩
  ·have hm:d∈o.looksAt ops:=by simp [Oper.looksAt,g1,g2,g3]
   rcases g4 with g4 | g4
   ·exact .inl (hlook d _ hm g4 (by simp [PV.refs]))
   ·exact .inr (hlook d _ hm g4 (by simp [PV.refs,PV.refsL]))
  ·rw [hst.ll] at hlt
   exact hdst d' _ hdd (h3 d' hdd hlt) (by simp [PV.refs,PV.refsL])
end Go.Proofs.YtmfjakahanbnlaaGreatDoor
