/- A call within a call is sound. -/
import Derived.Test.YtlahkdflngobiaaGreatDoorJd
set_option linter.unusedVariables false
set_option linter.unusedSimpArgs false
namespace Go.Proofs.YtlahkdflngobiaaGreatDoor
open Go
variable {av:Nat->Prop} {P:Program} {w0 w w':World} {e0 e:Env} {pS pS' pB:List Nat} {a:Act} {st st':St}
def sk (bs:List (Option Addr)):List Nat:=bs.filterMap λa=>a.map (·.block)
def PV.plainR:PV->Bool
 | .int ..=>true
 | .bool ..=>true
 | .str ..=>true
 | .sv ..=>true
 | .dg ..=>true
 | .sb ..=>true
 | .dc ..=>true
 | .pb ..=>true
 | _=>false
theorem QT.app_plain:∀ (l:List Sh) (Q:QT l) (b:Nat) (ps:List PV) (rows:List Bx) (N:Nat),QT.app l Q b ps rows N->∀ p∈ps,p.plainR=true
 | [],Q,b,ps,rows,N,h=>by
   cases ps<;>cases rows<;>simp [QT.app] at h ⊢
 | s :: l,Q,b,ps,rows,N,h=>by
   by_cases hs:s=.pk
   ·subst hs;exact QT.app_plain l Q b ps rows N h.2
   cases ps with
   | nil=>cases s<;>first | exact absurd rfl hs | (simp [QT.app] at h;done)
   | cons p ps=>
     have key:(∃ (J:QT l) (O:Nat) (I:List Bx),QT.app l J O ps I N)/\p.plainR=true:=by
      cases s<;>(try (exact absurd rfl hs))<;>cases p<;>(try (exact h.elim))<;>(try (simp [QT.app] at h;done))<;>first
       | exact ⟨⟨_,_,_,h⟩,rfl⟩
       | exact ⟨⟨_,_,_,h.2⟩,rfl⟩
       | skip
      all_goals
       cases rows with
       | nil=>simp [QT.app] at h
       | cons B rows=>
         cases B<;>first
          | exact ⟨⟨_,_,_,h.2⟩,rfl⟩
          | (simp [QT.app] at h;done)
          | (obtain ⟨_,_,_,_,_,_,_,h⟩:=h;exact ⟨⟨_,_,_,h⟩,rfl⟩)
     obtain ⟨⟨J,O,I,h'⟩,hp⟩:=key
     intro q hq
     rcases oH.1 hq with rfl | hq
     ·exact hp
     ·exact QT.app_plain l J O ps I N h' q hq
theorem zPf {cs:List PV} {ds:List D} (h:zJJ cs=some ds) {live:Nat->Prop} (I:PV.OkL w live cs):PV.val [] (.dg cs.length (.ag ds))=PV.val e (.pg cs):=by
 obtain ⟨_,J⟩:=rK (e:=e) h I
 simp [PV.val,PV.val1,D.val,J]
theorem vI {bx:List Bx} {v:Value} {p q:PV} (hv:ValOk av w e pB bx v p) (h:qe p=some q):v=q.val []/\(∀ live,(∀ b,live b->zW av pB e bx b)->q.Ok w live)/\q.refs=[]:=by
 have aa:p≠.any:=λhc=>by subst hc;simp [qe] at h
 have O:=hv.1.resolve_left aa
 have I:=hv.2.1
 have same:p=q->q.refs=[]->v=q.val []/\(∀ live,(∀ b,live b->zW av pB e bx b)->q.Ok w live)/\q.refs=[]:=λab hr=>by
  subst ab
  refine ⟨by rw [O];exact (PV.val_congr p (by rw [hr];simp)).symm,λlive hl=>PV.Ok.mono (λ_ _ _=>rfl) (oB _) (λb _=>hl b) p I,hr⟩
 cases p<;>simp [qe] at h
 case pg cs=>
  split at h
  ·rename_i ds J
   simp at h;subst h
   simp only [PV.Ok] at I
   refine ⟨by rw [O,zPf J I.1],λlive hl=>?_,rfl⟩
   obtain ⟨g1,_⟩:=rK (e:=e) J I.1
   exact ⟨(Good.ag λd hd=>(g1 d hd).1).mono (λ_ _ _=>rfl) (λb _=>hl b),ds,rfl,tf J,λd hd=>(g1 d hd).2⟩
  ·cases h
 all_goals (subst h;exact same rfl rfl)
theorem pj {p:PV} (h:p.isCap=true):p.val e=p.cv e:=by
 cases p<;>simp [PV.isCap] at h<;>rfl
theorem zLy {bx:List Bx} (h:Mem av pB w e bx) {k z b:Nat} {B:Bx} {x:D} (hk:bx[k]?=some B) (J:k∉pB) (hc:zRN B=some (z,x)) :
  ∃ b c t,e.at k=some b/\w.heap[b]?=some (.cells c t (0,0))/\Lives pB e bx k b/\Good w (zW av pB e bx) x/\eOk z x/\∀ (i:Nat) (u:D),x.cells[i]?=some u->c[i]?=some u.cv:=by
 have hr:=h.br k B hk J
 have ho:=h.bo k B hk J
 cases B with
 | gone=>cases hc
 | arr=>cases hc
 | var cs =>
   obtain ⟨b,c,t,h1,h2,h3,h4⟩:=hr
   have hl:Lives pB e bx k b:=⟨J,h1,_,hk,by simp⟩
   have ab:=ho.1
   refine ⟨b,c,t,h1,h2,hl,?_⟩
   simp only [zRN] at hc
   split at hc
   ·rename_i p
    split at hc
    ·rename_i d hd
     simp at hc
     obtain ⟨rfl,rfl⟩:=hc
     obtain ⟨g1,g2,g3,g4,_⟩:=wT (e:=e) hd (PV.OkL_iff.1 ab p (by simp))
     have ac:d.cells=[d]:=by cases d<;>simp [D.isCell] at g2<;>rfl
     refine ⟨g1,by simpa [eOk] using g2,λi u hu=>?_⟩
     rw [ac] at hu
     cases i with
     | zero=>
       simp at hu;subst hu
       rcases h4 0 p rfl with h5 | h5
       ·subst h5;simp [zAI] at hd
       ·rw [g3];exact h5
     | succ i=>simp at hu
    ·cases hc
   ·split at hc
    ·rename_i n ds hd O
     simp at hc
     obtain ⟨rfl,rfl⟩:=hc
     obtain ⟨g1,g2⟩:=rK (e:=e) O ab
     refine ⟨Good.ag λd hd=>(g1 d hd).1,?_,λi u hu=>?_⟩
     ·simp only [eOk,Nat.add_one_ne_zero,ni]
      exact ⟨ds,rfl,by rw [tf O];exact hd,λd hd=>(g1 d hd).2⟩
     ·simp only [D.cells] at hu
      have ae:i<ds.length:=(oD.1 hu).1
      have aa:i<cs.length:=by rw [<-tf O];exact ae
      have I:(ds.map D.cv)[i]?=(PV.cvs e cs)[i]?:=by rw [g2]
      rw [oI,hu,PV.cvs_eq,oI,oF aa] at I
      simp only [oe,o4] at I
      rcases h4 i _ (oF aa) with h5 | h5
      ·exfalso
       have:∀ (l:List PV) (r:List D),zJJ l=some r->PV.any∉l:=by
        intro l
        induction l with
        | nil=>intro r _;simp
        | cons q l ih=>
          intro r hr hm
          simp only [zJJ] at hr
          split at hr
          ·rename_i d ah h7 h8
           rcases oH.1 hm with rfl | hm
           ·simp [zAI] at h7
           ·exact ih _ h8 hm
          ·cases hr
       exact this cs ds O (by rw [<-h5];exact nz aa)
      ·rw [I];exact h5
    ·cases hc
 | vd y n=>
   obtain ⟨b,c,t,h1,h2,h3,h4,h5⟩:=hr
   refine ⟨b,c,t,h1,h2,⟨J,h1,_,hk,by simp⟩,?_⟩
   simp only [zRN] at hc
   split at hc
   ·cases hc
   ·simp at hc
    obtain ⟨rfl,rfl⟩:=hc
    exact ⟨ho,by simpa [eOk] using h4,h5⟩
def ArgOk (av:Nat->Prop) (pB:List Nat) (w:World) (e:Env) (st:St) (bs:List (Option Addr)) (v:Value) (p q:PV):Prop:=
 q.val []=v/\(∀ live,(∀ b,live b->zW av pB e st.bx b/\b∉sk bs)->q.Ok w live)/\q.refs=[]/\(p.isCap=true->q.isCap=true)
theorem tZ {a b:List (Option Addr)}:sk (a++b)=sk a++sk b:=by simp [sk]
theorem ArgOk.mono {bs bs':List (Option Addr)} {v:Value} {p q:PV} (h:ArgOk av pB w e st bs v p q) (O:∀ b∈sk bs,b∈sk bs'):ArgOk av pB w e st bs' v p q:=
 ⟨h.1,λlive J=>h.2.1 live λb I=>⟨(J b I).1,λhc=>(J b I).2 (O b hc)⟩,h.2.2⟩
def zBH (pB:List Nat) (e:Env) (bx:List Bx) (bs:List (Option Addr)):Prop:=∀ b∈sk bs,∃ k,Lives pB e bx k b
theorem tN {bx:List Bx} {x:Option Addr} (O:∀ ad,x=some ad->zW av pB e bx ad.block):∀ {ps:List PV} {K:Prop},(∀ p∈ps,∃ v,ValOk av w e pB bx v p)->zSr x ps K->K
 | [],K,_,h=>h
 | p::ps,K,hp,h=>by
   have I:=λq hq=>hp q (nj _ hq)
   obtain ⟨v,hv⟩:=hp p (by simp)
   have aa:=hv.2.1
   cases p<;>simp only [zSr] at h
   case sv=>
    refine tN O I (h λy hy ad J hm=>?_)
    rw [oR] at hy;subst hy
    exact aa.2 _ hm (O ad J)
   case dg=>
    refine tN O I (h λy hy ad J hm=>?_)
    rw [oR] at hy;subst hy
    exact aa.1.2 _ hm (O ad J)
   all_goals exact tN O I h
theorem px (h:Mem av pB w e st.bx) {al:List PV} (ac:∀ p∈al,∃ v,ValOk av w e pB st.bx v p):∀ (cs:List PV) (K:List D->List (Option Addr)->Prop),(∀ p∈cs,p.Ok w (zW av pB e st.bx)/\∀ k∈p.refs,k∉pB)->zHV st al cs K ->
  ∃ ds bs,K ds bs/\ds.length=cs.length/\ds.map D.cv=PV.cvs e cs/\(∀ d∈ds,d.isCell)/\(∀ live,(∀ b,live b->zW av pB e st.bx b/\b∉sk bs)->∀ d∈ds,Good w live d)/\zBH pB e st.bx bs
 | [],K,_,O=>⟨[],[],O,rfl,rfl,by simp,by simp,by simp [zBH,sk]⟩
 | p :: ps, K,hc,O=>by
   have ae:=λq hq=>hc q (nj _ hq)
   have ak:∀ d,zAI p=some d->zHV st al ps (λds bs=>K (d::ds) bs)->∃ ds bs,K ds bs/\ds.length=(p::ps).length/\ds.map D.cv=PV.cvs e (p::ps)/\(∀ d∈ds,d.isCell)/\(∀ live,(∀ b,live b->zW av pB e st.bx b/\b∉sk bs)->∀ d∈ds,Good w live d)/\zBH pB e st.bx bs:=λd hd O=>by
    obtain ⟨g1,g2,g3,_,_⟩:=wT (w:=w) (e:=e) hd (hc p (by simp)).1
    obtain ⟨ds,bs,k1,k2,k3,k4,k5,k6⟩:=px h ac ps _ ae O
    refine ⟨d::ds,bs,k1,by simp [k2],by simp [PV.cvs,k3,g3],λx hx=>?_,λlive hl x hx=>?_,k6⟩
    ·rcases oH.1 hx with rfl | hx
     ·exact g2
     ·exact k4 x hx
    ·rcases oH.1 hx with rfl | hx
     ·exact g1.mono (λ_ _ _=>rfl) λb _ hb=>(hl b hb).1
     ·exact k5 live hl x hx
   simp only [zHV] at O
   split at O
   ·rename_i k z lo n c
    split at O
    ·rename_i t z' es c' hk
     cases hd:decide (z=z'/\lo=0) with
     | false=>rw [hd] at O;exact O.elim
     | true =>
       rw [hd] at O
       simp at hd
       obtain ⟨hz,am⟩:=hd
       subst hz;subst am
       obtain ⟨⟨rfl,rfl⟩,O⟩:=O
       have aa:=(hc (.sb k z 0 es.length c) (by simp)).2 k (by simp [PV.refs])
       have hr:=h.br k _ hk aa
       have ah:=h.bo k _ hk aa
       have ao:=O ((e.at k).map λb=>⟨b,0,none⟩) (λad J d hd hb=>by
        cases I:e.at k with
        | none=>rw [I] at J;cases J
        | some b=>
          rw [I] at J;cases J
          exact (ah d hd).2 b hb (.inr ⟨k,aa,I,_,hk,by simp⟩))
       have aq:=tN (λad J=>by
        cases I:e.at k with
        | none=>rw [I] at J;cases J
        | some b=>
          rw [I] at J;cases J
          exact .inr ⟨k,aa,I,_,hk,by simp⟩) ac ao
       obtain ⟨ds,bs,k1,k2,k3,k4,k5,k6⟩:=px h ac ps _ ae aq
       refine ⟨_,_,k1,by simp [k2],?_,λx hx=>?_,λlive ab x hx=>?_,λb hb=>?_⟩
       ·simp only [oh,PV.cvs,k3]
        congr 1
        cases I:e.at k<;>simp [PV.cv,D.cv,I]
       ·rcases oH.1 hx with rfl | hx
        ·simp [D.isCell]
        ·exact k4 x hx
       ·rcases oH.1 hx with rfl | hx
        ·have ai:∀ x∈es,Good w live x:=λx hx=>(ah x hx).mono (λ_ _ _=>rfl) (λb _ hb=>(ab b hb).1)
         rcases hr with ⟨g1,g2,g3⟩ | ⟨b,cc,g1,g2,g3,g4,g5,g6,g7⟩
         ·subst g2;subst g3
          rw [g1]
          exact zCU
         ·rw [g1]
          refine ⟨.sl (λ_=>rfl) g4 g6 (λx hx=>(ai x hx).1) (.inr ⟨cc,t,(0,0),g2,λi u hu=>by simpa using g7 i u hu⟩),λj hj aj=>?_⟩
          simp only [oe,D.foot] at hj
          split at hj
          ·simp at hj
          ·rcases oH.1 hj with rfl | hj
           ·exact (ab _ aj).2 (by simp [sk,g1])
           ·obtain ⟨x,hx,au⟩:=zH.1 hj
            exact (ai x hx).2 j au aj
        ·exact k5 live (λb hb=>⟨(ab b hb).1,λhc=>(ab b hb).2 (by
          rw [show (((e.at k).map λb=>(⟨b,0,none⟩:Addr))::bs)=[((e.at k).map λb=>(⟨b,0,none⟩:Addr))]++bs from rfl,tZ]
          exact ow _ hc)⟩) x hx
       ·rw [show (((e.at k).map λb=>(⟨b,0,none⟩:Addr))::bs)=[((e.at k).map λb=>(⟨b,0,none⟩:Addr))]++bs from rfl,tZ] at hb
        rcases oG.1 hb with hb | hb
        ·cases I:e.at k with
         | none=>simp [sk,I] at hb
         | some b'=>
           simp [sk,I] at hb;subst hb
           exact ⟨k,aa,I,_,hk,by simp⟩
        ·exact k6 b hb
    ·exact O.elim
   ·split at O
    ·rename_i d hd
     exact ak d hd O
    ·exact O.elim
mutual
theorem zOc (h:Mem av pB w e st.bx) {al:List PV} (ae:∀ p∈al,∃ v,ValOk av w e pB st.bx v p):∀ (p:PV) (v:Value) (K:PV->List (Option Addr)->Prop),ValOk av w e pB st.bx v p->zLZ st al p K->∃ q bs,K q bs/\ArgOk av pB w e st bs v p q/\zBH pB e st.bx bs
 | .sb k z lo n c,v,K,J,I=>by
   simp only [zLZ] at I
   split at I
   ·rename_i t z' es c' hk
    cases hd:decide (z=z'/\lo=0) with
    | false=>rw [hd] at I;exact I.elim
    | true=>
      rw [hd] at I
      simp at hd
      obtain ⟨hz,ax⟩:=hd
      subst hz;subst ax
      obtain ⟨⟨rfl,rfl⟩,I⟩:=I
      have ah:=(J.2.2 k (by simp [PV.refs])).1
      have hr:=h.br k _ hk ah
      have ac:=h.bo k _ hk ah
      have ai:=J.1.resolve_left (by simp)
      have ay:=I ((e.at k).map λb=>⟨b,0,none⟩) (λad O d hd hb=>by
       cases aa:e.at k with
       | none=>rw [aa] at O;cases O
       | some b=>
         rw [aa] at O;cases O
         exact (ac d hd).2 b hb (.inr ⟨k,ah,aa,_,hk,by simp⟩))
      refine ⟨_,_,tN (λad O=>?_) ae ay,⟨?_,λlive ab=>?_,rfl,λ_=>rfl⟩,λb hb=>?_⟩
      ·cases aa:e.at k with
       | none=>rw [aa] at O;cases O
       | some b=>
         rw [aa] at O;cases O
         exact .inr ⟨k,ah,aa,_,hk,by simp⟩
      ·rw [ai]
       cases aa:e.at k<;>simp [PV.val,PV.val1,PV.cv,aa]
      ·have ao:∀ x∈es,Good w live x:=λx hx=>(ac x hx).mono (λ_ _ _=>rfl) (λb _ hb=>(ab b hb).1)
       rcases hr with ⟨g1,g2,g3⟩ | ⟨b,cc,g1,g2,g3,g4,g5,g6,g7⟩
       ·subst g2;subst g3
        rw [g1]
        exact zCU
       ·rw [g1]
        refine ⟨.sl (λ_=>rfl) g4 g6 (λx hx=>(ao x hx).1) (.inr ⟨cc,t,(0,0),g2,λi u hu=>by simpa using g7 i u hu⟩),λj hj aq=>?_⟩
        simp only [oe,D.foot] at hj
        split at hj
        ·simp at hj
        ·rcases oH.1 hj with rfl | hj
         ·exact (ab _ aq).2 (by simp [sk,g1])
         ·obtain ⟨x,hx,az⟩:=zH.1 hj
          exact (ao x hx).2 j az aq
      ·cases aa:e.at k with
       | none=>simp [sk,aa] at hb
       | some b'=>
         simp [sk,aa] at hb;subst hb
         exact ⟨k,ah,aa,_,hk,by simp⟩
   ·exact I.elim
 | .pb k z i o,v,K,J,I=>by
   simp only [zLZ] at I
   split at I
   ·rename_i B hk
    split at I
    ·rename_i z x hd hx
     simp at hd
     obtain ⟨rfl,rfl⟩:=hd
     have ah:=(J.2.2 k (by simp [PV.refs])).1
     have ai:=J.1.resolve_left (by simp)
     obtain ⟨b,c,t,g1,g2,g3,g4,g5,g6⟩:=zLy (b:=0) h hk ah hx
     refine ⟨_,_,tN (λad O=>by cases O;exact .inr ⟨k,g3⟩) ae (I ⟨b,0,none⟩ (λad O d hd hb=>by cases O;simp at hd;subst hd;exact g4.2 _ hb (.inr ⟨k,g3⟩))),⟨?_,λlive ab=>⟨?_,g5,rfl,.inr ⟨c,t,(0,0),g2,λi u hu=>by simpa using g6 i u hu⟩,λhl=>(ab _ hl).2 (by simp [sk]),Lives.lt h g3⟩,rfl,λ_=>rfl⟩,λb' hb=>?_⟩
     ·rw [ai];simp [PV.val,PV.val1,PV.cv,g1]
     ·exact g4.mono (λ_ _ _=>rfl) λb _ hb=>(ab b hb).1
     ·simp [sk] at hb;subst hb;exact ⟨k,g3⟩
    ·exact I.elim
   ·exact I.elim
 | .fn f caps,v,K,J,I=>by
   simp only [zLZ] at I
   split at I
   ·rename_i aj
    rw [oT] at aj
    have ai:=J.1.resolve_left (by simp)
    have ac:=J.2.1
    simp only [PV.Ok,PV.OkL_iff] at ac
    obtain ⟨as,bs,h1,h2,h3,h4⟩:=zBT h ae caps (caps.map (PV.cv e)) _ (by simp) (λi p v hp ak=>by
     rw [oI,hp] at ak
     simp at ak;subst ak
     have hm:=oC hp
     exact ⟨.inr (pj (aj p hm)).symm,ac p hm,λk hk=>J.2.2 k (by simp only [PV.refs];exact PV.refsL_mem.2 ⟨p,hm,hk⟩)⟩) I
    have au:PV.cvs [] as=PV.cvs e caps:=by
     rw [PV.cvs_eq,PV.cvs_eq,<-h2]
     refine nC λq hq=>?_
     obtain ⟨i,hi⟩:=oQ.1 hq
     obtain ⟨p,hp,ho⟩:=h3 i q hi
     exact (pj (ho.2.2.2 (aj p (oC hp)))).symm
    refine ⟨_,_,h1,⟨?_,λlive ab=>?_,?_,λ_=>rfl⟩,h4⟩
    ·rw [ai]
     show (PV.fn f as).cv []=(PV.fn f caps).cv e
     simp only [PV.cv,au]
    ·simp only [PV.Ok,PV.OkL_iff]
     intro q hq
     obtain ⟨i,hi⟩:=oQ.1 hq
     obtain ⟨p,hp,ho⟩:=h3 i q hi
     exact ho.2.1 live ab
    ·simp only [PV.refs]
     refine nH.2 λk hk=>?_
     obtain ⟨q,hq,aw⟩:=PV.refsL_mem.1 hk
     obtain ⟨i,hi⟩:=oQ.1 hq
     obtain ⟨p,hp,ho⟩:=h3 i q hi
     rw [ho.2.2.1] at aw;simp at aw
   ·exact I.elim
 | .any,v,K,J,I=>by simp [zLZ,qe] at I
 | .int ..,v,K,J,I=>by simp [zLZ,qe] at I;exact ⟨_,_,I,⟨(J.1.resolve_left (by simp)).symm,λ_ _=>trivial,rfl,λ_=>rfl⟩,by simp [zBH,sk]⟩
 | .bool ..,v,K,J,I=>by simp [zLZ,qe] at I;exact ⟨_,_,I,⟨(J.1.resolve_left (by simp)).symm,λ_ _=>trivial,rfl,λ_=>rfl⟩,by simp [zBH,sk]⟩
 | .str ..,v,K,J,I=>by simp [zLZ,qe] at I;exact ⟨_,_,I,⟨(J.1.resolve_left (by simp)).symm,λ_ _=>trivial,rfl,λ_=>rfl⟩,by simp [zBH,sk]⟩
 | .tp ..,v,K,J,I=>by simp [zLZ,qe] at I
 | .d ..,v,K,J,I=>by simp [zLZ,qe] at I
 | .lit x,v,K,J,I=>by
   have I:K (.lit x) []:=by simpa [zLZ,qe] using I
   obtain ⟨g1,g2,g3⟩:=vI J (q:=.lit x) rfl
   exact ⟨_,_,I,⟨g1.symm,λlive hl=>g2 live λb hb=>(hl b hb).1,g3,λ_=>rfl⟩,by simp [zBH,sk]⟩
 | .sv a z es c,v,K,J,I=>by
   have I:K (.sv a z es c) []:=by simpa [zLZ,qe] using I
   obtain ⟨g1,g2,g3⟩:=vI J (q:=.sv a z es c) rfl
   exact ⟨_,_,I,⟨g1.symm,λlive hl=>g2 live λb hb=>(hl b hb).1,g3,λ_=>rfl⟩,by simp [zBH,sk]⟩
 | .dg n x,v,K,J,I=>by
   have I:K (.dg n x) []:=by simpa [zLZ,qe] using I
   obtain ⟨g1,g2,g3⟩:=vI J (q:=.dg n x) rfl
   exact ⟨_,_,I,⟨g1.symm,λlive hl=>g2 live λb hb=>(hl b hb).1,g3,id⟩,by simp [zBH,sk]⟩
 | .dc x,v,K,J,I=>by
   have I:K (.dc x) []:=by simpa [zLZ,qe] using I
   obtain ⟨g1,g2,g3⟩:=vI J (q:=.dc x) rfl
   exact ⟨_,_,I,⟨g1.symm,λlive hl=>g2 live λb hb=>(hl b hb).1,g3,λ_=>rfl⟩,by simp [zBH,sk]⟩
 | .pd ad z x,v,K,J,I=>by
   have I:K (.pd ad z x) []:=by simpa [zLZ,qe] using I
   obtain ⟨g1,g2,g3⟩:=vI J (q:=.pd ad z x) rfl
   exact ⟨_,_,I,⟨g1.symm,λlive hl=>g2 live λb hb=>(hl b hb).1,g3,λ_=>rfl⟩,by simp [zBH,sk]⟩
 | .pg cs,v,K,J,I=>by
   simp only [zLZ] at I
   have ai:=J.1.resolve_left (by simp)
   have ac:=J.2.1
   simp only [PV.Ok] at ac
   obtain ⟨am,bb⟩:=ac
   rw [PV.OkL_iff] at am
   cases hn:zJJ cs with
   | some ds=>
     rw [hn] at I
     obtain ⟨g1,g2,g3⟩:=vI J (q:=.dg cs.length (.ag ds)) (by simp [qe,hn])
     exact ⟨_,_,I,⟨g1.symm,λlive hl=>g2 live λb hb=>(hl b hb).1,g3,λhc=>by simp [PV.isCap] at hc⟩,by simp [zBH,sk]⟩
   | none=>
     rw [hn] at I
     obtain ⟨ds,bs,k1,k2,k3,k4,k5,k6⟩:=px h ae cs _ (λp hp=>⟨am p hp,λk hk=>(J.2.2 k (by simp only [PV.refs];exact PV.refsL_mem.2 ⟨p,hp,hk⟩)).1⟩) I
     refine ⟨_,_,k1,⟨?_,λlive ab=>⟨⟨.ag λx hx=>(k5 live ab x hx).1,λb hb hl=>?_⟩,ds,rfl,k2,k4⟩,rfl,λhc=>by simp [PV.isCap] at hc⟩,k6⟩
     ·rw [ai]
      simp only [PV.val,PV.val1,D.val,k3]
     ·simp only [D.foot] at hb
      obtain ⟨x,hx,a6⟩:=zH.1 hb
      exact (k5 live ab x hx).2 b a6 hl
theorem zBT (h:Mem av pB w e st.bx) {al:List PV} (ae:∀ p∈al,∃ v,ValOk av w e pB st.bx v p):∀ (ps:List PV) (vs:List Value) (K:List PV->List (Option Addr)->Prop),ps.length=vs.length->(∀ (i:Nat) (p:PV) (v:Value),ps[i]?=some p->vs[i]?=some v->ValOk av w e pB st.bx v p)->zO3 st al ps K ->
  ∃ as bs,K as bs/\as.map (PV.val [])=vs/\(∀ (i:Nat) (q:PV),as[i]?=some q->∃ p,ps[i]?=some p/\ArgOk av pB w e st bs (q.val []) p q)/\zBH pB e st.bx bs
 | [],vs,K,hl,_,I=>by
   cases vs with
   | nil=>exact ⟨[],[],I,rfl,by simp,by simp [zBH,sk]⟩
   | cons=>simp at hl
 | p :: ps,vs,K,hl,J,I=>by
   cases vs with
   | nil=>simp at hl
   | cons v vs=>
     simp only [zO3] at I
     obtain ⟨q,b1,h1,h2,a7⟩:=zOc h ae p v _ (J 0 p v rfl rfl) I
     obtain ⟨qs,b2,h3,h4,h5,a8⟩:=zBT h ae ps vs _ (by simpa using hl) (λi p v hp ak=>J (i+1) p v (by simpa using hp) (by simpa using ak)) h1
     refine ⟨q::qs,b1++b2,h3,by simp [h2.1,h4],λi r hr=>?_,λb hb=>?_⟩
     ·cases i with
      | zero=>
        simp at hr;subst hr
        refine ⟨p,rfl,?_⟩
        have:=h2.mono (bs':=b1++b2) λb hb=>by rw [tZ];exact oY _ hb
        exact ⟨rfl,this.2⟩
      | succ i=>
        obtain ⟨p',ba,ho⟩:=h5 i r (by simpa using hr)
        exact ⟨p',by simpa using ba,ho.mono λb hb=>by rw [tZ];exact ow _ hb⟩
     ·rw [tZ] at hb
      rcases oG.1 hb with hb | hb
      ·exact a7 b hb
      ·exact a8 b hb
end
theorem tP {p:PV} {f:FuncId} {caps:List PV} {bx:List Bx} {v:Value} (I:ValOk av w e pB bx v p) (h:zQy p=some (f,caps)):ValOk av w e pB bx v (.fn f caps):=by
 unfold zQy at h
 split at h
 ·cases h;exact I
 ·rename_i g ds
  cases h
  exact zHU I
 ·cases h
theorem zNN {bs:List (Option Addr)} {d:D} (h:Off bs d):∀ b∈sk bs,b∉d.foot:=by
 intro b J
 simp only [sk,nR] at J
 obtain ⟨x,O,I⟩:=J
 cases x with
 | none=>simp at I
 | some ad=>simp at I;subst I;exact h _ O ad rfl
def PV.offB (b:Nat):PV->Prop
 | .sv a z es c=>b∉(D.sl a z es c).foot
 | .dg _ x=>b∉x.foot
 | .dc x=>b∉x.foot
 | _=>True
theorem zH2 {bs:List (Option Addr)}:∀ {ps:List PV} {K:Prop},zSi bs ps K->K/\∀ b∈sk bs,∀ p∈ps,p.offB b
 | [],K,h=>⟨h,by simp⟩
 | p::ps,K,h=>by
   have step:(∀ b∈sk bs,p.offB b)->zSi bs ps K->K/\∀ b∈sk bs,∀ q∈p::ps,q.offB b:=λJ O=>by
    obtain ⟨h3,h4⟩:=zH2 O
    refine ⟨h3,λb I q hq=>?_⟩
    rcases oH.1 hq with rfl | hq
    ·exact J b I
    ·exact h4 b I q hq
   cases p<;>simp only [zSi] at h
   case sv=>exact step (zNN h.1) h.2
   case dg=>exact step (zNN h.1) h.2
   case dc=>exact step (zNN h.1) h.2
   all_goals exact step (λ_ _=>trivial) h
theorem zHR {bs:List (Option Addr)}:∀ {rows:List Bx} {K:Prop},zU0 bs rows K->K/\∀ b∈sk bs,∀ B∈rows,B.offB b
 | [],K,h=>⟨h,by simp⟩
 | B::rows,K,h=>by
   cases B<;>simp only [zU0] at h
   obtain ⟨J,O⟩:=zHR h.2
   refine ⟨J,λb I B hB=>?_⟩
   rcases oH.1 hB with rfl | hB
   ·have:=zNN h.1 b I
    simpa [D.foot,Bx.offB] using this
   ·exact O b I B hB
theorem zOj {bs:List (Option Addr)} {ps:List PV} {rows:List Bx} {K:Prop} (h:zVO bs ps rows K):K/\∀ b∈sk bs,(∀ p∈ps,p.offB b)/\∀ B∈rows,B.offB b:=by
 cases bs with
 | nil=>exact ⟨h,by simp [sk]⟩
 | cons b bs=>
   simp only [zVO] at h
   obtain ⟨J,O⟩:=zH2 h
   obtain ⟨h3,h4⟩:=zHR J
   exact ⟨h3,λb I=>⟨O b I,h4 b I⟩⟩
theorem vN {N:Nat}:∀ {ps:List PV} {K:Prop},(∀ p∈ps,match p with | .sv a z es c=>Bel N (.sl a z es c) | .dg _ x=>Bel N x | _=>True)->zQv N ps K->K
 | [],K,_,h=>h
 | p::ps,K,O,h=>by
   have J:=O p (by simp)
   have I:=λq hq=>O q (nj _ hq)
   cases p<;>simp only [zQv] at h J
   case sv=>exact vN I (h J)
   case dg=>exact vN I (h J)
   all_goals exact vN I h
theorem zAM {N:Nat}:∀ {rows:List Bx} {K:Prop},(∀ t z es c,Bx.arr t z es c∈rows->Bel N (.ag es))->zT5 N rows K->K
 | [],K,_,h=>h
 | B::rows,K,J,h=>by
   have I:=λt z es c O=>J t z es c (nj _ O)
   cases B<;>simp only [zT5] at h
   case arr t z es c=>exact zAM I (h (J t z es c (by simp)))
   all_goals exact zAM I h
theorem zCC {f:FuncId} (h:yW P f=true) (args:Array Value) (w:World):(callFunc f args).run P w=.ok (.enter f args) w:=by
 unfold yW at h
 cases I:P.funcs[f]? with
 | none=>simp [I] at h
 | some fn=>
   simp only [I,oL,bne_iff_ne,ne_eq] at h
   obtain ⟨O,h2⟩:=h
   cases J:fn.body with
   | none=>simp [J] at h2
   | some c=>simp [callFunc,I,O,J]
theorem PV.shift_val1 {d:Nat} {e e':Env} (I:∀ k,Env.at (e++e') (d+k)=e'.at k) {p:PV} (J:p.plainR=true):(p.shift d).val1 (e++e')=p.val1 e':=by
 cases p<;>simp [PV.plainR] at J<;>simp [PV.shift,PV.val1,PV.cv,I]
theorem PV.shift_cv {d:Nat} {e e':Env} (I:∀ k,Env.at (e++e') (d+k)=e'.at k) {p:PV} (J:p.plainR=true):(p.shift d).cv (e++e')=p.cv e':=by
 cases p<;>simp [PV.plainR] at J<;>simp [PV.shift,PV.cv,I]
theorem zOl {d:Nat} {e e':Env} (I:∀ k,Env.at (e++e') (d+k)=e'.at k) {ps:List PV} (J:∀ p∈ps,p.plainR=true) {pk:Bool}:(zHG pk (ps.map (PV.shift d))).val (e++e')=zOU pk e' ps:=by
 cases pk with
 | true=>
   simp only [zHG,zOU,PV.val,PV.val1,PV.cvs_eq,mO]
   congr 2
   exact nC λp h=>PV.shift_cv I (J p h)
 | false=>
 have key:∀ p∈ps,(p.shift d).val1 (e++e')=p.val1 e':=λp h=>PV.shift_val1 I (J p h)
 have one:∀ p,p∈ps->(p.shift d).val (e++e')=p.val1 e':=λp h=>by
  rw [<-key p h]
  have:=J p h
  cases p<;>simp [PV.plainR] at this<;>rfl
 rcases ps with _ | ⟨p,_ | ⟨q,ps⟩⟩
 ·rfl
 ·exact one p (by simp)
 ·simp only [oh,zHG,zK4,PV.val,zOU,zQG]
  rw [key p (by simp),key q (by simp),mO]
  congr 4
  exact nC λr O=>key r (by simp [O])
theorem zIC {d:Nat} {p:PV} (I:p.plainR=true):∀ k∈(p.shift d).refs,∃ j∈p.refs,k=d+j:=by
 cases p<;>simp [PV.plainR] at I<;>simp [PV.shift,PV.refs]
theorem zKy {pk:Bool} {ps:List PV}:∀ k∈(zHG pk ps).refs,∃ p∈ps,k∈p.refs:=by
 intro k I
 cases pk with
 | true=>simp only [zHG,PV.refs] at I;exact PV.refsL_mem.1 I
 | false=>
 rcases ps with _ | ⟨p,_ | ⟨q,ps⟩⟩
 ·simp [zHG,zK4,PV.refs,PV.refsL] at I
 ·exact ⟨p,by simp,I⟩
 ·simp only [zHG,zK4,PV.refs] at I
  exact PV.refsL_mem.1 I
theorem zP1 {live:Nat->Prop} {pk:Bool} {ps:List PV} (h:∀ p∈ps,p.Ok w live) (hc:pk=true->∀ p∈ps,p.isC):(zHG pk ps).Ok w live:=by
 cases pk with
 | true=>simp only [zHG,PV.Ok];exact ⟨PV.OkL_iff.2 h,hc rfl⟩
 | false=>
 rcases ps with _ | ⟨p,_ | ⟨q,ps⟩⟩
 ·simp [zHG,zK4,PV.Ok,PV.OkL]
 ·exact h p (by simp)
 ·simp only [zHG,zK4,PV.Ok]
  exact PV.OkL_iff.2 h
theorem zKm {d:Nat} {p:PV} (h:p.isC):(p.shift d).isC:=by cases p<;>exact h
theorem QT.app_pk {l:List Sh} {Q:QT l} {b:Nat} {ps:List PV} {rows:List Bx} {N:Nat} (I:zEM l=true) (h:QT.app l Q b ps rows N):∀ p∈ps,p.isC:=by
 cases l with
 | nil=>simp [zEM] at I
 | cons s l=>cases s<;>simp [zEM] at I;exact QT.app_cells l Q b ps rows N h.1 h.2
theorem zQF {N:Nat} {bs:List (Option Addr)} {K:Prop} (h:zVm N bs K) (I:wa N bs):K:=by
 unfold zVm at h
 split at h
 ·exact h
 ·exact h I
/-- as told, or the argument that came back -/
def BkR (as J:List PV) (p q:PV):Prop:=q=p\/∃ (j:Nat) (a:Option Addr) (z:Nat) (es:List D) (c k z' lo n I:Nat),p=PV.dc (.sl a z es c)/\as[j]?=some (PV.sv a z es c)/\J[j]?=some (PV.sb k z' lo n I)/\q=PV.sb k z' lo n I
theorem zFY {as J:List PV}:∀ (l:List Sh) (ps:List PV) (K:List PV->Prop),bkP as J l ps K->∃ qs:List PV,K qs/\qs.length=ps.length/\∀ (i:Nat) (q:PV),qs[i]?=some q->∃ p:PV,ps[i]?=some p/\BkR as J p q
 | [],ps,K,h=>⟨ps,h,rfl,λi q hq=>⟨q,hq,.inl rfl⟩⟩
 | s :: l,ps,K,h=>by
   have I:∀ (p q:PV) (ps:List PV),BkR as J p q->bkP as J l ps (λqs=>K (q::qs)) ->
     ∃ qs:List PV,K qs/\qs.length=(p::ps).length/\∀ (i:Nat) (q:PV),qs[i]?=some q->∃ p':PV,(p::ps)[i]?=some p'/\BkR as J p' q:=λp q ps O hb=>by
    obtain ⟨qs,g1,g2,g3⟩:=zFY l ps _ hb
    refine ⟨q::qs,g1,by simp [g2],λi r hr=>?_⟩
    cases i with
    | zero=>simp at hr;subst hr;exact ⟨p,rfl,O⟩
    | succ i=>exact g3 i r (by simpa using hr)
   have nil:K []->∃ qs:List PV,K qs/\qs.length=([]:List PV).length/\∀ (i:Nat) (q:PV),qs[i]?=some q->∃ p:PV,([]:List PV)[i]?=some p/\BkR as J p q:=λh=>⟨[],h,rfl,by simp⟩
   cases s with
   | pk=>exact zFY l ps K h
   | bk j=>
     cases ps with
     | nil=>exact nil h
     | cons p ps=>
       simp only [bkP] at h
       split at h
       ·rename_i x a z es c k z' lo n c' h1 h2
        exact I _ _ ps (.inr ⟨j,a,z,es,c,k,z',lo,n,c',by rw [h.1],h1,h2,rfl⟩) h.2
       ·exact I _ _ ps (.inl rfl) h
   | _=>
     cases ps with
     | nil=>exact nil h
     | cons p ps=>exact I p p ps (.inl rfl) h
theorem zRV {E:Env} {pk:Bool} {ps qs:List PV} (hl:qs.length=ps.length) (h:∀ (i:Nat) (q p:PV),qs[i]?=some q->ps[i]?=some p->q.cv E=p.cv E/\q.val1 E=p.val1 E/\q.val E=p.val E):(zHG pk qs).val E=(zHG pk ps).val E:=by
 have O:∀ (F:PV->Value),(∀ (i:Nat) (q p:PV),qs[i]?=some q->ps[i]?=some p->F q=F p)->qs.map F=ps.map F:=λF hF=>by
  apply nI
  intro i
  rw [oI,oI]
  by_cases hi:i<ps.length
  ·rw [oF hi,oF (by omega:i<qs.length)]
   simp only [oe,o4]
   exact hF i _ _ (oF _) (oF _)
  ·rw [oc (by omega),oc (by omega)]
 cases pk with
 | true=>
   simp only [zHG,PV.val,PV.val1,PV.cvs_eq]
   rw [O _ λi q p I J=>(h i q p I J).1]
 | false=>
   have h1:=O _ λi q p I J=>(h i q p I J).2.1
   rcases ps with _ | ⟨p,_ | ⟨p2,ps⟩⟩<;>rcases qs with _ | ⟨q,_ | ⟨q2,qs⟩⟩<;>simp at hl
   ·rfl
   ·exact (h 0 q p rfl rfl).2.2
   ·simp only [zHG,zK4,PV.val]
    rw [h1]
theorem zMr (h:Rel av w0 e0 pS pB a w e st) (aw:∀ k∈pB,k<st.bx.length) {sh:FuncId->List Sh} {o:Oper} {c:Call} {x:Operand} {args:List PV} {K:St->Prop} (ho:o.op=.call c) (hc:c.callee=.value x)
  (hx:∀ t,x=.tmp t->t∉pS) (ha:args.length=c.args.size) (bz:∀ (i:Nat) (p:PV) (y:Operand),args[i]?=some p->c.args[i]?=some y->ValOk av w e pB st.bx (a.eval y) p)
  (b1:∀ i,i∈pS->some i≠o.dst->i∈pS') (hs:zTQ P sh st o.dst x args K) {next:Act->World->Prop} {Q:Exit->Act->World->Prop}
  (hn:∀ v w' e' st',K st'->(∃ rows p N,st'=St.put { st with bx:=st.bx++rows,N:=N } o.dst p)->Rel av w0 e0 pS' pB (a.put o.dst v) w' e' st'->next (a.put o.dst v) w'):o.wp P a w next Q:=by
 have ox:=xZ h hx
 unfold zTQ at hs
 split at hs
 rotate_left
 ·exact hs.elim
 rename_i f caps hf
 split at hs
 rotate_left
 ·exact hs.elim
 rename_i aa
 rw [oT] at aa
 have ox:=tP ox.valOk hf
 have b2:=ox.1.resolve_left (by simp)
 have b3:a.eval x=.func (.func f) #[] (PV.cvs e caps).toArray:=b2
 have am:PV.OkL w (zW av pB e st.bx) caps:=by have:=ox.2.1;simpa only [PV.Ok] using this
 rw [PV.OkL_iff] at am
 have a6:∀ p∈caps,∀ k∈p.refs,k∉pB/\k<st.bx.length:=λp hp k hk=>ox.2.2 k (by simp only [PV.refs];exact PV.refsL_mem.2 ⟨p,hp,hk⟩)
 have ah:∀ (i:Nat) (p:PV) (v:Value),(args++caps)[i]?=some p->(c.args.toList.map a.eval++caps.map (PV.cv e))[i]?=some v->ValOk av w e pB st.bx v p:=by
  intro i p v h1 h2
  by_cases hi:i<args.length
  ·rw [oN hi] at h1
   have a7:i<c.args.toList.length:=by simp;omega
   rw [oN (by simpa using a7),oI,oF a7] at h2
   simp at h2
   subst h2
   exact bz i p _ h1 (by rw [oi (by omega)])
  ·rw [oP (by omega)] at h1
   rw [oP (by simp;omega),oI] at h2
   have a8:i - (c.args.toList.map a.eval).length=i - args.length:=by simp;omega
   rw [a8,h1] at h2
   simp at h2
   subst h2
   have hm:=oC h1
   exact ⟨.inr (pj (aa p hm)).symm,am p hm,a6 p hm⟩
 have ba:(args++caps).length=(c.args.toList.map a.eval++caps.map (PV.cv e)).length:=by simp;omega
 have aj:∀ p∈args++caps,∃ v,ValOk av w e pB st.bx v p:=λp hp=>by
  obtain ⟨i,hi⟩:=oQ.1 hp
  have ai:=(oD.1 hi).1
  exact ⟨_,ah i p _ hi (oF (by rw [<-ba];exact ai))⟩
 have bb:=aj
 obtain ⟨as,bs,hK,bc,hq,ac⟩:=zBT h.toMem aj (args++caps) (c.args.toList.map a.eval++caps.map (PV.cv e)) _ (by simp;omega) ah hs
 obtain ⟨b4,hA⟩:=zQF (hK w.heap.size h.hN) λb J ad b5=>by
  obtain ⟨k,hk⟩:=ac ad.block (by simp only [sk,nR];exact ⟨b,J,by simp [b5]⟩)
  exact Lives.lt h.toMem hk
 have ai:∀ b,zW av pB e st.bx b->b<w.heap.size:=λb J=>J.elim (λJ=>by have:=h.avl.lt b J;have:=h.size;omega) λ⟨k,hk⟩=>Lives.lt h.toMem hk
 have hC:=hA (λb=>zW av pB e st.bx b/\b∉sk bs) w rfl ⟨λb J=>ai b J.1,h.glob,λb J=>⟨.inl (h.avl.ga b J),λhc=>by obtain ⟨k,hk⟩:=ac b hc;exact h.avn k b hk (h.avl.ga b J)⟩,λb J=>by simp⟩ λp hp=>by
  obtain ⟨i,hi⟩:=oQ.1 hp
  obtain ⟨p',_,ho⟩:=hq i p hi
  exact ⟨ho.2.1 _ λb J=>J,ho.2.2.1⟩
 have bd:(execOp a.eval o).run P w=.ok (.enter f (as.map (PV.val [])).toArray) w:=by
  have e1:(as.map (PV.val [])).toArray=c.args.map a.eval++(PV.cvs e caps).toArray:=by
   rw [bc,PV.cvs_eq]
   apply nE.1
   simp
  rw [e1]
  obtain ⟨dst,op,ty,pos,after,guard⟩:=o
  simp only at ho
  subst ho
  simp only [execOp,resolve,hc,Deferred.ofValue,b3,invoke]
  simp [zCC b4]
 unfold Oper.wp
 rw [bd,Oper.upon_enter]
 refine hC.mono λen w' ax=>?_
 cases en with
 | panicked=>exact ax.elim
 | outgrown=>exact ax.elim
 | returned v=>
   obtain ⟨ps,rows,e',hd⟩:=ax
   have bg:=QT.app_lam (sh f) st.bx.length 0 _ ps rows _ hd.q
   have I:=QT.app_plain _ _ _ _ _ _ hd.q
   obtain ⟨bh,bi⟩:=QT.app_rows _ _ _ _ _ _ hd.q
   obtain ⟨qs,b6,b7,bj⟩:=zFY _ _ _ (bg hd.size)
   obtain ⟨hB,ao⟩:=zOj b6
   have ci:∀ (P:PV->Prop),(∀ p∈ps,P (p.shift st.bx.length))->∀ q∈ps.map (PV.shift st.bx.length),P q:=λP hP q hq=>by
    obtain ⟨p,hp,rfl⟩:=oU.1 hq;exact hP p hp
   have ak:∀ q∈qs,(∃ p∈ps,q=p.shift st.bx.length)\/∃ k z' lo n c',q=.sb k z' lo n c'/\k∉pB/\k<st.bx.length:=λq hq=>by
    obtain ⟨i,hi⟩:=oQ.1 hq
    obtain ⟨p',b8,h2⟩:=bj i q hi
    rcases h2 with rfl | ⟨j,a,z,es,c,k,z',lo,n,c',_,_,aj,rfl⟩
    ·obtain ⟨p,hp,rfl⟩:=oU.1 (oC b8)
     exact .inl ⟨p,hp,rfl⟩
    ·obtain ⟨v,hv⟩:=bb _ (oC aj)
     exact .inr ⟨k,z',lo,n,c',rfl,hv.2.2 k (by simp [PV.refs])⟩
   have ac:=vN (N:=w'.heap.size) (λq hq=>by
    rcases ak q hq with ⟨p,hp,rfl⟩ | ⟨k,z',lo,n,c',rfl,_⟩
    ·have aw:=I p hp
     have O:=hd.ok p hp
     cases p<;>simp only [PV.shift]<;>simp only [PV.Ok] at O
     ·exact O.1.lt
     ·exact O.1.1.lt
    ·trivial) hB
   have ay:=zAM (N:=w'.heap.size) (λt z es cc hm b J=>by
    obtain ⟨i,hi⟩:=oQ.1 hm
    have:=hd.m.bo i _ hi (by simp)
    simp only [D.foot] at J
    obtain ⟨y,hy,b9⟩:=zH.1 J
    exact (this y hy).1.lt b b9) ac
   have bm:∀ b,zW av pB e st.bx b->(zW av pB e st.bx b/\b∉sk bs)\/b∈sk bs:=λb J=>by
    by_cases bn:b∈sk bs
    ·exact .inr bn
    ·exact .inl ⟨J,bn⟩
   obtain ⟨hR,ab⟩:=zS1 h aw bm hd.size hd.old hd.m bh hd.fresh (λb J=>(ao b J).2) hd.fz hd.ku
   have bp:∀ k,Env.at (e++e') (st.bx.length+k)=e'.at k:=λk=>by
    rw [Env.at_app,if_neg (by rw [h.el];omega)]
    congr 1;rw [h.el];omega
   refine hn v w' (e++e') _ ay ⟨rows,_,_,rfl⟩ (xz hR ⟨.inr ?_,?_,?_⟩ b1)
   ·rw [hd.v,<-zOl bp I]
    refine (zRV b7 λi q p' ca cd=>?_).symm
    obtain ⟨cj,aq,h2⟩:=bj i q ca
    rw [cd] at aq;cases aq
    rcases h2 with rfl | ⟨j,a0,z,es,c0,k,z',lo,n,c',rfl,bq,au,rfl⟩
    ·exact ⟨rfl,rfl,rfl⟩
    ·have al:∃ vj,(c.args.toList.map a.eval++caps.map (PV.cv e))[j]?=some vj:=⟨_,oF (by rw [<-ba];exact (oD.1 au).1)⟩
     obtain ⟨vj,al⟩:=al
     have bt:=ah j _ _ au al
     have ce:vj=(PV.sv a0 z es c0).val []:=by
      have h5:=nL (λl=>l[j]?) bc
      simp only [oI,bq,oe] at h5
      rw [al] at h5
      exact (nB h5).symm
     have ai:=(bt.2.2 k (by simp [PV.refs])).2
     have bv:Env.at (e++e') k=e.at k:=by rw [Env.at_app,if_pos (by rw [h.el];exact ai)]
     have cf:=bt.1.resolve_left (by simp)
     have e2:(PV.sb k z' lo n c').cv (e++e')=(PV.sb k z' lo n c').cv e:=by simp only [PV.cv,bv]
     have e3:(PV.sb k z' lo n c').cv e=(D.sl a0 z es c0).cv:=by
      have h6:(PV.sb k z' lo n c').val e=(PV.sv a0 z es c0).val []:=by rw [<-cf,ce]
      exact h6
     exact ⟨e2.trans e3,e2.trans e3,e2.trans e3⟩
   ·refine zP1 (λq hq=>?_) (λcg q hq=>?_)
    ·rcases ak q hq with ⟨p,hp,rfl⟩ | ⟨k,z',lo,n,c',rfl,_⟩
     ·have bw:=I p hp
      have O:=hd.ok p hp
      have ae:∀ b∈sk bs,(p.shift st.bx.length).offB b:=λb J=>(ao b J).1 _ hq
      cases p<;>simp [PV.plainR] at bw<;>simp only [PV.shift,PV.Ok,PV.offB] at O ae ⊢
      ·exact ab _ O ae
      ·exact ⟨ab _ O.1 ae,O.2⟩
      ·exact ⟨ab _ O.1 ae,O.2⟩
     ·trivial
    ·rcases ak q hq with ⟨p,hp,rfl⟩ | ⟨k,z',lo,n,c',rfl,_⟩
     ·exact zKm (QT.app_pk cg hd.q p hp)
     ·trivial
   ·intro k hk
    obtain ⟨q,ch,az⟩:=zKy k hk
    rcases ak q ch with ⟨p,hp,rfl⟩ | ⟨k',z',lo,n,c',rfl,h1,h2⟩
    ·obtain ⟨j,hj,rfl⟩:=zIC (I p hp) k az
     have ck:=(bi p hp).2.2 j hj
     refine ⟨λhc=>by have:=aw _ hc;omega,by simp;omega⟩
    ·simp [PV.refs] at az;subst az
     exact ⟨h1,by simp;omega⟩
variable {av:Nat->Prop} {P:Program} {w0 w w':World} {e0 e:Env} {pS pS' pB pB':List Nat} {a:Act} {st st':St}
def zDV:PV->Option Sh
 | .int k _=>some (.int k)
 | .bool _=>some .bool
 | .str _=>some .str
 | .sv _ z _ _=>some (.sl z)
 | _=>none
def zS5:List PV->List Sh
 | []=>[]
 | p::ps=>match zDV p with
   | some s=>s::zS5 ps
   | none=>zS5 ps
def zPB:List PV->List PV
 | []=>[]
 | p::ps=>match zDV p with
   | some _=>p::zPB ps
   | none=>zPB ps
def zTD:Bx->List Sh
 | .var cs=>zS5 cs
 | .vd _ n=>[.ag n]
 | .arr _ z _ _=>[.sl z]
 | .gone=>[]
def zOw:Bx->List PV
 | .var cs=>zPB cs
 | .vd x n=>[.dg n x]
 | .arr _ z es c=>[.sv none z es c]
 | .gone=>[]
def zOT (bx:List Bx):List Sh:=bx.flatMap zTD
def zEv (bx:List Bx):List PV:=bx.flatMap zOw
/-- a box's cells told anew; what is left -/
def zMU:List PV->List PV->List PV × List PV
 | [],es=>([],es)
 | p :: ps,es=>match zDV p with
   | some _=>match es with
     | q::es=>(q::(zMU ps es).1,(zMU ps es).2)
     | []=>([],[])
   | none=>(p::(zMU ps es).1,(zMU ps es).2)
def zNj:Bx->List PV->Bx × List PV
 | .var cs,es=>(.var (zMU cs es).1,(zMU cs es).2)
 | .vd y n,es=>match es with
   | .dg _ x::es=>(.vd x n,es)
   | _=>(.vd y n,[])
 | .arr t z y n,es=>match es with
   | .sv _ _ ds c::es=>(.arr t z ds c,es)
   | _=>(.arr t z y n,[])
 | .gone,es=>(.gone,es)
def zOP:List Bx->List PV->List Bx
 | [],_=>[]
 | B::bs,es=>(zNj B es).1::zOP bs (zNj B es).2
/-- slices of the boxes' rows have the rows' lengths -/
def zUD (bs:List Bx):PV->PV
 | .sb k z lo n c=>match bs[k]? with
   | some (.arr _ _ es I)=>.sb k z lo es.length I
   | _=>.any
 | p=>p
def zUS (bs:List Bx):Bx->Bx
 | .var cs=>.var (cs.map (zUD bs))
 | B=>B
def zJw (bx:List Bx) (es:List PV):List Bx:=(zOP bx es).map (zUS (zOP bx es))
def zTk (N:Nat) (p:PV):Prop:=match p with | .sv a z es c=>Bel N (.sl a z es c) | .dg _ x=>Bel N x | _=>True
theorem zL3 {live:Nat->Prop} {p:PV} (h:p.Ok w live):zTk w.heap.size p:=by
 cases p<;>simp only [PV.Ok] at h<;>simp only [zTk]
 ·exact h.1.lt
 ·exact h.1.1.lt
theorem zIr:∀ {cs:List PV} {p:PV},p∈zPB cs->p∈cs
 | q::cs,p,h=>by
   simp only [zPB] at h
   split at h
   ·rcases oH.1 h with rfl | h
    ·simp
    ·simp [zIr h]
   ·simp [zIr h]
theorem zSa {live:Nat->Prop} {B:Bx} (h:B.Ok w live):∀ p∈zOw B,zTk w.heap.size p:=by
 intro p I
 cases B with
 | var cs=>
   simp only [zOw] at I
   exact zL3 (PV.OkL_iff.1 h.1 p (zIr I))
 | vd x n=>
   simp [zOw] at I;subst I
   exact Good.lt h
 | arr t z es c=>
   simp [zOw] at I;subst I
   intro b O
   simp only [D.foot] at O
   obtain ⟨y,hy,J⟩:=zH.1 O
   exact (h y hy).1.lt b J
 | gone=>simp [zOw] at I
theorem zJL {pB:List Nat} {bx:List Bx} (h:Mem av pB w e bx) (J:pB=[]) {bs:List Bx} (hs:∀ B∈bs,B∈bx):∀ p∈zEv bs,zTk w.heap.size p:=by
 intro p I
 simp only [zEv,ny] at I
 obtain ⟨B,O,I⟩:=I
 obtain ⟨k,hk⟩:=oQ.1 (hs B O)
 exact zSa (h.bo k B hk (by simp [J])) p I
/-- what is returned: the results, or the whole slice of a box that was handed in -/
def zO9 (full:List Sh) (U:List Bx) (e:Env) (ps:List PV):Value:=match full with
 | .bk j::_=>match U[j]? with
   | some (.arr _ z es c)=>(PV.sb j z 0 es.length c).cv e
   | _=>undef
 | _=>zOU (zEM full) e ps
theorem zGG {full:List Sh} {U:List Bx} {e:Env} {ps:List PV} (h:∀ j l,full≠.bk j::l):zO9 full U e ps=zOU (zEM full) e ps:=by
 unfold zO9
 split
 ·exact absurd rfl (h _ _)
 ·rfl
/-- a function's contract, where it may write the boxes that it is handed: how it ends -/
structure DoneB (full:List Sh) (Q:QT full) (av:Nat->Prop) (w0:World) (E:Env) (bx:List Bx) (v:Value) (w:World) (ps es:List PV) (rows:List Bx) (e:Env):Prop where
 q:QT.app full Q bx.length (ps++es) rows w.heap.size
 v:v=zO9 full (zJw bx es) e ps
 m:Mem av [] w e (zJw bx es++rows)
 ok:∀ p∈ps,p.Ok w (zW av [] e (zJw bx es++rows))
 fix:∀ (k:Nat) (B:Bx),bx[k]?=some B->B.isArr=false->e.at k=some ((E.at k).getD 0)
 fresh:∀ (k b:Nat),e.at k=some b->w0.heap.size<=b\/(k<bx.length/\some b∈E)
 size:w0.heap.size<=w.heap.size
 old:∀ b,b<w0.heap.size->some b∉E->w.heap[b]?=w0.heap[b]?
 fz:∀ (b:Nat) (c:Array Value) (t:TypeId) (z:Nat × Nat),(w0.heap.size<=b\/some b∈E)->w.heap[b]?=some (.cells c t z)->Fz z
 ku:KU w0 w
 ns:∀ p∈es,p.refs=[]
 be:∀ p∈es,zTk w.heap.size p
def zVH (full:List Sh) (Q:QT full) (I:Nat) (av:Nat->Prop) (w0:World) (E:Env) (bx:List Bx):Ending->World->Prop
 | .returned v,w=>∃ ps es rows e,ps.length=I/\DoneB full Q av w0 E bx v w ps es rows e
 | _,_=>False
def zVv (P:Program) (f:FuncId):Nat:=match P.funcs[f]? with
 | some fn=>fn.resultTypes.size
 | none=>0
/-- how many results are told: a packed one, by its cells -/
def zJI (P:Program) (f:FuncId) (full:List Sh) (bx:List Bx):Nat:=match zEM full with
 | true=>full.length - 1 - (zOT bx).length
 | false=>zVv P f
/-- the boxes without what they hold -/
def zUz:PV->PV
 | .int k _=>.int k 0
 | .bool _=>.bool false
 | .str _=>.str ⟨#[]⟩
 | .sv _ z _ _=>.sv none z [] 0
 | .sb k z lo _ _=>.sb k z lo 0 0
 | p=>p
def xn:Bx->Bx
 | .var cs=>.var (cs.map zUz)
 | .vd _ n=>.vd default n
 | .arr t z _ _=>.arr t z [] 0
 | .gone=>.gone
structure BCalls (P:Program) (f:FuncId) (full:List Sh) (args:List PV) (bx:List Bx) (N:Nat) (Q:QT full):Prop where
 c:yW P f=true
 h : ∀ (av:Nat->Prop) (w0:World) (E:Env),w0.heap.size=N->Avl av w0 E->Mem av [] w0 E bx->(∀ k b,Lives [] E bx k b->¬av b) ->
   (∀ p∈args,p.Ok w0 (zW av [] E bx)/\∀ k∈p.refs,k<bx.length)->Calls P f (args.map (PV.val E)).toArray w0 (zVH full Q (zJI P f full (bx.map xn)) av w0 E (bx.map xn))
structure BPick (e ne:Env) (m:Nat) (B B':Bx):Prop where
 h : B'=.gone\/(B'=B/\∀ cs,B≠.var cs)\/∃ cs cs',B=.var cs/\B'=.var cs'/\cs'.length=cs.length/\∀ (i:Nat) (q:PV),cs'[i]?=some q->q=.any \/
   ∃ p,cs[i]?=some p/\(p=.any->q=.any)/\p.cv e=q.cv ne/\(∀ w live,p.Ok w live->q.Ok w live)/\(p.isC->q.isC)/\∀ r∈q.refs,r<m
theorem zIy {us:List (Option Nat)} {nb:List Bx} {av':Nat->Prop} {bx:List Bx} (h:Mem av pB w e bx) (aj:∀ b,av' b->zW av pB e bx b) (hl:nb.length=us.length)
  (ak:∀ (i j k:Nat),us[i]?=some (some k)->us[j]?=some (some k)->i=j)
  (hB:∀ (j:Nat) (B':Bx),nb[j]?=some B'->(us[j]?=some none/\∃ t z,B'=.arr t z [] 0)\/∃ k B,us[j]?=some (some k)/\k∉pB/\bx[k]?=some B/\BPick e (us.map (·.bind e.at)) us.length B B') :
  Mem av' [] w (us.map (·.bind e.at)) nb/\(∀ b,zW av' [] (us.map (·.bind e.at)) nb b->zW av pB e bx b)/\∀ j b,Lives [] (us.map (·.bind e.at)) nb j b->∃ k,us[j]?=some (some k)/\Lives pB e bx k b:=by
 have ac:∀ (j:Nat) (u:Option Nat),us[j]?=some u->Env.at (us.map (·.bind e.at)) j=u.bind e.at:=λj u hj=>by simp [Env.at,oA,hj]
 have J:∀ j b,Lives [] (us.map (·.bind e.at)) nb j b->∃ k,us[j]?=some (some k)/\Lives pB e bx k b:=λj b ⟨_,h2,B',h3,h4⟩=>by
  rcases hB j B' h3 with ⟨h5,_⟩ | ⟨k,B,h5,h6,h7,h8⟩
  ·rw [ac j _ h5] at h2;cases h2
  ·rw [ac j _ h5] at h2
   refine ⟨k,h5,h6,h2,B,h7,λhg=>h4 ?_⟩
   subst hg
   rcases h8.h with h9 | ⟨h9,_⟩ | ⟨cs,_,h9,_⟩
   ·exact h9
   ·exact h9
   ·cases h9
 have ab:∀ b,zW av' [] (us.map (·.bind e.at)) nb b->zW av pB e bx b:=λb hb=>hb.elim (aj b) λ⟨j,hj⟩=>by
  obtain ⟨k,_,h2⟩:=J j b hj;exact .inr ⟨k,h2⟩
 refine ⟨{
  el:=by simp [hl]
  br:=λj B' hj _=>?_
  bo:=λj B' hj _=>?_
  bf:=λj B' hj _ i hi=>?_
  inj:=λi j b hi hj=>?_ },ab,J⟩
 ·rcases hB j B' hj with ⟨h5,t,z,rfl⟩ | ⟨k,B,h5,h6,h7,h8⟩
  ·rw [ac j _ h5];exact .inl ⟨rfl,rfl,rfl⟩
  ·rw [ac j _ h5]
   have h9:=h.br k B h7 h6
   rcases h8.h with O | ⟨rfl,O⟩ | ⟨cs,cs',rfl,rfl,ae,aa⟩
   ·subst O;exact True.intro
   ·refine h9.congr (λ_ _=>rfl) λi hi=>?_
    cases B' with
    | var cs=>exact absurd rfl (O cs)
    | _=>simp [Bx.refs] at hi
   ·obtain ⟨b,c,t,g1,g2,g3,g4⟩:=h9
    refine ⟨b,c,t,g1,g2,g3.trans ae.symm,λi q hq=>?_⟩
    rcases aa i q hq with I | ⟨p,hp,I,ah,_⟩
    ·exact .inl I
    ·rcases g4 i p hp with h15 | h15
     ·exact .inl (I h15)
     ·exact .inr (by rw [<-ah];exact h15)
 ·rcases hB j B' hj with ⟨h5,t,z,rfl⟩ | ⟨k,B,h5,h6,h7,h8⟩
  ·intro x hx;simp at hx
  ·have h9:=(h.bo k B h7 h6).mono (w':=w) (live':=zW av' [] (us.map (·.bind e.at)) nb) (λ_ _ _=>rfl) (oB _) λb _=>ab b
   rcases h8.h with O | ⟨rfl,_⟩ | ⟨cs,cs',rfl,rfl,ae,aa⟩
   ·subst O;exact True.intro
   ·exact h9
   ·obtain ⟨g1,g2⟩:=h9
    rw [PV.OkL_iff] at g1
    refine ⟨PV.OkL_iff.2 λq hq=>?_,λq hq=>?_⟩
    ·obtain ⟨i,hi⟩:=oQ.1 hq
     rcases aa i q hi with I | ⟨p,hp,_,_,I,_⟩
     ·subst I;trivial
     ·exact I _ _ (g1 p (oC hp))
    ·obtain ⟨i,hi⟩:=oQ.1 hq
     rcases aa i q hi with I | ⟨p,hp,ah,_,_,I,_⟩
     ·exact .inl I
     ·rcases g2 p (oC hp) with h15 | h15
      ·exact .inl (ah h15)
      ·exact .inr (I h15)
 ·refine ⟨by simp,?_⟩
  rw [hl]
  rcases hB j B' hj with ⟨h5,t,z,rfl⟩ | ⟨k,B,h5,h6,h7,h8⟩
  ·simp [Bx.refs] at hi
  ·rcases h8.h with O | ⟨rfl,O⟩ | ⟨cs,cs',rfl,rfl,ae,aa⟩
   ·subst O;simp [Bx.refs] at hi
   ·cases B' with
    | var cs=>exact absurd rfl (O cs)
    | _=>simp [Bx.refs] at hi
   ·simp only [Bx.refs] at hi
    obtain ⟨q,hq,ai⟩:=PV.refsL_mem.1 hi
    obtain ⟨n,hn⟩:=oQ.1 hq
    rcases aa n q hn with I | ⟨p,hp,_,_,_,_,I⟩
    ·subst I;simp [PV.refs] at ai
    ·simpa using I i ai
 ·obtain ⟨k,h1,h2⟩:=J i b hi
  obtain ⟨l,h3,h4⟩:=J j b hj
  have al:=h.inj k l b h2 h4
  subst al
  exact ak i j k h1 h3
mutual
def PV.mapR (g:Nat->Nat):PV->PV
 | .pb k z i o=>.pb (g k) z i o
 | .sb k z lo n c=>.sb (g k) z lo n c
 | .fn f caps=>.fn f (PV.mapRL g caps)
 | .pg cs=>.pg (PV.mapRL g cs)
 | .tp cs=>.tp (PV.mapRL g cs)
 | p=>p
def PV.mapRL (g:Nat->Nat):List PV->List PV
 | []=>[]
 | p::ps=>PV.mapR g p::PV.mapRL g ps
end
mutual
theorem PV.mapR_refs (g:Nat->Nat):∀ p:PV,(p.mapR g).refs=p.refs.map g
 | .pb ..=>rfl
 | .sb ..=>rfl
 | .fn f caps=>by simp only [PV.mapR,PV.refs];exact PV.mapRL_refs g caps
 | .pg cs=>by simp only [PV.mapR,PV.refs];exact PV.mapRL_refs g cs
 | .tp cs=>by simp only [PV.mapR,PV.refs];exact PV.mapRL_refs g cs
 | .any=>rfl
 | .int ..=>rfl
 | .bool ..=>rfl
 | .str ..=>rfl
 | .lit ..=>rfl
 | .sv ..=>rfl
 | .d ..=>rfl
 | .dc ..=>rfl
 | .dg ..=>rfl
 | .pd ..=>rfl
theorem PV.mapRL_refs (g:Nat->Nat):∀ ps:List PV,PV.refsL (PV.mapRL g ps)=(PV.refsL ps).map g
 | []=>rfl
 | p::ps=>by simp only [PV.mapRL,PV.refsL,PV.mapR_refs g p,PV.mapRL_refs g ps,nW]
end
mutual
theorem PV.mapR_cv {g:Nat->Nat} {e e':Env}:∀ p:PV,(∀ k∈p.refs,e'.at (g k)=e.at k)->(p.mapR g).cv e'=p.cv e
 | .pb k z i o,h=>by simp only [PV.mapR,PV.cv,h k (by simp [PV.refs])]
 | .sb k z lo n c,h=>by simp only [PV.mapR,PV.cv,h k (by simp [PV.refs])]
 | .fn f caps,h=>by simp only [PV.mapR,PV.cv,PV.mapRL_cvs caps h]
 | .pg cs,h=>rfl
 | .tp cs,h=>rfl
 | .any,h=>rfl
 | .int ..,h=>rfl
 | .bool ..,h=>rfl
 | .str ..,h=>rfl
 | .lit ..,h=>rfl
 | .sv ..,h=>rfl
 | .d ..,h=>rfl
 | .dc ..,h=>rfl
 | .dg ..,h=>rfl
 | .pd ..,h=>rfl
theorem PV.mapRL_cvs {g:Nat->Nat} {e e':Env}:∀ ps:List PV,(∀ k∈PV.refsL ps,e'.at (g k)=e.at k)->PV.cvs e' (PV.mapRL g ps)=PV.cvs e ps
 | [],h=>rfl
 | p::ps,h=>by
   simp only [PV.mapRL,PV.cvs,PV.mapR_cv p λk I=>h k (by simp only [PV.refsL];exact oY _ I),PV.mapRL_cvs ps λk I=>h k (by simp only [PV.refsL];exact ow _ I)]
end
theorem PV.mapR_isC {g:Nat->Nat} {p:PV} (h:p.isC):(p.mapR g).isC:=by cases p<;>exact h
theorem PV.mapRL_mem {g:Nat->Nat} {q:PV}:∀ {ps:List PV},q∈PV.mapRL g ps->∃ p∈ps,q=p.mapR g
 | p::ps,h=>by
   simp only [PV.mapRL] at h
   rcases oH.1 h with h | h
   ·exact ⟨p,by simp,h⟩
   ·obtain ⟨r,I,J⟩:=PV.mapRL_mem h
    exact ⟨r,by simp [I],J⟩
mutual
theorem PV.mapR_ok {g:Nat->Nat} {w:World} {live:Nat->Prop}:∀ p:PV,p.Ok w live->(p.mapR g).Ok w live
 | .fn f caps,h=>by simp only [PV.mapR,PV.Ok] at h ⊢;exact PV.mapRL_ok caps h
 | .pg cs,h=>by
   simp only [PV.mapR,PV.Ok] at h ⊢
   exact ⟨PV.mapRL_ok cs h.1,λq I=>by obtain ⟨p,J,rfl⟩:=PV.mapRL_mem I;exact PV.mapR_isC (h.2 p J)⟩
 | .tp cs,h=>by simp only [PV.mapR,PV.Ok] at h ⊢;exact PV.mapRL_ok cs h
 | .pb ..,h=>trivial
 | .sb ..,h=>trivial
 | .any,h=>h
 | .int ..,h=>h
 | .bool ..,h=>h
 | .str ..,h=>h
 | .lit ..,h=>h
 | .sv ..,h=>h
 | .d ..,h=>h
 | .dc ..,h=>h
 | .dg ..,h=>h
 | .pd ..,h=>h
theorem PV.mapRL_ok {g:Nat->Nat} {w:World} {live:Nat->Prop}:∀ ps:List PV,PV.OkL w live ps->PV.OkL w live (PV.mapRL g ps)
 | [],h=>trivial
 | p::ps,h=>⟨PV.mapR_ok p h.1,PV.mapRL_ok ps h.2⟩
end
def Bx.mapR (g:Nat->Nat):Bx->Bx
 | .var cs=>.var (cs.map (PV.mapR g))
 | B=>B
theorem zPg:∀ {ks:List Nat} {j k:Nat},ks.Nodup->ks[j]?=some k->pos ks k=some j
 | x::xs,0,k,_,h=>by simp at h;subst h;simp [pos]
 | x::xs,j+1,k,J,h=>by
   obtain ⟨O,h2⟩:=nh.1 J
   simp only [nA] at h
   have I:¬x=k:=λhc=>O (hc ▸ oC h)
   simp [pos,I,zPg h2 h]
theorem zRY {ks:List Nat} {k:Nat} (h:pos ks k=none):k∉ks:=by
 induction ks with
 | nil=>simp
 | cons x xs J=>
   simp only [pos] at h
   split at h
   ·cases h
   ·rename_i I
    split at h
    ·cases h
    ·rename_i O
     simp at I
     simp only [oH,not_or]
     exact ⟨λhc=>I hc.symm,J O⟩
/-- the boxes, those named told anew -/
def bxN (ks:List Nat) (nb:List Bx):Nat->List Bx->List Bx
 | _,[]=>[]
 | i,B::bs=>(match pos ks i with
   | some j=>nb.getD j .gone
   | none=>B)::bxN ks nb (i+1) bs
theorem zL5 {ks:List Nat} {nb:List Bx}:∀ (bs:List Bx) (i k:Nat),(bxN ks nb i bs)[k]?=(bs[k]?).map λB=>match pos ks (i+k) with
  | some j=>nb.getD j .gone
  | none=>B
 | [],i,k=>rfl
 | B::bs,i,0=>by simp [bxN]
 | B::bs,i,k+1=>by
   simp only [bxN,nA]
   rw [zL5 bs (i+1) k,show i+1+k=i+(k+1) by omega]
theorem xv {ks:List Nat} {nb:List Bx}:∀ (bs:List Bx) (i:Nat),(bxN ks nb i bs).length=bs.length
 | [],i=>rfl
 | B::bs,i=>by simp [bxN,xv bs]
def zE6 (ks:List Nat) (e1 e:Env):Env:=(List.range e.length).map λk=>match pos ks k with
 | some j=>e1.at j
 | none=>e.at k
theorem zP2 {ks:List Nat} {e1 e:Env} {k:Nat} (h:k<e.length):(zE6 ks e1 e).at k=match pos ks k with
  | some j=>e1.at j
  | none=>e.at k:=by
 simp [zE6,Env.at,oA,h]
/-- behind a call that may have written the boxes named -/
structure Io (av:Nat->Prop) (pB:List Nat) (w w':World) (e:Env) (bx:List Bx) (ks:List Nat) (e1:Env) (nb rows:List Bx):Prop where
 nd:ks.Nodup
 kp:∀ k∈ks,k∉pB/\∃ B,bx[k]?=some B/\B≠.gone
 len:nb.length=ks.length
 el:ks.length<=e1.length
 m:Mem (fun b=>av b\/∃ k,k∉ks/\Lives pB e bx k b) [] w' e1 (nb++rows)
 arr:∀ B∈rows,B.row
 kind:∀ (j k:Nat) (B B':Bx),ks[j]?=some k->bx[k]?=some B->nb[j]?=some B'->B'.isArr=B.isArr
 refs:∀ B∈nb,∀ j∈B.refs,j<ks.length
 fix:∀ (j k:Nat) (B:Bx),ks[j]?=some k->bx[k]?=some B->B.isArr=false->e1.at j=e.at k
 fr:∀ j b,e1.at j=some b->w.heap.size<=b\/(j<ks.length/\∃ k∈ks,e.at k=some b)
 size:w.heap.size<=w'.heap.size
 hold:∀ b,b<w.heap.size->(∀ k∈ks,e.at k≠some b)->w'.heap[b]?=w.heap[b]?
 fz:∀ (b:Nat) (c:Array Value) (t:TypeId) (z:Nat × Nat),(w.heap.size<=b\/∃ k∈ks,e.at k=some b)->w'.heap[b]?=some (.cells c t z)->Fz z
 ku:KU w w'
theorem zUB (h:Rel av w0 e0 pS pB a w e st) {ks:List Nat} {e1:Env} {nb rows:List Bx} (io:Io av pB w w' e st.bx ks e1 nb rows)
  (hS:∀ (i:Nat) (p:PV),st.sl[i]?=some p->∀ k∈ks,(st.bx.getD k .gone).isArr=true->k∉p.refs)
  (bw:∀ (j:Nat) (B:Bx),st.bx[j]?=some B->j∉ks->∀ k∈ks,(st.bx.getD k .gone).isArr=true->k∉B.refs)
  (bg:∀ k∈ks,(st.bx.getD k .gone).isArr=true->∀ b,st.pins[k]?≠some (some b))
  (bh:(∀ k∈ks,(st.bx.getD k .gone).isArr=true->st.pins.length<=k)\/∀ k∈ks,(st.bx.getD k .gone).isArr=true->k<st.pins.length) :
  Rel av w0 e0 pS pB a w' (zE6 ks e1 e++e1.drop ks.length) { st with bx:=bxN ks (nb.map (Bx.mapR λj=>ks.getD j 0)) 0 st.bx++rows,N:=w'.heap.size } /\
  ∀ d:D,Good w' (zW (λb=>av b\/∃ k,k∉ks/\Lives pB e st.bx k b) [] e1 (nb++rows)) d->Good w' (zW av pB (zE6 ks e1 e++e1.drop ks.length) (bxN ks (nb.map (Bx.mapR λj=>ks.getD j 0)) 0 st.bx++rows)) d:=by
 have ay:(zE6 ks e1 e).length=st.bx.length:=by simp [zE6,h.el]
 have a7:∀ k,k<st.bx.length->Env.at (zE6 ks e1 e++e1.drop ks.length) k=match pos ks k with
  | some j=>e1.at j
  | none=>e.at k:=λk J=>by rw [Env.at_app,if_pos (by rw [ay];exact J),zP2 (by rw [h.el];exact J)]
 have a8:∀ i,Env.at (zE6 ks e1 e++e1.drop ks.length) (st.bx.length+i)=e1.at (ks.length+i):=λi=>by
  rw [Env.at_app,if_neg (by rw [ay];omega),ay]
  simp [Env.at,oA]
 have bi:∀ k∈ks,k<st.bx.length:=λk J=>by obtain ⟨_,B,h1,_⟩:=io.kp k J;exact (oD.1 h1).1
 have bj:∀ j k,ks[j]?=some k->pos ks k=some j:=λj k hj=>zPg io.nd hj
 have ak:∀ j k,ks[j]?=some k->Env.at (zE6 ks e1 e++e1.drop ks.length) k=e1.at j:=λj k hj=>by
  rw [a7 k (bi k (oC hj)),bj j k hj]
 have ao:∀ k,k<st.bx.length->k∉ks->Env.at (zE6 ks e1 e++e1.drop ks.length) k=e.at k:=λk J hn=>by
  rw [a7 k J]
  cases hp:pos ks k with
  | none=>rfl
  | some j=>exact absurd (oC (zAH hp)) hn
 have ae:∀ k b,k∈ks->e.at k=some b->Lives pB e st.bx k b:=λk b J hb=>by
  obtain ⟨h1,B,h2,h3⟩:=io.kp k J
  exact ⟨h1,hb,B,h2,h3⟩
 have al:∀ (k:Nat) (B':Bx),(bxN ks (nb.map (Bx.mapR λj=>ks.getD j 0)) 0 st.bx++rows)[k]?=some B' ->
   (k∉ks/\st.bx[k]?=some B')\/(∃ (j:Nat) (B:Bx),ks[j]?=some k/\nb[j]?=some B/\B'=B.mapR λj=>ks.getD j 0)\/∃ i,k=st.bx.length+i/\rows[i]?=some B':=λk B' J=>by
  by_cases ah:k<st.bx.length
  ·rw [oN (by rw [xv];exact ah),zL5,oF ah] at J
   simp only [oe,nM,o4] at J
   cases hp:pos ks k with
   | none=>
     rw [hp] at J
     exact .inl ⟨zRY hp,by rw [oF ah];exact nL some J⟩
   | some j=>
     rw [hp] at J
     have hj:=zAH hp
     have az:j<nb.length:=by rw [io.len];exact (oD.1 hj).1
     refine .inr (.inl ⟨j,nb[j],hj,oF az,?_⟩)
     have bz:(nb.map (Bx.mapR λj=>ks.getD j 0)).getD j .gone=B':=J
     rw [<-bz,oA,oI,oF az];rfl
  ·rw [oP (by rw [xv];omega),xv] at J
   exact .inr (.inr ⟨k - st.bx.length,by omega,J⟩)
 have b1:∀ (B:Bx),Bx.mapR (λj=>ks.getD j 0) B≠Bx.gone->B≠Bx.gone:=λB hB hc=>hB (by rw [hc];rfl)
 have O:∀ k b,Lives pB (zE6 ks e1 e++e1.drop ks.length) (bxN ks (nb.map (Bx.mapR λj=>ks.getD j 0)) 0 st.bx++rows) k b ->
   (k∉ks/\Lives pB e st.bx k b)\/(∃ j,ks[j]?=some k/\Lives [] e1 (nb++rows) j b)\/∃ i,k=st.bx.length+i/\Lives [] e1 (nb++rows) (ks.length+i) b:=λk b ⟨h1,h2,B',h3,h4⟩=>by
  rcases al k B' h3 with ⟨g1,I⟩ | ⟨j,B,g1,I,g3⟩ | ⟨i,rfl,I⟩
  ·rw [ao k (oD.1 I).1 g1] at h2
   exact .inl ⟨g1,h1,h2,B',I,h4⟩
  ·rw [ak j k g1] at h2
   have az:j<nb.length:=(oD.1 I).1
   exact .inr (.inl ⟨j,g1,by simp,h2,B,by rw [oN az];exact I,b1 B (g3 ▸ h4)⟩)
  ·rw [a8] at h2
   exact .inr (.inr ⟨i,rfl,by simp,h2,B',by rw [oP (by rw [io.len];omega),io.len];simpa using I,h4⟩)
 -- a block of a box that was handed on, or a new one
 have aa:∀ j b,Lives [] e1 (nb++rows) j b->w.heap.size<=b\/(j<ks.length/\∃ k∈ks,e.at k=some b):=λj b hj=>io.fr j b hj.2.1
 have aq:∀ b,b<w.heap.size->zW av pB (zE6 ks e1 e++e1.drop ks.length) (bxN ks (nb.map (Bx.mapR λj=>ks.getD j 0)) 0 st.bx++rows) b->zW av pB e st.bx b:=λb hb hl=>hl.elim .inl λ⟨k,J⟩=>by
  rcases O k b J with ⟨_,g⟩ | ⟨j,_,g⟩ | ⟨i,_,g⟩
  ·exact .inr ⟨k,g⟩
  ·rcases aa j b g with I | ⟨_,k2,I,g3⟩
   ·omega
   ·exact .inr ⟨k2,ae k2 b I g3⟩
  ·rcases aa _ b g with I | ⟨I,_⟩<;>omega
 have ac:∀ b,zW av pB (zE6 ks e1 e++e1.drop ks.length) (bxN ks (nb.map (Bx.mapR λj=>ks.getD j 0)) 0 st.bx++rows) b->zW (λb=>av b\/∃ k,k∉ks/\Lives pB e st.bx k b) [] e1 (nb++rows) b:=λb hl=>by
  rcases hl with hl | ⟨k,J⟩
  ·exact .inl (.inl hl)
  rcases O k b J with ⟨g1,g⟩ | ⟨j,_,g⟩ | ⟨i,_,g⟩
  ·exact .inl (.inr ⟨k,g1,g⟩)
  ·exact .inr ⟨j,g⟩
  ·exact .inr ⟨_,g⟩
 have au:∀ b,b<w.heap.size->¬zW av pB e st.bx b->w'.heap[b]?=w.heap[b]?:=λb hb hn=>io.hold b hb λk J hc=>hn (.inr ⟨k,ae k b J hc⟩)
 have bb:∀ d:D,Good w' (zW (λb=>av b\/∃ k,k∉ks/\Lives pB e st.bx k b) [] e1 (nb++rows)) d->Good w' (zW av pB (zE6 ks e1 e++e1.drop ks.length) (bxN ks (nb.map (Bx.mapR λj=>ks.getD j 0)) 0 st.bx++rows)) d:=
  λd hd=>hd.mono (λ_ _ _=>rfl) λb _ hb=>ac b hb
 have ai:∀ (R:List Nat),(∀ k∈R,k<st.bx.length)->(∀ k∈ks,(st.bx.getD k .gone).isArr=true->k∉R)->∀ k∈R,Env.at (zE6 ks e1 e++e1.drop ks.length) k=e.at k:=λR b2 b3 k J=>by
  by_cases am:k∈ks
  ·obtain ⟨j,hj⟩:=oQ.1 am
   obtain ⟨_,B,g1,_⟩:=io.kp k am
   rw [ak j k hj]
   refine io.fix j k B hj g1 ?_
   cases hb:B.isArr with
   | false=>rfl
   | true=>exact absurd J (b3 k am (by rw [oA,g1];exact hb))
  ·exact ao k (b2 k J) am
 have bm:∀ q:PV,(∀ j∈q.refs,j<ks.length)->∀ k∈q.refs,Env.at (zE6 ks e1 e++e1.drop ks.length) (ks.getD k 0)=e1.at k:=λq hq k J=>by
  have ah:=hq k J
  refine ak k _ ?_
  rw [oA,oF ah];rfl
 have bc:∀ (j:Nat) (B:Bx),st.bx[j]?=some B->j∉pB->j∉ks->∀ b,e.at j=some b->B≠.gone->w'.heap[b]?=w.heap[b]?:=λj B hj hn b4 b hb hg=>by
  have hl:Lives pB e st.bx j b:=⟨hn,hb,B,hj,hg⟩
  exact io.hold b (Lives.lt h.toMem hl) λk J hc=>b4 (h.inj j k b hl (ae k b J hc) ▸ J)
 have aj:∀ (i:Nat) (B:Bx),rows[i]?=some B->(nb++rows)[ks.length+i]?=some B/\B.refs=[]:=λi B hi=>by
  exact ⟨by rw [oP (by rw [io.len];omega),io.len];simpa using hi,(io.arr B (oC hi)).sp.2⟩
 have aw:∀ (j:Nat) (B:Bx),nb[j]?=some B->(nb++rows)[j]?=some B:=λj B hj=>by rw [oN (oD.1 hj).1];exact hj
 refine ⟨?_,bb⟩
 exact {
  el:=by
   simp only [oE,ay,xv,mI]
   have:=io.m.el
   simp only [oE,io.len] at this
   omega
  br := λk B' J hn=>by
   rcases al k B' J with ⟨g1,I⟩ | ⟨j,B,g1,I,rfl⟩ | ⟨i,rfl,I⟩
   ·rw [ao k (oD.1 I).1 g1]
    by_cases hg:B'=.gone
    ·subst hg;exact True.intro
    ·refine (h.br k B' I hn).congr (λb hb=>bc k B' I hn g1 b hb hg) λi hi=>?_
     exact ai B'.refs (λk J=>(h.bf _ B' I hn k J).2) (λk2 ab ha=>bw k B' I g1 k2 ab ha) i hi
   ·rw [ak j k g1]
    have h1:=io.m.br j B (aw j B I) (by simp)
    have h2:=io.refs B (oC I)
    cases B with
    | var cs=>
      obtain ⟨b,c,t,q1,q2,q3,q4⟩:=h1
      refine ⟨b,c,t,q1,q2,by simpa using q3,λi p hp=>?_⟩
      rw [oI] at hp
      cases a6:cs[i]? with
      | none=>simp [a6] at hp
      | some q=>
        simp only [a6,oe,o4] at hp
        subst hp
        have hr:∀ j∈q.refs,j<ks.length:=λj hj=>h2 j (by simp only [Bx.refs];exact PV.refsL_mem.2 ⟨q,oC a6,hj⟩)
        rcases q4 i q a6 with q5 | q5
        ·subst q5;exact .inl rfl
        ·exact .inr (by rw [PV.mapR_cv q (bm q hr)];exact q5)
    | vd x n=>exact h1
    | arr t z es c=>exact h1
    | gone=>exact True.intro
   ·rw [a8]
    obtain ⟨q1,q2⟩:=aj i B' I
    exact (io.m.br _ B' q1 (by simp)).congr (λ_ _=>rfl) λj hj=>by rw [q2] at hj;simp at hj
  bo:=λk B' J hn=>by
   rcases al k B' J with ⟨g1,I⟩ | ⟨j,B,g1,I,rfl⟩ | ⟨i,rfl,I⟩
   ·exact (h.bo k B' I hn).mono au io.size aq
   ·have h1:=(io.m.bo j B (aw j B I) (by simp)).mono (w':=w') (λ_ _ _=>rfl) (oB _) λb _=>ac b
    cases B with
    | var cs=>
      obtain ⟨q1,q2⟩:=h1
      rw [PV.OkL_iff] at q1
      refine ⟨PV.OkL_iff.2 λp hp=>?_,λp hp=>?_⟩
      ·obtain ⟨q,hq,rfl⟩:=oU.1 hp
       exact PV.mapR_ok q (q1 q hq)
      ·obtain ⟨q,hq,rfl⟩:=oU.1 hp
       rcases q2 q hq with q3 | q3
       ·subst q3;exact .inl rfl
       ·exact .inr (PV.mapR_isC q3)
    | vd x n=>exact h1
    | arr t z es c=>exact h1
    | gone=>exact True.intro
   ·exact (io.m.bo _ B' (aj i B' I).1 (by simp)).mono (λ_ _ _=>rfl) (oB _) λb _=>ac b
  bf:=λk B' J hn i hi=>by
   simp only [oE,xv]
   rcases al k B' J with ⟨g1,I⟩ | ⟨j,B,g1,I,rfl⟩ | ⟨i,rfl,I⟩
   ·have:=h.bf k B' I hn i hi;exact ⟨this.1,by omega⟩
   ·cases B with
    | var cs=>
      simp only [Bx.mapR,Bx.refs] at hi
      obtain ⟨p,hp,bn⟩:=PV.refsL_mem.1 hi
      obtain ⟨q,hq,rfl⟩:=oU.1 hp
      rw [PV.mapR_refs] at bn
      obtain ⟨r,hr,rfl⟩:=oU.1 bn
      have bp:=io.refs _ (oC I) r (by simp only [Bx.refs];exact PV.refsL_mem.2 ⟨q,hq,hr⟩)
      have ba:ks.getD r 0∈ks:=by rw [oA,oF bp];exact nz bp
      exact ⟨(io.kp _ ba).1,by have:=bi _ ba;omega⟩
    | vd x n=>simp [Bx.mapR,Bx.refs] at hi
    | arr t z es c=>simp [Bx.mapR,Bx.refs] at hi
    | gone=>simp [Bx.mapR,Bx.refs] at hi
   ·rw [(aj _ B' I).2] at hi;simp at hi
  inj:=λi j b hi hj=>by
   have key:∀ k j,k∉ks->Lives pB e st.bx k b->¬Lives [] e1 (nb++rows) j b:=λk j J h1 h2=>by
    rcases aa j b h2 with h3 | ⟨_,k2,h3,h4⟩
    ·have:=Lives.lt h.toMem h1;omega
    ·exact J (h.inj k k2 b h1 (ae k2 b h3 h4) ▸ h3)
   rcases O i b hi with ⟨g1,I⟩ | ⟨i1,g1,I⟩ | ⟨i1,g1,I⟩
   ·rcases O j b hj with ⟨q1,q2⟩ | ⟨j1,q1,q2⟩ | ⟨j1,q1,q2⟩
    ·exact h.inj i j b I q2
    ·exact absurd q2 (key i j1 g1 I)
    ·exact absurd q2 (key i _ g1 I)
   ·rcases O j b hj with ⟨q1,q2⟩ | ⟨j1,q1,q2⟩ | ⟨j1,q1,q2⟩
    ·exact absurd I (key j i1 q1 q2)
    ·have:=io.m.inj i1 j1 b I q2
     subst this
     rw [g1] at q1;exact nB q1
    ·have:=io.m.inj _ _ b I q2
     have:=(oD.1 g1).1
     omega
   ·rcases O j b hj with ⟨q1,q2⟩ | ⟨j1,q1,q2⟩ | ⟨j1,q1,q2⟩
    ·exact absurd I (key j _ q1 q2)
    ·have:=io.m.inj _ _ b I q2
     have:=(oD.1 q1).1
     omega
    ·have:=io.m.inj _ _ b I q2
     omega
  ku:=h.ku.trans io.ku
  size:=oZ h.size io.size
  old:=λb hb hn=>by
   refine (io.hold b (o5 hb h.size) λk J hc=>?_).trans (h.old b hb hn)
   rcases h.own k b (ae k b J hc) with h1 | h1
   ·omega
   ·exact hn h1.1
  fz := λb c t z hb hc=>by
   by_cases ah:b<w.heap.size
   ·by_cases J:∃ k∈ks,e.at k=some b
    ·exact io.fz b c t z (.inr J) hc
    ·rw [io.hold b ah λk ab b5=>J ⟨k,ab,b5⟩] at hc
     exact h.fz b c t z hb hc
   ·exact io.fz b c t z (.inl (by omega)) hc
  nd:=h.nd
  sz:=h.sz
  hN:=oB _
  hs:=λi p hi hn=>by
   rcases h.hs i p hi hn with h1 | h1
   ·exact .inl h1
   ·refine .inr (h1.trans (PV.val_congr p λk J=>?_).symm)
    exact ai p.refs (λk J=>(h.sr i p hi hn k J).2) (λk2 ab ha=>hS i p hi k2 ab ha) k J
  so:=λi p hi hn=>PV.Ok.mono au io.size aq p (h.so i p hi hn)
  sr:=λi p hi hn k J=>by have:=h.sr i p hi hn k J;exact ⟨this.1,by simp only [oE,xv];omega⟩
  own := λk b J=>by
   show _\/(_/\k<st.pins.length)
   rcases O k b J with ⟨_,g⟩ | ⟨j,g1,g⟩ | ⟨i,_,g⟩
   ·exact h.own k b g
   ·rcases aa j b g with I | ⟨_,k2,I,g3⟩
    ·have:=h.size;exact .inl (by omega)
    ·obtain ⟨_,B,q1,q2⟩:=io.kp k (oC g1)
     obtain ⟨_,B2,q3,q4⟩:=io.kp k2 I
     cases hb:B.isArr with
     | false=>
       have q5:=io.fix j k B g1 q1 hb
       rw [g.2.1] at q5
       exact h.own k b (ae k b (oC g1) q5.symm)
     | true=>
       obtain ⟨j2,g4⟩:=oQ.1 I
       have b6:(st.bx.getD k .gone).isArr=true:=by rw [oA,q1];exact hb
       cases ax:B2.isArr with
       | false=>
         have q5:=io.fix j2 k2 B2 g4 q3 ax
         have b7:j2<nb.length:=by rw [io.len];exact (oD.1 g4).1
         have bq:nb[j2]?=some nb[j2]:=oF b7
         have ab:=io.kind j2 k2 B2 _ g4 q3 bq
         have b8:Lives [] e1 (nb++rows) j2 b:=⟨by simp,q5.trans g3,_,aw j2 _ bq,λhc=>by rw [hc,ax] at ab;cases ab⟩
         have:=io.m.inj j j2 b g b8
         subst this
         rw [g1] at g4;cases g4
         rw [q1] at q3;cases q3
         rw [hb] at ax;cases ax
       | true=>
         have bt:(st.bx.getD k2 .gone).isArr=true:=by rw [oA,q3];exact ax
         rcases h.own k2 b (ae k2 b I g3) with q5 | ⟨q5,q6⟩
         ·exact .inl q5
         ·rcases bh with q7 | q7
          ·have:=q7 k2 I bt;omega
          ·exact .inr ⟨q5,q7 k (oC g1) b6⟩
   ·rcases aa _ b g with I | ⟨I,_⟩
    ·have:=h.size;exact .inl (by omega)
    ·omega
  avl:=h.avl
  avn:=λk b J bd=>by
   have ah:b<w.heap.size:=o5 (h.avl.lt b bd) h.size
   rcases O k b J with ⟨_,g⟩ | ⟨j,g1,g⟩ | ⟨i,_,g⟩
   ·exact h.avn k b g bd
   ·rcases aa j b g with I | ⟨_,k2,I,g3⟩
    ·omega
    ·exact h.avn k2 b (ae k2 b I g3) bd
   ·rcases aa _ b g with I | ⟨I,_⟩<;>omega
  pin:=λk b hb=>by
   have bv:st.pins[k]?=some (some b):=hb
   obtain ⟨h1,h2⟩:=h.pin k b bv
   refine ⟨?_,h2⟩
   have J:k<st.bx.length:=by
    rw [<-h.el]
    exact lJ λhc=>by rw [Env.at_ge hc] at h1;cases h1
   rw [<-h1]
   exact ai [k] (λi hi=>by simp at hi;subst hi;exact J) (λk2 ab ha hc=>by simp at hc;subst hc;exact bg k2 ab ha b bv) k (by simp)
  pit:=h.pit }
variable {av:Nat->Prop} {P:Program} {w0 w w':World} {e0 e:Env} {pS pS' pB pB':List Nat} {a:Act} {st st':St}
def zVf (ks:List Nat) (p:PV):Option PV:=match p with
 | .fn f caps=>(PV.fn f caps).ren ks
 | p=>match p.refs with
   | []=>qe p
   | _=>p.ren ks
def zNz (ks:List Nat):List PV->Option (List PV)
 | []=>some []
 | p::ps=>match zVf ks p,zNz ks ps with
   | some q,some qs=>some (q::qs)
   | _,_=>none
def zM3:Bx->Bool
 | .gone=>true
 | _=>false
def okB (st:St) (ks:List Nat):Bool:=
 (ks.all fun k=>match st.bx[k]? with
  | some B=>!zM3 B&&(!B.isArr||!zDs st k)
  | none=>false)&&Nat.ble ks.length st.bx.length &&
 ((ks.all fun k=>!(st.bx.getD k .gone).isArr||Nat.ble st.pins.length k)||ks.all fun k=>!(st.bx.getD k .gone).isArr||Nat.blt k st.pins.length)
/-- what names a row that is handed on is forgotten -/
def vG (bx:List Bx):List Nat->St->St
 | [],st=>st
 | k::ks,st=>match (bx.getD k .gone).isArr with
   | true=>vG bx ks (st.kill k)
   | false=>vG bx ks st
def vK (st:St) (ks:List Nat):List Bx:=ks.map λk=>(st.bx.getD k .gone).ren ks
def zVK (st:St) (ks:List Nat) (nb rows:List Bx) (N:Nat):St:=
 { vG st.bx ks st with bx:=bxN ks (nb.map (Bx.mapR λj=>ks.getD j 0)) 0 (vG st.bx ks st).bx++rows,N:=N }
def jOf:List PV->Nat
 | .sb k _ _ _ _::_=>k
 | _=>0
def rsJ (as:List PV):List Sh->List Sh
 | .bk _::l=>.bk (jOf as)::l
 | l=>l
def zUa (rs:List Sh) (U:List Bx) (ks:List Nat) (ps:List PV):PV:=match rs with
 | .bk j::_=>match U[j]? with
   | some (.arr _ z es c)=>.sb (ks.getD j 0) z 0 es.length c
   | _=>.any
 | _=>zHG (zEM rs) ps
/-- as many as are told of the results -/
def zGO (rs:List Sh):Nat:=match zEM rs with
 | true=>rs.length - 1
 | false=>rs.length
theorem zIs:∀ (cs:List PV) (s:Sh),s∈zS5 cs->∀ j,s≠.bk j
 | p::cs,s,h,j=>by
   simp only [zS5] at h
   split at h
   ·rename_i I hs
    rcases oH.1 h with rfl | h
    ·cases p<;>simp [zDV] at hs<;>subst hs<;>simp
    ·exact zIs cs s h j
   ·exact zIs cs s h j
theorem zSZ (bx:List Bx) (s:Sh) (h:s∈zOT bx):∀ j,s≠.bk j:=by
 simp only [zOT,ny] at h
 obtain ⟨B,_,h⟩:=h
 cases B with
 | var cs=>exact zIs cs s h
 | vd x n=>simp [zTD] at h;subst h;simp
 | arr t z es c=>simp [zTD] at h;subst h;simp
 | gone=>simp [zTD] at h
theorem zI0:∀ (cs:List PV) (s:Sh),s∈zS5 cs->s≠.pk
 | p::cs,s,h=>by
   simp only [zS5] at h
   split at h
   ·rename_i I hs
    rcases oH.1 h with rfl | h
    ·cases p<;>simp [zDV] at hs<;>subst hs<;>simp
    ·exact zI0 cs s h
   ·exact zI0 cs s h
theorem zSN (bx:List Bx) (s:Sh) (h:s∈zOT bx):s≠.pk:=by
 simp only [zOT,ny] at h
 obtain ⟨B,_,h⟩:=h
 cases B with
 | var cs=>exact zI0 cs s h
 | vd x n=>simp [zTD] at h;subst h;simp
 | arr t z es c=>simp [zTD] at h;subst h;simp
 | gone=>simp [zTD] at h
theorem zJl (l:List Sh) (bx:List Bx):zEM (l++zOT bx)=zEM l:=by
 cases l with
 | cons s l=>cases s<;>rfl
 | nil=>
   rw [oW]
   cases h:zOT bx with
   | nil=>rfl
   | cons s l=>have:=zSN bx s (by rw [h];simp);cases s<;>first | rfl | exact absurd rfl this
theorem zSB (as:List PV) (rs:List Sh):zEM (rsJ as rs)=zEM rs:=by unfold rsJ;split<;>rfl
theorem zS9 (as:List PV) (rs:List Sh):(rsJ as rs).length=rs.length:=by unfold rsJ;split<;>simp
def zPD (P:Program) (rs:List Sh) (st:St) (dst:Option Nat) (f:FuncId) (I:List PV) (ks:List Nat) (K:St->Prop):Prop:=
 match zNz ks I,okB st ks&&Nat.beq (zGO rs) (zJI P f (rs++zOT (vK st ks)) ((vK st ks).map xn)) with
 | some as,true=>∀ N1,st.N<=N1->BCalls P f (rsJ as rs++zOT (vK st ks)) as (vK st ks) N1 (QT.lam (rsJ as rs++zOT (vK st ks)) st.bx.length λps rows N2=>N1<=N2 ->
  zQv N2 ps (zT5 N2 rows (K (St.put (zVK st ks (zJw ((vK st ks).map xn) (ps.drop (zGO rs))) rows N2) dst (zUa (rsJ as rs) (zJw ((vK st ks).map xn) (ps.drop (zGO rs))) ks (ps.take (zGO rs)))))))
 | _,_=>False
def zUF (P:Program) (rs:List Sh) (st:St) (dst:Option Nat) (x:Operand) (args:List PV) (K:St->Prop):Prop:=
 match zQy (opd st.sl x) with
 | some (f,caps)=>match caps.all PV.isCap with
   | true=>zPD P rs st dst f (args++caps) (zAh st.bx 200 (PV.refsL (args++caps)) []) K
   | false=>False
 | none=>False
theorem zNv {k j:Nat}:(st.kill k).bx[j]?=(st.bx[j]?).map (Bx.kill k):=by simp [St.kill]
theorem zP5 {k:Nat} {B:Bx}:B.kill k=.gone↔B=.gone:=by cases B<;>simp [Bx.kill]
theorem zOt {k:Nat} {B:Bx}:(B.kill k).isArr=B.isArr:=by cases B<;>rfl
theorem rI {bx:List Bx}:∀ (ks:List Nat) (st:St) (j:Nat),((vG bx ks st).bx[j]?=none↔st.bx[j]?=none)/\∀ B,st.bx[j]?=some B->∃ B',(vG bx ks st).bx[j]?=some B'/\(B'=.gone↔B=.gone)/\B'.isArr=B.isArr
 | [],st,j=>⟨mw,λB h=>⟨B,h,mw,rfl⟩⟩
 | k::ks,st,j=>by
   simp only [vG]
   split
   ·obtain ⟨I,J⟩:=rI ks (st.kill k) j
    refine ⟨by rw [I,zNv];simp,λB O=>?_⟩
    obtain ⟨B',h3,h4,h5⟩:=J (B.kill k) (by rw [zNv,O];rfl)
    exact ⟨B',h3,h4.trans zP5,h5.trans zOt⟩
   ·exact rI ks st j
theorem zCy {bx:List Bx}:∀ (ks:List Nat) (st:St),(vG bx ks st).pins=st.pins
 | [],st=>rfl
 | k::ks,st=>by
   simp only [vG]
   split
   ·rw [zCy ks];rfl
   ·exact zCy ks st
theorem zFt {bx:List Bx}:∀ (ks:List Nat) (st:St),Rel av w0 e0 pS pB a w e st->Rel av w0 e0 pS pB a w e (vG bx ks st)
 | [],st,h=>h
 | k::ks,st,h=>by
   simp only [vG]
   split
   ·exact zFt ks _ (zNP h (pe k st))
   ·exact zFt ks st h
theorem zNZ {k:Nat}:(∀ (i:Nat) (p:PV),(st.kill k).sl[i]?=some p->p=.any\/st.sl[i]?=some p)/\∀ (j:Nat) (B:Bx) (r:Nat),(st.kill k).bx[j]?=some B->r∈B.refs->∃ B',st.bx[j]?=some B'/\r∈B'.refs:=by
 constructor
 ·intro i p hi
  exact (pe k st).sl i p hi
 ·intro j B r O J
  obtain ⟨B',h1,h2⟩:=(pe k st).bx j B O
  refine ⟨B',h1,?_⟩
  rcases h2 with rfl | rfl | ⟨cs,cs',rfl,rfl,h3,h4⟩
  ·simp [Bx.refs] at J
  ·exact J
  ·simp only [Bx.refs] at J ⊢
   obtain ⟨p,hp,I⟩:=PV.refsL_mem.1 J
   obtain ⟨i,hi⟩:=oQ.1 hp
   rcases h4 i p hi with rfl | h5
   ·simp [PV.refs] at I
   ·exact PV.refsL_mem.2 ⟨p,oC h5,I⟩
theorem zFS {bx:List Bx}:∀ (ks:List Nat) (st:St),(∀ (i:Nat) (p:PV),(vG bx ks st).sl[i]?=some p->p=.any\/st.sl[i]?=some p)/\∀ (j:Nat) (B:Bx) (r:Nat),(vG bx ks st).bx[j]?=some B->r∈B.refs->∃ B',st.bx[j]?=some B'/\r∈B'.refs
 | [],st=>⟨λi p h=>.inr h,λj B r h I=>⟨B,h,I⟩⟩
 | k :: ks,st=>by
   simp only [vG]
   split
   ·obtain ⟨J,O⟩:=zFS ks (st.kill k)
    refine ⟨λi p hi=>?_,λj B r hj I=>?_⟩
    ·rcases J i p hi with h3 | h3
     ·exact .inl h3
     ·exact zNZ.1 i p h3
    ·obtain ⟨B',h3,h4⟩:=O j B r hj I
     exact zNZ.2 j B' r h3 h4
   ·exact zFS ks st
theorem zAQ {bx:List Bx}:∀ (ks:List Nat) (st:St),∀ k∈ks,(bx.getD k .gone).isArr=true->(∀ (i:Nat) (p:PV),(vG bx ks st).sl[i]?=some p->k∉p.refs)/\∀ (j:Nat) (B:Bx),(vG bx ks st).bx[j]?=some B->k∉B.refs
 | [],st,k,h,_=>by simp at h
 | k'::ks,st,k,h,I=>by
   simp only [vG]
   rcases oH.1 h with rfl | h
   ·rw [I]
    obtain ⟨J,O⟩:=zFS (bx:=bx) ks (st.kill k)
    refine ⟨λi p hi hc=>?_,λj B hj hc=>?_⟩
    ·rcases J i p hi with rfl | h3
     ·simp [PV.refs] at hc
     ·exact zGa.1 i p h3 hc
    ·obtain ⟨B',h3,h4⟩:=O j B k hj hc
     exact zGa.2 j B' h3 h4
   ·split
    ·exact zAQ ks _ k h I
    ·exact zAQ ks st k h I
theorem zE5 {bx:List Bx}:∀ (ks:List Nat) (st:St),(vG bx ks st).bx.length=st.bx.length/\(vG bx ks st).sl.length=st.sl.length
 | [],st=>⟨rfl,rfl⟩
 | k::ks,st=>by
   simp only [vG]
   split
   ·have:=zE5 (bx:=bx) ks (st.kill k)
    simpa [St.kill] using this
   ·exact zE5 ks st
theorem zGJ:∀ (cs es:List PV),(∀ p∈es,p.refs=[])->(∀ q∈(zMU cs es).1,q.refs=[]\/q∈cs)/\∀ q∈(zMU cs es).2,q∈es
 | [],es,h=>⟨by simp [zMU],by simp [zMU]⟩
 | p::ps,es,h=>by
   simp only [zMU]
   split
   ·cases es with
    | nil=>simp
    | cons q es=>
      obtain ⟨I,J⟩:=zGJ ps es λx hx=>h x (by simp [hx])
      refine ⟨λx hx=>?_,λx hx=>by simp [J x hx]⟩
      rcases oH.1 hx with rfl | hx
      ·exact .inl (h _ (by simp))
      ·exact (I x hx).imp id λO=>by simp [O]
   ·obtain ⟨I,J⟩:=zGJ ps es h
    refine ⟨λx hx=>?_,J⟩
    rcases oH.1 hx with rfl | hx
    ·exact .inr (by simp)
    ·exact (I x hx).imp id λO=>by simp [O]
theorem zQq (B:Bx) (es:List PV) (h:∀ p∈es,p.refs=[]):(∀ j∈(zNj B es).1.refs,j∈B.refs)/\(zNj B es).1.isArr=B.isArr/\∀ q∈(zNj B es).2,q∈es:=by
 cases B with
 | var cs=>
   obtain ⟨h1,h2⟩:=zGJ cs es h
   refine ⟨λj O=>?_,rfl,h2⟩
   simp only [zNj,Bx.refs] at O ⊢
   obtain ⟨q,I,J⟩:=PV.refsL_mem.1 O
   rcases h1 q I with h3 | h3
   ·rw [h3] at J;simp at J
   ·exact PV.refsL_mem.2 ⟨q,h3,J⟩
 | vd y n=>
   simp only [zNj]
   split
   ·exact ⟨by simp [Bx.refs],rfl,λq I=>by simp [I]⟩
   ·exact ⟨by simp [Bx.refs],rfl,by simp⟩
 | arr t z y n=>
   simp only [zNj]
   split
   ·exact ⟨by simp [Bx.refs],rfl,λq I=>by simp [I]⟩
   ·exact ⟨by simp [Bx.refs],rfl,by simp⟩
 | gone=>exact ⟨by simp [zNj,Bx.refs],rfl,λq I=>I⟩
theorem zNF:∀ (bs:List Bx) (es:List PV),(∀ p∈es,p.refs=[])->(zOP bs es).length=bs.length/\∀ (j:Nat) (B':Bx),(zOP bs es)[j]?=some B'->∃ B,bs[j]?=some B/\(∀ i∈B'.refs,i∈B.refs)/\B'.isArr=B.isArr
 | [],es,h=>⟨rfl,by simp [zOP]⟩
 | B::bs,es,h=>by
   obtain ⟨J,O,h3⟩:=zQq B es h
   obtain ⟨h4,h5⟩:=zNF bs (zNj B es).2 λp hp=>h p (h3 p hp)
   refine ⟨by simp [zOP,h4],λj B' I=>?_⟩
   cases j with
   | zero=>simp [zOP] at I;subst I;exact ⟨B,rfl,J,O⟩
   | succ j=>simp only [zOP,nA] at I ⊢;exact h5 j B' I
theorem zI3 (bs:List Bx) (es:List PV) (h:∀ p∈es,p.refs=[]):(zJw bs es).length=bs.length/\∀ (j:Nat) (B':Bx),(zJw bs es)[j]?=some B'->∃ B,bs[j]?=some B/\(∀ i∈B'.refs,i∈B.refs)/\B'.isArr=B.isArr:=by
 obtain ⟨h1,h2⟩:=zNF bs es h
 refine ⟨by simp [zJw,h1],λj B' J=>?_⟩
 simp only [zJw,oI] at J
 cases O:(zOP bs es)[j]? with
 | none=>simp [O] at J
 | some B1=>
   simp only [O,oe,o4] at J
   obtain ⟨B,h3,h4,h5⟩:=h2 j B1 O
   subst J
   cases B1 with
   | var cs=>
     refine ⟨B,h3,λi hi=>h4 i ?_,h5⟩
     simp only [zUS,Bx.refs] at hi ⊢
     obtain ⟨p,hp,I⟩:=PV.refsL_mem.1 hi
     obtain ⟨q,hq,rfl⟩:=oU.1 hp
     refine PV.refsL_mem.2 ⟨q,hq,?_⟩
     cases q<;>simp only [zUD] at I<;>try exact I
     split at I
     ·exact I
     ·simp [PV.refs] at I
   | _=>exact ⟨B,h3,h4,h5⟩
theorem zDa {B:Bx}:(xn B).refs=B.refs/\(xn B).isArr=B.isArr:=by
 cases B with
 | var cs=>
   refine ⟨?_,rfl⟩
   simp only [xn,Bx.refs]
   induction cs with
   | nil=>rfl
   | cons p cs I=>
     simp only [oh,PV.refsL,I]
     congr 1
     cases p<;>rfl
 | _=>exact ⟨rfl,rfl⟩
theorem zLk {ks:List Nat} {B:Bx}:(B.ren ks).isArr=B.isArr:=by cases B<;>rfl
theorem zRl {ks:List Nat} {B:Bx}:∀ j∈(B.ren ks).refs,j<ks.length:=by
 cases B with
 | var cs=>
   intro j O
   simp only [Bx.ren,Bx.refs] at O
   obtain ⟨p,hp,I⟩:=PV.refsL_mem.1 O
   obtain ⟨q,hq,rfl⟩:=oU.1 hp
   unfold zQr at I
   split at I
   ·rename_i q' J
    exact (wz (e:=[]) J).rf j I
   ·simp [PV.refs] at I
 | _=>simp [Bx.ren,Bx.refs]
theorem QT.app_base:∀ (l:List Sh) (Q:QT l) (b:Nat) (ps:List PV) (rows:List Bx) (N:Nat),QT.app l Q b ps rows N->∀ p∈ps,∀ k∈p.refs,b<=k
 | [],Q,b,ps,rows,N,h=>by
   cases ps<;>cases rows<;>simp [QT.app] at h ⊢
 | s :: l,Q,b,ps,rows,N,h=>by
   by_cases hs:s=.pk
   ·subst hs;exact QT.app_base l Q b ps rows N h.2
   cases ps with
   | nil=>cases s<;>first | exact absurd rfl hs | (simp [QT.app] at h;done)
   | cons p ps=>
     have key:(∃ (O:QT l) (J:Nat) (I:List Bx),b<=J/\QT.app l O J ps I N)/\∀ k∈p.refs,b<=k:=by
      cases s<;>(try (exact absurd rfl hs))<;>cases p<;>(try (exact h.elim))<;>(try (simp [QT.app] at h;done))<;>first
       | exact ⟨⟨_,_,_,oB _,h⟩,by simp [PV.refs]⟩
       | exact ⟨⟨_,_,_,oB _,h.2⟩,by simp [PV.refs]⟩
       | skip
      all_goals
       cases rows with
       | nil=>simp [QT.app] at h
       | cons B rows=>
         cases B<;>first
          | exact ⟨⟨_,b+1,_,by omega,h.2⟩,by have:=h.1.1;simp [PV.refs];omega⟩
          | (simp [QT.app] at h;done)
          | (obtain ⟨_,_,_,_,_,hb,_,h⟩:=h;cases hb;exact ⟨⟨_,_,_,Nat.le_succ b,h⟩,by simp [PV.refs]⟩)
     obtain ⟨⟨O,J,I,hb,h'⟩,hp⟩:=key
     intro q hq k hk
     rcases oH.1 hq with rfl | hq
     ·exact hp k hk
     ·exact oZ hb (QT.app_base l O J ps I N h' q hq k hk)
theorem zME {d:Nat} {e e':Env} {p:PV} (J:p.plainR=true) (I:∀ k∈p.refs,e.at (d+k)=e'.at k):(p.shift d).val1 e=p.val1 e':=by
 cases p
 case sb k z lo n c=>
  have:=I k (by simp [PV.refs])
  simp [PV.shift,PV.val1,PV.cv,this]
 case pb k z i o=>
  have:=I k (by simp [PV.refs])
  simp [PV.shift,PV.val1,PV.cv,this]
 all_goals first
  | rfl
  | simp [PV.plainR] at J
theorem zPa {d:Nat} {e e':Env} {p:PV} (J:p.plainR=true) (I:∀ k∈p.refs,e.at (d+k)=e'.at k):(p.shift d).cv e=p.cv e':=by
 cases p
 case sb k z lo n c=>have:=I k (by simp [PV.refs]);simp [PV.shift,PV.cv,this]
 case pb k z i o=>have:=I k (by simp [PV.refs]);simp [PV.shift,PV.cv,this]
 all_goals first
  | rfl
  | simp [PV.plainR] at J
theorem zMb {d:Nat} {e e':Env} {ps:List PV} {pk:Bool} (J:∀ p∈ps,p.plainR=true) (I:∀ p∈ps,∀ k∈p.refs,e.at (d+k)=e'.at k):(zHG pk (ps.map (PV.shift d))).val e=zOU pk e' ps:=by
 cases pk with
 | true=>
   simp only [zHG,zOU,PV.val,PV.val1,PV.cvs_eq,mO]
   congr 2
   exact nC λp h=>zPa (J p h) (I p h)
 | false=>
 have key:∀ p∈ps,(p.shift d).val1 e=p.val1 e':=λp h=>zME (J p h) (I p h)
 have one:∀ p,p∈ps->(p.shift d).val e=p.val1 e':=λp h=>by
  rw [<-key p h]
  have:=J p h
  cases p<;>simp [PV.plainR] at this<;>rfl
 rcases ps with _ | ⟨p,_ | ⟨q,ps⟩⟩
 ·rfl
 ·exact one p (by simp)
 ·simp only [oh,zHG,zK4,PV.val,zOU,zQG]
  rw [key p (by simp),key q (by simp),mO]
  congr 4
  exact nC λr O=>key r (by simp [O])
theorem zHh {d:Nat}:∀ {es:List PV},(∀ p∈es,p.refs=[])->es.map (PV.shift d)=es
 | [],_=>rfl
 | p::es,h=>by
   rw [oh,zHh λq I=>h q (by simp [I])]
   congr 1
   have:=h p (by simp)
   cases p<;>first | rfl | simp [PV.refs] at this
theorem zN7 {ks:List Nat} {bx:List Bx} {live:Nat->Prop} (I:∀ b,live b->zW av pB e bx b) {p q:PV} {v:Value} (hv:ValOk av w e pB bx v p) (h:zVf ks p=some q) :
  v=q.val (rZ e ks)/\q.Ok w live/\∀ k∈q.refs,k<ks.length:=by
 have J:p.ren ks=some q->p≠.any->v=q.val (rZ e ks)/\q.Ok w live/\∀ k∈q.refs,k<ks.length:=λh1 h2=>by
  have h3:=wz (e:=e) h1
  refine ⟨(hv.1.resolve_left h2).trans (zQD h1),h3.ok _ _ (PV.Ok.mono (λ_ _ _=>rfl) (oB _) (λb _=>I b) p hv.2.1),h3.rf⟩
 have O:qe p=some q->v=q.val (rZ e ks)/\q.Ok w live/\∀ k∈q.refs,k<ks.length:=λh1=>by
  obtain ⟨h2,h3,h4⟩:=vI hv h1
  exact ⟨h2.trans (PV.val_congr q (by rw [h4];simp)),h3 live I,by rw [h4];simp⟩
 unfold zVf at h
 split at h
 ·exact J h (by simp)
 ·split at h
  ·exact O h
  ·rename_i hr
   exact J h λhc=>by subst hc;exact hr rfl
theorem zBW {ks:List Nat} {bx:List Bx} {live:Nat->Prop} (I:∀ b,live b->zW av pB e bx b):∀ {ps qs:List PV} {vs:List Value},zNz ks ps=some qs->ps.length=vs.length->(∀ (i:Nat) (p:PV) (v:Value),ps[i]?=some p->vs[i]?=some v->ValOk av w e pB bx v p) ->
  qs.map (PV.val (rZ e ks))=vs/\∀ q∈qs,q.Ok w live/\∀ k∈q.refs,k<ks.length
 | [],qs,vs,h,J,O=>by
   simp [zNz] at h;subst h
   cases vs with
   | nil=>simp
   | cons=>simp at J
 | p :: ps,qs,vs,h,J,O=>by
   cases vs with
   | nil=>simp at J
   | cons v vs=>
     simp only [zNz] at h
     split at h
     ·rename_i q rs h1 h2
      simp at h;subst h
      obtain ⟨g1,g2,g3⟩:=zN7 I (O 0 p v rfl rfl) h1
      obtain ⟨g4,g5⟩:=zBW I h2 (by simpa using J) λi p v hp aa=>O (i+1) p v (by simpa using hp) (by simpa using aa)
      refine ⟨by simp [g1,g4],λr hr=>?_⟩
      rcases oH.1 hr with rfl | hr
      ·exact ⟨g2,g3⟩
      ·exact g5 r hr
     ·cases h
theorem zMQ (h:Rel av w0 e0 pS pB a w e st) (hpl:∀ k∈pB,k<st.bx.length) {rs:List Sh} {o:Oper} {c:Call} {x:Operand} {args:List PV} {K:St->Prop} (ho:o.op=.call c) (hc:c.callee=.value x)
  (hx:∀ t,x=.tmp t->t∉pS) (ha:args.length=c.args.size) (hav:∀ (i:Nat) (p:PV) (y:Operand),args[i]?=some p->c.args[i]?=some y->ValOk av w e pB st.bx (a.eval y) p)
  {f:FuncId} {caps:List PV} (hf:zQy (opd st.sl x)=some (f,caps)) (hcapall:∀ p∈caps,p.isCap=true) {ks:List Nat} (hnd:ks.Nodup) (hkpB:∀ k∈ks,k∉pB)
  (hps:∀ i,i∈pS->some i≠o.dst->i∈pS') (hs:zPD P rs st o.dst f (args++caps) ks K) {next:Act->World->Prop} {Q:Exit->Act->World->Prop}
  (hn:∀ v w' e' st',K st'->(∃ nb rows N p,st'=St.put (zVK st ks nb rows N) o.dst p)->Rel av w0 e0 pS' pB (a.put o.dst v) w' e' st'->next (a.put o.dst v) w'):o.wp P a w next Q:=by
 have ox:=xZ h hx
 have ox:=tP ox.valOk hf
 have hxv:=ox.1.resolve_left (by simp)
 have hcv:a.eval x=.func (.func f) #[] (PV.cvs e caps).toArray:=hxv
 have hcok:PV.OkL w (zW av pB e st.bx) caps:=by have:=ox.2.1;simpa only [PV.Ok] using this
 rw [PV.OkL_iff] at hcok
 have hcrf:∀ p∈caps,∀ k∈p.refs,k∉pB/\k<st.bx.length:=fun p hp k hk=>ox.2.2 k (by simp only [PV.refs];exact PV.refsL_mem.2 ⟨p,hp,hk⟩)
 have hcap:∀ (i:Nat) (p:PV) (v:Value),(args++caps)[i]?=some p->(c.args.toList.map a.eval++caps.map (PV.cv e))[i]?=some v->ValOk av w e pB st.bx v p:=by
  intro i p v h1 h2
  by_cases hi:i<args.length
  ·rw [oN hi] at h1
   have hi2:i<c.args.toList.length:=by simp;omega
   rw [oN (by simpa using hi2),oI,oF hi2] at h2
   simp at h2
   subst h2
   exact hav i p _ h1 (by rw [oi (by omega)])
  ·rw [oP (by omega)] at h1
   rw [oP (by simp;omega),oI] at h2
   have hidx:i - (c.args.toList.map a.eval).length=i - args.length:=by simp;omega
   rw [hidx,h1] at h2
   simp at h2
   subst h2
   have hm:=oC h1
   exact ⟨.inr (pj (hcapall p hm)).symm,hcok p hm,hcrf p hm⟩
 have hln:(args++caps).length=(c.args.toList.map a.eval++caps.map (PV.cv e)).length:=by simp;omega
 unfold zPD at hs
 split at hs
 rotate_left
 ·exact hs.elim
 rename_i as has hok
 simp only [okB,oL,oT,nk,na] at hok
 obtain ⟨⟨⟨hok1,hok2⟩,hok3⟩,hnr⟩:=hok
 have hok2:=mT hok2
 have hnr:=ol hnr
 have hbox:∀ k∈ks,∃ B,st.bx[k]?=some B/\B≠.gone/\(B.isArr=true->zDs st k=false):=fun k hk=>by
  have:=hok1 k hk
  split at this
  ·rename_i B hB
   simp only [oL,na,nk] at this
   refine ⟨B,hB,fun hc=>by subst hc;simp [zM3] at this,fun ha=>?_⟩
   rcases this.2 with h1 | h1
   ·rw [ha] at h1;cases h1
   ·exact h1
  ·cases this
 -- the boxes that are handed on
 have hE:(ks.map some).map (fun u=>Option.bind u e.at)=rZ e ks:=by simp [rZ]
 have hbl:(vK st ks).length=ks.length:=by simp [vK]
 have hbg:∀ (j:Nat) (B':Bx),(vK st ks)[j]?=some B'->∃ k B,ks[j]?=some k/\st.bx[k]?=some B/\B≠.gone/\B'=B.ren ks:=fun j B' hj=>by
  simp only [vK,oI] at hj
  cases hk:ks[j]? with
  | none=>simp [hk] at hj
  | some k=>
    simp only [hk,oe,o4] at hj
    obtain ⟨B,h1,h2,_⟩:=hbox k (oC hk)
    refine ⟨k,B,rfl,h1,h2,?_⟩
    rw [<-hj,oA,h1];rfl
 obtain ⟨hmem,hlv,hlvs⟩:=zIy (us:=ks.map some) (nb:=vK st ks) (av':=fun b=>av b\/∃ k,k∉ks/\Lives pB e st.bx k b) h.toMem (fun b hb=>hb.imp id fun ⟨k,hk⟩=>⟨k,hk.2⟩) (by simp [vK])
  (fun i j k hi hj=>by
   simp only [oI] at hi hj
   cases hi2:ks[i]? with
   | none=>simp [hi2] at hi
   | some x=>
     cases hj2:ks[j]? with
     | none=>simp [hj2] at hj
     | some y=>
       simp [hi2] at hi;simp [hj2] at hj
       subst hi;subst hj
       obtain ⟨i1,i2⟩:=oD.1 hi2
       obtain ⟨j1,j2⟩:=oD.1 hj2
       exact (List.getElem_inj hnd).1 (i2.trans j2.symm))
  (fun j B' hj=>by
   obtain ⟨k,B,h1,h2,h3,rfl⟩:=hbg j B' hj
   refine .inr ⟨k,B,by simp [h1],hkpB k (oC h1),h2,⟨?_⟩⟩
   rw [hE]
   cases B with
   | var cs=>
     refine .inr (.inr ⟨cs,_,rfl,rfl,by simp,fun i q hq=>?_⟩)
     rw [oI] at hq
     cases hci:cs[i]? with
     | none=>simp [hci] at hq
     | some p=>
       simp only [hci,oe,o4] at hq
       unfold zQr at hq
       split at hq
       ·rename_i q' hq'
        subst hq
        have h4:=wz (e:=e) hq'
        exact .inr ⟨p,rfl,h4.an.1,h4.cv,h4.ok,h4.ic,by simpa using h4.rf⟩
       ·exact .inl hq.symm
   | gone=>exact absurd rfl h3
   | vd x n=>exact .inr (.inl ⟨rfl,by simp⟩)
   | arr t z es c=>exact .inr (.inl ⟨rfl,by simp⟩))
 rw [hE] at hmem hlv hlvs
 obtain ⟨hargs,hargok⟩:=zBW hlv has (by simp;omega) hcap
 have hlt:∀ b,zW av pB e st.bx b->b<w.heap.size:=fun b hb=>hb.elim (fun hb=>by have:=h.avl.lt b hb;have:=h.size;omega) fun ⟨k,hk⟩=>Lives.lt h.toMem hk
 obtain ⟨hcl,hA⟩:=hs w.heap.size h.hN
 have hC:=hA (fun b=>av b\/∃ k,k∉ks/\Lives pB e st.bx k b) w (rZ e ks) rfl ⟨fun b hb=>hlt b (hb.imp id fun ⟨k,hk⟩=>⟨k,hk.2⟩),h.glob,fun b hb=>.inl (h.avl.ga b hb),fun b hb hc=>by
  simp only [rZ,oU] at hc
  obtain ⟨k,g1,g2⟩:=hc
  obtain ⟨B,g3,g4,_⟩:=hbox k g1
  exact h.avn k b ⟨hkpB k g1,g2,B,g3,g4⟩ (h.avl.ga b hb)⟩ hmem (fun j b hj hb=>by
  obtain ⟨k,g1,g2⟩:=hlvs j b hj
  simp only [oI] at g1
  cases hk:ks[j]? with
  | none=>simp [hk] at g1
  | some k2=>
    simp [hk] at g1;subst g1
    rcases hb with hb | ⟨k3,g3,g4⟩
    ·exact h.avn k2 b g2 hb
    ·exact g3 (h.inj k3 k2 b g4 g2 ▸ oC hk)) (fun p hp=>by obtain ⟨g1,g2⟩:=hargok p hp;exact ⟨g1,by rw [hbl];exact g2⟩)
 have hrun:(execOp a.eval o).run P w=.ok (.enter f (as.map (PV.val (rZ e ks))).toArray) w:=by
  have e1:(as.map (PV.val (rZ e ks))).toArray=c.args.map a.eval++(PV.cvs e caps).toArray:=by
   rw [hargs,PV.cvs_eq]
   apply nE.1
   simp
  rw [e1]
  obtain ⟨dst,op,ty,pos,after,guard⟩:=o
  simp only at ho
  subst ho
  simp only [execOp,resolve,hc,Deferred.ofValue,hcv,invoke]
  simp [zCC hcl]
 unfold Oper.wp
 rw [hrun,Oper.upon_enter]
 refine hC.mono fun en w' hen=>?_
 cases en with
 | panicked=>exact hen.elim
 | outgrown=>exact hen.elim
 | returned v=>
   obtain ⟨ps,es,rows,e1,hpn,hd⟩:=hen
   have hb0:((vK st ks).map xn).length=ks.length:=by simp [hbl]
   have hnr':zGO rs=zJI P f (rsJ as rs++zOT (vK st ks)) ((vK st ks).map xn):=by
    rw [hnr];simp only [zJI,zJl,zSB,oE,zS9]
   rw [<-hnr'] at hpn
   have hq:=hd.q
   rw [hb0] at hq
   have hq0:=hq
   have happ:=QT.app_lam (rsJ as rs++zOT (vK st ks)) (st.bx.length - ks.length) ks.length _ (ps++es) rows _ (by rw [show st.bx.length - ks.length+ks.length=st.bx.length by omega];exact hq)
   have hplain:∀ p∈ps,p.plainR=true:=fun p hp=>QT.app_plain _ _ _ _ _ _ hq p (oY _ hp)
   have hbase:∀ p∈ps,∀ k∈p.refs,ks.length<=k:=fun p hp=>QT.app_base _ _ _ _ _ _ hq p (oY _ hp)
   obtain ⟨harr,hrfs⟩:=QT.app_rows _ _ _ _ _ _ hq
   have happ:=happ hd.size
   rw [nW,zHh hd.ns] at happ
   have e2:(ps.map (PV.shift (st.bx.length - ks.length))++es).take (zGO rs)=ps.map (PV.shift (st.bx.length - ks.length)):=List.take_left' (by simp [hpn])
   have e3:(ps.map (PV.shift (st.bx.length - ks.length))++es).drop (zGO rs)=es:=List.drop_left' (by simp [hpn])
   rw [e2,e3] at happ
   have hbel:=vN (N:=w'.heap.size) (fun q hq=>by
    rcases oG.1 hq with hq | hq
    rotate_left
    ·exact hd.be q hq
    obtain ⟨p,hp,rfl⟩:=oU.1 hq
    have hpl:=hplain p hp
    have hok:=hd.ok p hp
    cases p<;>simp only [PV.shift]<;>simp only [PV.Ok] at hok
    ·exact hok.1.lt
    ·exact hok.1.1.lt) happ
   have hrowm:∀ (i:Nat) (B:Bx),rows[i]?=some B->(zJw ((vK st ks).map xn) es++rows)[ks.length+i]?=some B:=fun i B hi=>by
    have hl:=(zI3 ((vK st ks).map xn) es hd.ns).1
    rw [hb0] at hl
    rw [oP (by omega),hl];simpa using hi
   have hbel2:=zAM (N:=w'.heap.size) (fun t z ds cc hm b hb=>by
    obtain ⟨i,hi⟩:=oQ.1 hm
    have:=hd.m.bo _ _ (hrowm i _ hi) (by simp)
    simp only [D.foot] at hb
    obtain ⟨y,hy,hby⟩:=zH.1 hb
    exact (this y hy).1.lt b hby) hbel
   obtain ⟨ul,ug⟩:=zI3 ((vK st ks).map xn) es hd.ns
   rw [hb0] at ul
   have ug2:∀ (j:Nat) (B':Bx),(zJw ((vK st ks).map xn) es)[j]?=some B'->∃ k B,ks[j]?=some k/\st.bx[k]?=some B/\B'.isArr=B.isArr/\∀ i∈B'.refs,i<ks.length:=fun j B' hj=>by
    obtain ⟨B1,g1,g2,g3⟩:=ug j B' hj
    rw [oI] at g1
    cases hb:(vK st ks)[j]? with
    | none=>simp [hb] at g1
    | some B2=>
      simp only [hb,oe,o4] at g1
      obtain ⟨k,B,q1,q2,q3,rfl⟩:=hbg j B2 hb
      subst g1
      refine ⟨k,B,q1,q2,by rw [g3,zDa.2,zLk],fun i hi=>?_⟩
      have:=g2 i hi
      rw [zDa.1] at this
      exact zRl i this
   have hkr:=zFt (bx:=st.bx) ks st h
   have hlvk:∀ k b,Lives pB e (vG st.bx ks st).bx k b↔Lives pB e st.bx k b:=fun k b=>by
    obtain ⟨g1,g2⟩:=rI (bx:=st.bx) ks st k
    constructor
    ·rintro ⟨h1,h2,B',h3,h4⟩
     cases hB:st.bx[k]? with
     | none=>rw [g1.2 hB] at h3;cases h3
     | some B=>
       obtain ⟨B'',q1,q2,_⟩:=g2 B hB
       rw [q1] at h3;cases h3
       exact ⟨h1,h2,B,hB,fun hc=>h4 (q2.2 hc)⟩
    ·rintro ⟨h1,h2,B,h3,h4⟩
     obtain ⟨B',q1,q2,_⟩:=g2 B h3
     exact ⟨h1,h2,B',q1,fun hc=>h4 (q2.1 hc)⟩
   have hkb:∀ (k:Nat) (B:Bx),(vG st.bx ks st).bx[k]?=some B->∃ B0,st.bx[k]?=some B0/\B.isArr=B0.isArr/\(B=.gone↔B0=.gone):=fun k B hB=>by
    obtain ⟨g1,g2⟩:=rI (bx:=st.bx) ks st k
    cases hB0:st.bx[k]? with
    | none=>rw [g1.2 hB0] at hB;cases hB
    | some B0=>
      obtain ⟨B'',q1,q2,q3⟩:=g2 B0 hB0
      rw [q1] at hB;cases hB
      exact ⟨B0,rfl,q3,q2⟩
   have hget0:∀ k,((vG st.bx ks st).bx.getD k .gone).isArr=(st.bx.getD k .gone).isArr:=fun k=>by
    obtain ⟨g1,g2⟩:=rI (bx:=st.bx) ks st k
    rw [oA,oA]
    cases hB0:st.bx[k]? with
    | none=>rw [g1.2 hB0]
    | some B0=>
      obtain ⟨B'',q1,_,q3⟩:=g2 B0 hB0
      rw [q1];exact q3
   have hio:Io av pB w w' e (vG st.bx ks st).bx ks e1 (zJw ((vK st ks).map xn) es) rows:={
    nd:=hnd
    kp:=fun k hk=>by
     obtain ⟨B,g1,g2,_⟩:=hbox k hk
     obtain ⟨B',q1,q2,_⟩:=(rI (bx:=st.bx) ks st k).2 B g1
     exact ⟨hkpB k hk,B',q1,fun hc=>g2 (q2.1 hc)⟩
    len:=ul
    el:=by have:=hd.m.el;simp only [oE,ul] at this;omega
    m := by
      have he:(fun b=>av b\/∃ k,k∉ks/\Lives pB e (vG st.bx ks st).bx k b)=fun b=>av b\/∃ k,k∉ks/\Lives pB e st.bx k b:=by
       funext b
       exact propext (or_congr mw (exists_congr fun k=>and_congr mw (hlvk k b)))
      rw [he];exact hd.m
    arr:=harr
    kind:=fun j k B B' hj hB hB'=>by
     obtain ⟨k2,B2,g1,g2,g3,_⟩:=ug2 j B' hB'
     rw [hj] at g1;cases g1
     obtain ⟨B0,q1,q2,_⟩:=hkb k B hB
     rw [g2] at q1;cases q1
     rw [g3,q2]
    refs:=fun B hB j hj=>by
     obtain ⟨i,hi⟩:=oQ.1 hB
     obtain ⟨_,_,_,_,_,g⟩:=ug2 i B hi
     exact g j hj
    fix:=fun j k B hj hB ha=>by
     obtain ⟨B0,q1,q2,_⟩:=hkb k B hB
     have hj0:((vK st ks).map xn)[j]?=some (xn (B0.ren ks)):=by
      simp [vK,oI,hj,oA,q1]
     have:=hd.fix j _ hj0 (by rw [zDa.2,zLk,<-q2];exact ha)
     rw [this]
     have hej:(rZ e ks).at j=e.at k:=by simp [rZ,Env.at,oA,hj]
     rw [hej]
     have hbr:=h.br k B0 q1 (hkpB k (oC hj))
     rw [q2] at ha
     cases B0 with
     | var cs=>obtain ⟨b,_,_,g,_⟩:=hbr;rw [g];rfl
     | vd y n=>obtain ⟨b,_,_,g,_⟩:=hbr;rw [g];rfl
     | arr=>cases ha
     | gone=>cases ha
    fr:=fun j b hj=>by
     rcases hd.fresh j b hj with g | ⟨g1,g2⟩
     ·exact .inl g
     ·rw [hb0] at g1
      simp only [rZ,oU] at g2
      obtain ⟨k,g3,g4⟩:=g2
      exact .inr ⟨g1,k,g3,g4⟩
    size:=hd.size
    hold:=fun b hb hnk=>hd.old b hb fun hc=>by
     simp only [rZ,oU] at hc
     obtain ⟨k,g3,g4⟩:=hc
     exact hnk k g3 g4
    fz:=fun b cc t z hb hcc=>hd.fz b cc t z (hb.imp id fun ⟨k,g1,g2⟩=>by simp only [rZ,oU];exact ⟨k,g1,g2⟩) hcc
    ku:=hd.ku }
   have hpn2:=zCy (bx:=st.bx) ks st
   obtain ⟨hR,hgood⟩:=zUB hkr hio
    (fun i p hi k hk hka=>(zAQ ks st k hk (by rw [<-hget0];exact hka)).1 i p hi)
    (fun j B hj hjk k hk hka=>(zAQ ks st k hk (by rw [<-hget0];exact hka)).2 j B hj)
    (fun k hk hka b hb=>by
     rw [hpn2] at hb
     rw [hget0] at hka
     obtain ⟨B,g1,_,g3⟩:=hbox k hk
     rw [oA,g1] at hka
     have:=g3 hka
     unfold zDs at this
     rw [hb] at this
     cases this)
    (by
     rw [hpn2]
     refine hok3.imp (fun hq k hk hka=>?_) fun hq k hk hka=>?_
     ·rw [hget0] at hka
      rcases hq k hk with g | g
      ·rw [hka] at g;cases g
      ·exact mT g
     ·rw [hget0] at hka
      rcases hq k hk with g | g
      ·rw [hka] at g;cases g
      ·exact mT g)
   have hkl:=(zE5 (bx:=st.bx) ks st).1
   have hatr:∀ p∈ps,∀ k∈p.refs,Env.at (zE6 ks e1 e++e1.drop ks.length) (st.bx.length - ks.length+k)=e1.at k:=fun p hp k hk=>by
    have h1:=hbase p hp k hk
    rw [Env.at_app,if_neg (by simp [zE6,h.el];omega)]
    simp only [zE6,nO,List.length_range,h.el,Env.at,oA,nQ]
    congr 2;omega
   have hfin:ValOk av w' (zE6 ks e1 e++e1.drop ks.length) pB (bxN ks ((zJw ((vK st ks).map xn) es).map (Bx.mapR fun j=>ks.getD j 0)) 0 (vG st.bx ks st).bx++rows) v (zUa (rsJ as rs) (zJw ((vK st ks).map xn) es) ks (ps.map (PV.shift (st.bx.length - ks.length)))):=by
    by_cases hbk:∃ j l,rsJ as rs=.bk j::l
    ·obtain ⟨j,l,hj⟩:=hbk
     have hv:=hd.v
     rw [hj] at hv ⊢
     simp only [o9,zO9] at hv
     simp only [zUa]
     cases hU:(zJw ((vK st ks).map xn) es)[j]? with
     | none=>exact zGc
     | some B=>
       rw [hU] at hv
       cases B with
       | arr t z ds cc=>
         simp only at hv ⊢
         have hjl:j<ks.length:=by rw [<-ul];exact (oD.1 hU).1
         have hjk:ks[j]?=some (ks.getD j 0):=by rw [oA,oF hjl];rfl
         have hmem:ks.getD j 0∈ks:=oC hjk
         obtain ⟨B0,g1,g2,_⟩:=hbox _ hmem
         have hklt:=(oD.1 g1).1
         have hatj:Env.at (zE6 ks e1 e++e1.drop ks.length) (ks.getD j 0)=e1.at j:=by
          rw [Env.at_app,if_pos (by simp [zE6,h.el];exact hklt),zP2 (by rw [h.el];exact hklt),zPg hnd hjk]
         refine ⟨.inr ?_,trivial,fun k hk=>?_⟩
         ·rw [hv]
          simp only [PV.val,PV.val1,PV.cv,hatj]
         ·simp only [PV.refs,oR] at hk
          subst hk
          refine ⟨hkpB _ hmem,?_⟩
          simp only [oE,xv,hkl]
          omega
       | _=>exact zGc
    ·have hnb:∀ j l,rsJ as rs++zOT (vK st ks)≠.bk j::l:=fun j l hc=>by
      cases hr:rsJ as rs with
      | nil=>
        rw [hr,oW] at hc
        exact zSZ (vK st ks) (.bk j) (by rw [hc];simp) j rfl
      | cons s l'=>
        rw [hr] at hc
        simp only [o9,List.cons.injEq] at hc
        exact hbk ⟨j,l',by rw [hr,hc.1]⟩
     have hres:zUa (rsJ as rs) (zJw ((vK st ks).map xn) es) ks (ps.map (PV.shift (st.bx.length - ks.length)))=zHG (zEM (rsJ as rs)) (ps.map (PV.shift (st.bx.length - ks.length))):=by
      unfold zUa
      split
      ·rename_i hc;exact absurd ⟨_,_,hc⟩ hbk
      ·rfl
     have hv:=hd.v
     rw [zGG hnb,zJl] at hv
     rw [hres]
     refine ⟨.inr ?_,?_,?_⟩
     ·rw [hv];exact (zMb hplain hatr).symm
     ·refine zP1 (fun q hq=>?_) (fun hc q hq=>by obtain ⟨p,hp,rfl⟩:=oU.1 hq;exact zKm (QT.app_pk (by rw [zJl];exact hc) hq0 p (oY _ hp)))
      obtain ⟨p,hp,rfl⟩:=oU.1 hq
      have h1:=hd.ok p hp
      have h2:=hplain p hp
      have he:(fun b=>av b\/∃ k,k∉ks/\Lives pB e (vG st.bx ks st).bx k b)=fun b=>av b\/∃ k,k∉ks/\Lives pB e st.bx k b:=by
       funext b
       exact propext (or_congr mw (exists_congr fun k=>and_congr mw (hlvk k b)))
      rw [he] at hgood
      cases p<;>simp [PV.plainR] at h2<;>simp only [PV.shift]<;>simp only [PV.Ok] at h1 ⊢
      ·exact hgood _ h1
      ·exact ⟨hgood _ h1.1,h1.2⟩
      ·exact ⟨hgood _ h1.1,h1.2⟩
     ·intro k hk
      obtain ⟨q,hq,hkq⟩:=zKy k hk
      obtain ⟨p,hp,rfl⟩:=oU.1 hq
      obtain ⟨j,hj,rfl⟩:=zIC (hplain p hp) k hkq
      have h1:=(hrfs p (oY _ hp)).2.2 j hj
      have h2:=hbase p hp j hj
      refine ⟨fun hc=>by have:=hpl _ hc;omega,?_⟩
      simp only [oE,xv,hkl]
      omega
   exact hn v w' (zE6 ks e1 e++e1.drop ks.length) _ hbel2 ⟨_,rows,_,_,rfl⟩ (xz hR hfin hps)
variable {av:Nat->Prop} {P:Program} {w0 w w':World} {e0 e:Env} {pS pS' pB pB':List Nat} {a:Act} {st st':St}
/-- how a call ends that rewrites a row in place -/
structure DoneX (av:Nat->Prop) (w0 w:World) (E:Env) (t:TypeId) (z n c:Nat) (Q:QT [.sl z]) (ds:List D):Prop where
 q:Q none ds c w.heap.size
 len:ds.length=n
 br:Bx.Rel w E (E.at 0) (.arr t z ds c)
 ok:∀ x∈ds,Good w (fun b=>av b\/E.at 0=some b) x
 size:w0.heap.size<=w.heap.size
 old:∀ b,b<w0.heap.size->E.at 0≠some b->w.heap[b]?=w0.heap[b]?
 fz:∀ (b:Nat) (c:Array Value) (t:TypeId) (z:Nat × Nat),(w0.heap.size<=b\/E.at 0=some b)->w.heap[b]?=some (.cells c t z)->Fz z
 ku:KU w0 w
def zWA (full:List Sh) (Q:QT full) (av:Nat->Prop) (w0 w:World) (E:Env) (t:TypeId) (z n c:Nat):Prop:=match full,Q with
 | [.sl z'],Q=>z'=z/\∃ ds,DoneX av w0 w E t z' n c Q ds
 | _,_=>False
def zVo (full:List Sh) (Q:QT full) (av:Nat->Prop) (w0:World) (E:Env) (t:TypeId) (z n c:Nat):Ending->World->Prop
 | .returned v,w=>v=.tuple #[]/\zWA full Q av w0 w E t z n c
 | _,_=>False
/-- a function's contract, where it rewrites the row that it is handed -/
structure XCalls (P:Program) (f:FuncId) (full:List Sh) (args:List PV) (bx:List Bx) (N:Nat) (Q:QT full):Prop where
 c:yW P f=true
 h : ∀ (av:Nat->Prop) (w0:World) (E:Env),w0.heap.size=N->Avl av w0 E->Mem av [] w0 E bx->(∀ k b,Lives [] E bx k b->¬av b) ->
   (∀ p∈args,p.Ok w0 (zW av [] E bx)/\∀ k∈p.refs,k<bx.length)->∀ t z xs c,bx=[.arr t z xs c]->Calls P f (args.map (PV.val E)).toArray w0 (zVo full Q av w0 E t z xs.length c)
def zQd (P:Program) (st:St) (dst:Option Nat) (f:FuncId) (I:List PV) (ks:List Nat) (K:St->Prop):Prop:=match ks with
 | [k]=>match st.bx[k]? with
   | some (.arr t z es c)=>match zNz [k] I,Nat.beq (zVv P f) 0 with
     | some as,true=>∀ N1,st.N<=N1->XCalls P f [.sl z] as [.arr t z es c] N1 λ_ ds _ N2=>N1<=N2->Bel N2 (.ag ds)->ds.length=es.length->K (St.put { st with bx:=st.bx.set k (.arr t z ds c),N:=N2 } dst (.tp []))
     | _,_=>False
   | _=>False
 | _=>False
def zSg (P:Program) (st:St) (dst:Option Nat) (x:Operand) (args:List PV) (K:St->Prop):Prop:=
 match zQy (opd st.sl x) with
 | some (f,caps)=>match caps.all PV.isCap with
   | true=>zQd P st dst f (args++caps) (zAh st.bx 200 (PV.refsL (args++caps)) []) K
   | false=>False
 | none=>False
theorem zTO (h:Rel av w0 e0 pS pB a w e st) {k:Nat} {t:TypeId} {z c:Nat} {es ds:List D} (hk:st.bx[k]?=some (.arr t z es c)) (ak:k∉pB)
  (ae:w.heap.size<=w'.heap.size) (hold:∀ b,b<w.heap.size->e.at k≠some b->w'.heap[b]?=w.heap[b]?)
  (hB:Bx.Rel w' e (e.at k) (.arr t z ds c)) (aq:∀ x∈ds,Good w' (zW av pB e st.bx) x)
  (aj:∀ (b:Nat) (c:Array Value) (t:TypeId) (z:Nat × Nat),(w.heap.size<=b\/e.at k=some b)->w'.heap[b]?=some (.cells c t z)->Fz z) (au:KU w w') :
  Rel av w0 e0 pS pB a w' e { st with bx:=st.bx.set k (.arr t z ds c) }:=by
 have al:k<st.bx.length:=(oD.1 hk).1
 have ah:Bx.arr t z es c≠.gone:=by simp
 have ai:∀ b,e.at k=some b->zW av pB e st.bx b:=λb hb=>.inr ⟨k,ak,hb,_,hk,ah⟩
 have J:∀ j b,Lives pB e (st.bx.set k (.arr t z ds c)) j b->Lives pB e st.bx j b:=λj b ⟨h1,h2,C,h3,h4⟩=>by
  by_cases I:j=k
  ·subst I;exact ⟨h1,h2,_,hk,ah⟩
  ·rw [nY (Ne.symm I)] at h3
   exact ⟨h1,h2,C,h3,h4⟩
 have aa:∀ b,zW av pB e (st.bx.set k (.arr t z ds c)) b->zW av pB e st.bx b:=λb hl=>hl.elim .inl λ⟨j,I⟩=>.inr ⟨j,J j b I⟩
 have ab:∀ b,b<w.heap.size->¬zW av pB e st.bx b->w'.heap[b]?=w.heap[b]?:=λb hb hn=>hold b hb λhc=>hn (ai b hc)
 have ac:∀ (j:Nat) (C:Bx),(st.bx.set k (.arr t z ds c))[j]?=some C->(j=k/\C=.arr t z ds c)\/(j≠k/\st.bx[j]?=some C):=λj C I=>by
  by_cases O:j=k
  ·subst O;rw [lD al] at I;exact .inl ⟨rfl,(nB I).symm⟩
  ·rw [nY (Ne.symm O)] at I;exact .inr ⟨O,I⟩
 have am:∀ (j:Nat) (C:Bx),st.bx[j]?=some C->j∉pB->j≠k->∀ b,e.at j=some b->C≠.gone->w'.heap[b]?=w.heap[b]?:=λj C I hn O b hb hg=>by
  have hl:Lives pB e st.bx j b:=⟨hn,hb,C,I,hg⟩
  exact hold b (Lives.lt h.toMem hl) λhc=>O (h.inj j k b hl ⟨ak,hc,_,hk,ah⟩)
 exact {
  el:=by simp [h.el]
  br:=λj C I hn=>by
   rcases ac j C I with ⟨rfl,rfl⟩ | ⟨O,I⟩
   ·exact hB
   ·by_cases hg:C=.gone
    ·subst hg;exact True.intro
    exact (h.br j C I hn).congr (λb hb=>am j C I hn O b hb hg) λi hi=>rfl
  bo:=λj C I hn=>by
   rcases ac j C I with ⟨rfl,rfl⟩ | ⟨O,I⟩
   ·exact λx hx=>(aq x hx).mono (λ_ _ _=>rfl) λb _ hb=>aa b hb
   ·exact (h.bo j C I hn).mono ab ae λb _ hb=>aa b hb
  bf:=λj C I hn i hi=>by
   simp only [nw]
   rcases ac j C I with ⟨rfl,rfl⟩ | ⟨O,I⟩
   ·simp [Bx.refs] at hi
   ·exact h.bf j C I hn i hi
  inj:=λi j b hi I=>h.inj i j b (J i b hi) (J j b I)
  ku:=h.ku.trans au
  size:=oZ h.size ae
  old:=λb hb hn=>by
   refine (hold b (o5 hb h.size) λhc=>?_).trans (h.old b hb hn)
   rcases h.own k b ⟨ak,hc,_,hk,ah⟩ with h1 | h1
   ·omega
   ·exact hn h1.1
  fz:=λb c t z hb hc=>by
   by_cases aw:b<w.heap.size
   ·by_cases ao:e.at k=some b
    ·exact aj b c t z (.inr ao) hc
    ·rw [hold b aw ao] at hc;exact h.fz b c t z hb hc
   ·exact aj b c t z (.inl (by omega)) hc
  nd:=h.nd
  sz:=h.sz
  hN:=oZ h.hN ae
  hs:=h.hs
  so:=λi p hi hp=>PV.Ok.mono ab ae (λb _ hb=>aa b hb) p (h.so i p hi hp)
  sr:=λi p hi hp j I=>by simp only [nw];exact h.sr i p hi hp j I
  own:=λj b I=>h.own j b (J j b I)
  avl:=h.avl
  avn:=λj b I=>h.avn j b (J j b I)
  pin:=h.pin
  pit:=h.pit }
theorem zLd (h:Rel av w0 e0 pS pB a w e st) {o:Oper} {c:Call} {x:Operand} {args:List PV} {K:St->Prop} (ho:o.op=.call c) (hc:c.callee=.value x)
  (hx:∀ t,x=.tmp t->t∉pS) (ha:args.length=c.args.size) (hav:∀ (i:Nat) (p:PV) (y:Operand),args[i]?=some p->c.args[i]?=some y->ValOk av w e pB st.bx (a.eval y) p)
  {f:FuncId} {caps:List PV} (hf:zQy (opd st.sl x)=some (f,caps)) (hcapall:∀ p∈caps,p.isCap=true) {ks:List Nat} (hkpB:∀ k∈ks,k∉pB)
  (hps:∀ i,i∈pS->some i≠o.dst->i∈pS') (hs:zQd P st o.dst f (args++caps) ks K) {next:Act->World->Prop} {Q:Exit->Act->World->Prop}
  (hn:∀ v w' e' st',K st'->(∃ k B N,k∈ks/\st'=St.put { st with bx:=st.bx.set k B,N:=N } o.dst (.tp []))->Rel av w0 e0 pS' pB (a.put o.dst v) w' e' st'->next (a.put o.dst v) w'):o.wp P a w next Q:=by
 have ox:=xZ h hx
 have ox:=tP ox.valOk hf
 have hxv:=ox.1.resolve_left (by simp)
 have hcv:a.eval x=.func (.func f) #[] (PV.cvs e caps).toArray:=hxv
 have hcok:PV.OkL w (zW av pB e st.bx) caps:=by have:=ox.2.1;simpa only [PV.Ok] using this
 rw [PV.OkL_iff] at hcok
 have hcrf:∀ p∈caps,∀ k∈p.refs,k∉pB/\k<st.bx.length:=fun p hp k hk=>ox.2.2 k (by simp only [PV.refs];exact PV.refsL_mem.2 ⟨p,hp,hk⟩)
 have hcap:∀ (i:Nat) (p:PV) (v:Value),(args++caps)[i]?=some p->(c.args.toList.map a.eval++caps.map (PV.cv e))[i]?=some v->ValOk av w e pB st.bx v p:=by
  intro i p v h1 h2
  by_cases hi:i<args.length
  ·rw [oN hi] at h1
   have hi2:i<c.args.toList.length:=by simp;omega
   rw [oN (by simpa using hi2),oI,oF hi2] at h2
   simp at h2
   subst h2
   exact hav i p _ h1 (by rw [oi (by omega)])
  ·rw [oP (by omega)] at h1
   rw [oP (by simp;omega),oI] at h2
   have hidx:i - (c.args.toList.map a.eval).length=i - args.length:=by simp;omega
   rw [hidx,h1] at h2
   simp at h2
   subst h2
   have hm:=oC h1
   exact ⟨.inr (pj (hcapall p hm)).symm,hcok p hm,hcrf p hm⟩
 have hln:(args++caps).length=(c.args.toList.map a.eval++caps.map (PV.cv e)).length:=by simp;omega
 unfold zQd at hs
 split at hs
 rotate_left
 ·exact hs.elim
 rename_i k
 split at hs
 rotate_left
 ·exact hs.elim
 rename_i t z es cc hbk
 split at hs
 rotate_left
 ·exact hs.elim
 rename_i as has hnr
 have hkp:k∉pB:=hkpB k (by simp)
 have hE:([some k].map (fun u=>Option.bind u e.at))=rZ e [k]:=by simp [rZ]
 obtain ⟨hmem,hlv,hlvs⟩:=zIy (us:=[some k]) (nb:=[.arr t z es cc]) (av':=fun b=>av b\/∃ j,j≠k/\Lives pB e st.bx j b) h.toMem (fun b hb=>hb.imp id fun ⟨j,hj⟩=>⟨j,hj.2⟩) rfl
  (fun i j m hi hj=>by
   cases i with
   | zero=>cases j with
     | zero=>rfl
     | succ j=>simp at hj
   | succ i=>simp at hi)
  (fun j B' hj=>by
   cases j with
   | zero=>
     simp at hj;subst hj
     exact .inr ⟨k,_,rfl,hkp,hbk,⟨.inr (.inl ⟨rfl,by simp⟩)⟩⟩
   | succ j=>simp at hj)
 rw [hE] at hmem hlv hlvs
 obtain ⟨hargs,hargok⟩:=zBW hlv has (by simp;omega) hcap
 have hlt:∀ b,zW av pB e st.bx b->b<w.heap.size:=fun b hb=>hb.elim (fun hb=>by have:=h.avl.lt b hb;have:=h.size;omega) fun ⟨k,hk⟩=>Lives.lt h.toMem hk
 obtain ⟨hcl,hA⟩:=hs w.heap.size h.hN
 have hat0:(rZ e [k]).at 0=e.at k:=by simp [rZ,Env.at]
 have hlk:∀ b,e.at k=some b->Lives pB e st.bx k b:=fun b hb=>⟨hkp,hb,_,hbk,by simp⟩
 have hC:=hA (fun b=>av b\/∃ j,j≠k/\Lives pB e st.bx j b) w (rZ e [k]) rfl ⟨fun b hb=>hlt b (hb.imp id fun ⟨j,hj⟩=>⟨j,hj.2⟩),h.glob,fun b hb=>.inl (h.avl.ga b hb),fun b hb hcx=>by
  simp only [rZ,oh,mJ,oR] at hcx
  exact h.avn k b (hlk b hcx.symm) (h.avl.ga b hb)⟩ hmem (fun j b hj hb=>by
  obtain ⟨k2,g1,g2⟩:=hlvs j b hj
  have hk2:k2=k:=by
   cases j with
   | zero=>simpa using g1.symm
   | succ j=>simp at g1
  subst hk2
  rcases hb with hb | ⟨k3,g3,g4⟩
  ·exact h.avn k2 b g2 hb
  ·exact g3 (h.inj k3 k2 b g4 g2)) (fun p hp=>hargok p hp) t z es cc rfl
 have hrun:(execOp a.eval o).run P w=.ok (.enter f (as.map (PV.val (rZ e [k]))).toArray) w:=by
  have e1:(as.map (PV.val (rZ e [k]))).toArray=c.args.map a.eval++(PV.cvs e caps).toArray:=by
   rw [hargs,PV.cvs_eq]
   apply nE.1
   simp
  rw [e1]
  obtain ⟨dst,op,ty,pos,after,guard⟩:=o
  simp only at ho
  subst ho
  simp only [execOp,resolve,hc,Deferred.ofValue,hcv,invoke]
  simp [zCC hcl]
 unfold Oper.wp
 rw [hrun,Oper.upon_enter]
 refine hC.mono fun en w' hen=>?_
 cases en with
 | panicked=>exact hen.elim
 | outgrown=>exact hen.elim
 | returned v=>
   obtain ⟨rfl,hen⟩:=hen
   obtain ⟨_,ds,hd⟩:=hen
   have hbr:=hd.br
   rw [hat0] at hbr
   have hfix:=zTO h hbk hkp hd.size (fun b hb hne=>hd.old b hb (by rw [hat0];exact hne)) hbr (fun y hy=>(hd.ok y hy).mono (fun _ _ _=>rfl) fun b _ hb=>by
    rcases hb with hb | ⟨j,hj⟩
    ·exact .inl (.inl hb)
    ·by_cases hjk:j=k
     ·subst hjk;exact .inr (by rw [hat0];exact hj.2.1)
     ·exact .inl (.inr ⟨j,hjk,hj⟩)) (fun b c t z hb hcx=>hd.fz b c t z (by rw [hat0];exact hb) hcx) hd.ku
   have hfix:=zTW hfix (n:=w'.heap.size) (oB _)
   have hbel:Bel w'.heap.size (.ag ds):=fun b hb=>by
    simp only [D.foot] at hb
    obtain ⟨y,hy,hby⟩:=zH.1 hb
    exact (hd.ok y hy).1.lt b hby
   exact hn _ w' e _ (hd.q hd.size hbel hd.len) ⟨k,_,_,by simp,rfl⟩ (xz hfix ⟨.inr rfl,by simp [PV.Ok,PV.OkL],by simp [PV.refs,PV.refsL]⟩ hps)
end Go.Proofs.YtlahkdflngobiaaGreatDoor
