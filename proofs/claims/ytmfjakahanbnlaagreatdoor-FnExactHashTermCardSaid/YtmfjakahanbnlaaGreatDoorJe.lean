/- A call within a call is sound. -/
import Derived.Test.YtmfjakahanbnlaaGreatDoorJd
set_option linter.unusedVariables false
set_option linter.unusedSimpArgs false
namespace Go.Proofs.YtmfjakahanbnlaaGreatDoor
open Go
variable {av:Nat->Prop} {P:Program} {w0 w w':World} {e0 e:Env} {pS pS' pB:List Nat} {a:Act} {st st':St}
def wr (bs:List (Option Addr)):List Nat:=bs.filterMap fun a=>a.map (·.block)
def PV.plainR:PV->Bool
 | .int ..=>true
 | .bool ..=>true
 | .str ..=>true
 | .sv ..=>true
 | .dg ..=>true
 | .sb ..=>true
 | .dc ..=>true
 | .pb ..=>true
 | _=>false
theorem QT.app_plain:∀ (l:List Sh) (Q:QT l) (b:Nat) (ps:List PV) (rows:List Bx) (N:Nat),QT.app l Q b ps rows N->∀ p∈ps,p.plainR=true
 | [],Q,b,ps,rows,N,h=>by
   cases ps<;>cases rows<;>simp [QT.app] at h ⊢
 | s :: l,Q,b,ps,rows,N,h=>by
   by_cases hs:s=.pk
   ·subst hs;exact QT.app_plain l Q b ps rows N h.2
   cases ps with
   | nil=>cases s<;>first | exact absurd rfl hs | (simp [QT.app] at h;done)
   | cons p ps=>
     have key:(∃ (Q':QT l) (b':Nat) (rows':List Bx),QT.app l Q' b' ps rows' N)/\p.plainR=true:=by
      cases s<;>(try (exact absurd rfl hs))<;>cases p<;>(try (exact h.elim))<;>(try (simp [QT.app] at h;done))<;>first
       | exact ⟨⟨_,_,_,h⟩,rfl⟩
       | exact ⟨⟨_,_,_,h.2⟩,rfl⟩
       | skip
      all_goals
       cases rows with
       | nil=>simp [QT.app] at h
       | cons B rows=>
         cases B<;>first
          | exact ⟨⟨_,_,_,h.2⟩,rfl⟩
          | (simp [QT.app] at h;done)
          | (obtain ⟨_,_,_,_,_,_,_,h⟩:=h;exact ⟨⟨_,_,_,h⟩,rfl⟩)
     obtain ⟨⟨Q',b',rows',h'⟩,hp⟩:=key
     intro q hq
     rcases oI.1 hq with rfl | hq
     ·exact hp
     ·exact QT.app_plain l Q' b' ps rows' N h' q hq
theorem zG9 {cs:List PV} {ds:List D} (h:zCA cs=some ds) {live:Nat->Prop} (hok:PV.OkL w live cs):PV.val [] (.dg cs.length (.ag ds))=PV.val e (.pg cs):=by
 obtain ⟨_,h2⟩:=wx (e:=e) h hok
 simp [PV.val,PV.val1,D.val,h2]
theorem y5 {bx:List Bx} {v:Value} {p q:PV} (hv:ValOk av w e pB bx v p) (h:vh p=some q):v=q.val []/\(∀ live,(∀ b,live b->zJ av pB e bx b)->q.Ok w live)/\q.refs=[]:=by
 have hne:p≠.any:=fun hc=>by subst hc;simp [vh] at h
 have hv1:=hv.1.resolve_left hne
 have hok:=hv.2.1
 have same:p=q->q.refs=[]->v=q.val []/\(∀ live,(∀ b,live b->zJ av pB e bx b)->q.Ok w live)/\q.refs=[]:=fun hpq hr=>by
  subst hpq
  refine ⟨by rw [hv1];exact (PV.val_congr p (by rw [hr];simp)).symm,fun live hl=>PV.Ok.mono (fun _ _ _=>rfl) (oF _) (fun b _=>hl b) p hok,hr⟩
 cases p<;>simp [vh] at h
 case pg cs=>
  split at h
  ·rename_i ds hds
   simp at h;subst h
   simp only [PV.Ok] at hok
   refine ⟨by rw [hv1,zG9 hds hok.1],fun live hl=>?_,rfl⟩
   obtain ⟨g1,_⟩:=wx (e:=e) hds hok.1
   exact ⟨(Good.ag fun d hd=>(g1 d hd).1).mono (fun _ _ _=>rfl) (fun b _=>hl b),ds,rfl,wG hds,fun d hd=>(g1 d hd).2⟩
  ·cases h
 all_goals (subst h;exact same rfl rfl)
theorem tc {p:PV} (h:p.isCap=true):p.val e=p.cv e:=by
 cases p<;>simp [PV.isCap] at h<;>rfl
theorem zDv {bx:List Bx} (h:Mem av pB w e bx) {k z b:Nat} {B:Bx} {x:D} (hk:bx[k]?=some B) (hkp:k∉pB) (hc:zHq B=some (z,x)) :
  ∃ b c t,e.at k=some b/\w.heap[b]?=some (.cells c t (0,0))/\Lives pB e bx k b/\Good w (zJ av pB e bx) x/\eOk z x/\∀ (i:Nat) (u:D),x.cells[i]?=some u->c[i]?=some u.cv:=by
 have hr:=h.br k B hk hkp
 have ho:=h.bo k B hk hkp
 cases B with
 | gone=>cases hc
 | arr=>cases hc
 | var cs =>
   obtain ⟨b,c,t,h1,h2,h3,h4⟩:=hr
   have hl:Lives pB e bx k b:=⟨hkp,h1,_,hk,by simp⟩
   have ho1:=ho.1
   refine ⟨b,c,t,h1,h2,hl,?_⟩
   simp only [zHq] at hc
   split at hc
   ·rename_i p
    split at hc
    ·rename_i d hd
     simp at hc
     obtain ⟨rfl,rfl⟩:=hc
     obtain ⟨g1,g2,g3,g4,_⟩:=yO (e:=e) hd (PV.OkL_iff.1 ho1 p (by simp))
     have hcl:d.cells=[d]:=by cases d<;>simp [D.isCell] at g2<;>rfl
     refine ⟨g1,by simpa [eOk] using g2,fun i u hu=>?_⟩
     rw [hcl] at hu
     cases i with
     | zero=>
       simp at hu;subst hu
       rcases h4 0 p rfl with h5 | h5
       ·subst h5;simp [uU] at hd
       ·rw [g3];exact h5
     | succ i=>simp at hu
    ·cases hc
   ·split at hc
    ·rename_i n ds hd hds
     simp at hc
     obtain ⟨rfl,rfl⟩:=hc
     obtain ⟨g1,g2⟩:=wx (e:=e) hds ho1
     refine ⟨Good.ag fun d hd=>(g1 d hd).1,?_,fun i u hu=>?_⟩
     ·simp only [eOk,Nat.add_one_ne_zero,nO]
      exact ⟨ds,rfl,by rw [wG hds];exact hd,fun d hd=>(g1 d hd).2⟩
     ·simp only [D.cells] at hu
      have hlt:i<ds.length:=(oB.1 hu).1
      have hlp:i<cs.length:=by rw [<-wG hds];exact hlt
      have hmap:(ds.map D.cv)[i]?=(PV.cvs e cs)[i]?:=by rw [g2]
      rw [oE,hu,PV.cvs_eq,oE,oG hlp] at hmap
      simp only [oT,oZ] at hmap
      rcases h4 i _ (oG hlp) with h5 | h5
      ·exfalso
       have:∀ (l:List PV) (r:List D),zCA l=some r->PV.any∉l:=by
        intro l
        induction l with
        | nil=>intro r _;simp
        | cons q l ih=>
          intro r hr hm
          simp only [zCA] at hr
          split at hr
          ·rename_i d ds' h7 h8
           rcases oI.1 hm with rfl | hm
           ·simp [uU] at h7
           ·exact ih _ h8 hm
          ·cases hr
       exact this cs ds hds (by rw [<-h5];exact List.getElem_mem hlp)
      ·rw [hmap];exact h5
    ·cases hc
 | vd y n=>
   obtain ⟨b,c,t,h1,h2,h3,h4,h5⟩:=hr
   refine ⟨b,c,t,h1,h2,⟨hkp,h1,_,hk,by simp⟩,?_⟩
   simp only [zHq] at hc
   split at hc
   ·cases hc
   ·simp at hc
    obtain ⟨rfl,rfl⟩:=hc
    exact ⟨ho,by simpa [eOk] using h4,h5⟩
def ArgOk (av:Nat->Prop) (pB:List Nat) (w:World) (e:Env) (st:St) (bs:List (Option Addr)) (v:Value) (p q:PV):Prop:=
 q.val []=v/\(∀ live,(∀ b,live b->zJ av pB e st.bx b/\b∉wr bs)->q.Ok w live)/\q.refs=[]/\(p.isCap=true->q.isCap=true)
theorem wR {a b:List (Option Addr)}:wr (a++b)=wr a++wr b:=by simp [wr]
theorem ArgOk.mono {bs bs':List (Option Addr)} {v:Value} {p q:PV} (h:ArgOk av pB w e st bs v p q) (hb:∀ b∈wr bs,b∈wr bs'):ArgOk av pB w e st bs' v p q:=
 ⟨h.1,fun live hl=>h.2.1 live fun b hlb=>⟨(hl b hlb).1,fun hc=>(hl b hlb).2 (hb b hc)⟩,h.2.2⟩
def tL (pB:List Nat) (e:Env) (bx:List Bx) (bs:List (Option Addr)):Prop:=∀ b∈wr bs,∃ k,Lives pB e bx k b
theorem x9 {bx:List Bx} {x:Option Addr} (hb:∀ ad,x=some ad->zJ av pB e bx ad.block):∀ {ps:List PV} {K:Prop},(∀ p∈ps,∃ v,ValOk av w e pB bx v p)->zI4 x ps K->K
 | [],K,_,h=>h
 | p::ps,K,hp,h=>by
   have hps:=fun q hq=>hp q (mH _ hq)
   obtain ⟨v,hv⟩:=hp p (by simp)
   have hok:=hv.2.1
   cases p<;>simp only [zI4] at h
   case sv=>
    refine x9 hb hps (h fun y hy ad had hm=>?_)
    rw [o8] at hy;subst hy
    exact hok.2 _ hm (hb ad had)
   case dg=>
    refine x9 hb hps (h fun y hy ad had hm=>?_)
    rw [o8] at hy;subst hy
    exact hok.1.2 _ hm (hb ad had)
   all_goals exact x9 hb hps h
theorem uH (h:Mem av pB w e st.bx) {al:List PV} (hal:∀ p∈al,∃ v,ValOk av w e pB st.bx v p):∀ (cs:List PV) (K:List D->List (Option Addr)->Prop),(∀ p∈cs,p.Ok w (zJ av pB e st.bx)/\∀ k∈p.refs,k∉pB)->zAd st al cs K ->
  ∃ ds bs,K ds bs/\ds.length=cs.length/\ds.map D.cv=PV.cvs e cs/\(∀ d∈ds,d.isCell)/\(∀ live,(∀ b,live b->zJ av pB e st.bx b/\b∉wr bs)->∀ d∈ds,Good w live d)/\tL pB e st.bx bs
 | [],K,_,hK=>⟨[],[],hK,rfl,rfl,by simp,by simp,by simp [tL,wr]⟩
 | p :: ps, K,hc,hK=>by
   have hps:=fun q hq=>hc q (mH _ hq)
   have byD:∀ d,uU p=some d->zAd st al ps (fun ds bs=>K (d::ds) bs)->∃ ds bs,K ds bs/\ds.length=(p::ps).length/\ds.map D.cv=PV.cvs e (p::ps)/\(∀ d∈ds,d.isCell)/\(∀ live,(∀ b,live b->zJ av pB e st.bx b/\b∉wr bs)->∀ d∈ds,Good w live d)/\tL pB e st.bx bs:=fun d hd hK=>by
    obtain ⟨g1,g2,g3,_,_⟩:=yO (w:=w) (e:=e) hd (hc p (by simp)).1
    obtain ⟨ds,bs,k1,k2,k3,k4,k5,k6⟩:=uH h hal ps _ hps hK
    refine ⟨d::ds,bs,k1,by simp [k2],by simp [PV.cvs,k3,g3],fun x hx=>?_,fun live hl x hx=>?_,k6⟩
    ·rcases oI.1 hx with rfl | hx
     ·exact g2
     ·exact k4 x hx
    ·rcases oI.1 hx with rfl | hx
     ·exact g1.mono (fun _ _ _=>rfl) fun b _ hb=>(hl b hb).1
     ·exact k5 live hl x hx
   simp only [zAd] at hK
   split at hK
   ·rename_i k z lo n c
    split at hK
    ·rename_i t z' es c' hk
     cases hd:decide (z=z'/\lo=0) with
     | false=>rw [hd] at hK;exact hK.elim
     | true =>
       rw [hd] at hK
       simp at hd
       obtain ⟨hz,hlo⟩:=hd
       subst hz;subst hlo
       obtain ⟨⟨rfl,rfl⟩,hK⟩:=hK
       have hkp:=(hc (.sb k z 0 es.length c) (by simp)).2 k (by simp [PV.refs])
       have hr:=h.br k _ hk hkp
       have hok:=h.bo k _ hk hkp
       have hK1:=hK ((e.at k).map fun b=>⟨b,0,none⟩) (fun ad had d hd hb=>by
        cases hat:e.at k with
        | none=>rw [hat] at had;cases had
        | some b=>
          rw [hat] at had;cases had
          exact (hok d hd).2 b hb (.inr ⟨k,hkp,hat,_,hk,by simp⟩))
       have hK2:=x9 (fun ad had=>by
        cases hat:e.at k with
        | none=>rw [hat] at had;cases had
        | some b=>
          rw [hat] at had;cases had
          exact .inr ⟨k,hkp,hat,_,hk,by simp⟩) hal hK1
       obtain ⟨ds,bs,k1,k2,k3,k4,k5,k6⟩:=uH h hal ps _ hps hK2
       refine ⟨_,_,k1,by simp [k2],?_,fun x hx=>?_,fun live hlv x hx=>?_,fun b hb=>?_⟩
       ·simp only [oq,PV.cvs,k3]
        congr 1
        cases hat:e.at k<;>simp [PV.cv,D.cv,hat]
       ·rcases oI.1 hx with rfl | hx
        ·simp [D.isCell]
        ·exact k4 x hx
       ·rcases oI.1 hx with rfl | hx
        ·have hgl:∀ x∈es,Good w live x:=fun x hx=>(hok x hx).mono (fun _ _ _=>rfl) (fun b _ hb=>(hlv b hb).1)
         rcases hr with ⟨g1,g2,g3⟩ | ⟨b,cc,g1,g2,g3,g4,g5,g6,g7⟩
         ·subst g2;subst g3
          rw [g1]
          exact ti
         ·rw [g1]
          refine ⟨.sl (fun _=>rfl) g4 g6 (fun x hx=>(hgl x hx).1) (.inr ⟨cc,t,(0,0),g2,fun i u hu=>by simpa using g7 i u hu⟩),fun j hj hlj=>?_⟩
          simp only [oT,D.foot] at hj
          split at hj
          ·simp at hj
          ·rcases oI.1 hj with rfl | hj
           ·exact (hlv _ hlj).2 (by simp [wr,g1])
           ·obtain ⟨x,hx,hjx⟩:=zD.1 hj
            exact (hgl x hx).2 j hjx hlj
        ·exact k5 live (fun b hb=>⟨(hlv b hb).1,fun hc=>(hlv b hb).2 (by
          rw [show (((e.at k).map fun b=>(⟨b,0,none⟩:Addr))::bs)=[((e.at k).map fun b=>(⟨b,0,none⟩:Addr))]++bs from rfl,wR]
          exact o5 _ hc)⟩) x hx
       ·rw [show (((e.at k).map fun b=>(⟨b,0,none⟩:Addr))::bs)=[((e.at k).map fun b=>(⟨b,0,none⟩:Addr))]++bs from rfl,wR] at hb
        rcases oO.1 hb with hb | hb
        ·cases hat:e.at k with
         | none=>simp [wr,hat] at hb
         | some b'=>
           simp [wr,hat] at hb;subst hb
           exact ⟨k,hkp,hat,_,hk,by simp⟩
        ·exact k6 b hb
    ·exact hK.elim
   ·split at hK
    ·rename_i d hd
     exact byD d hd hK
    ·exact hK.elim
mutual
theorem zFF (h:Mem av pB w e st.bx) {al:List PV} (hal:∀ p∈al,∃ v,ValOk av w e pB st.bx v p):∀ (p:PV) (v:Value) (K:PV->List (Option Addr)->Prop),ValOk av w e pB st.bx v p->zCY st al p K->∃ q bs,K q bs/\ArgOk av pB w e st bs v p q/\tL pB e st.bx bs
 | .sb k z lo n c,v,K,hv,hK=>by
   simp only [zCY] at hK
   split at hK
   ·rename_i t z' es c' hk
    cases hd:decide (z=z'/\lo=0) with
    | false=>rw [hd] at hK;exact hK.elim
    | true=>
      rw [hd] at hK
      simp at hd
      obtain ⟨hz,hlo⟩:=hd
      subst hz;subst hlo
      obtain ⟨⟨rfl,rfl⟩,hK⟩:=hK
      have hkp:=(hv.2.2 k (by simp [PV.refs])).1
      have hr:=h.br k _ hk hkp
      have hok:=h.bo k _ hk hkp
      have hv1:=hv.1.resolve_left (by simp)
      have hK1:=hK ((e.at k).map fun b=>⟨b,0,none⟩) (fun ad had d hd hb=>by
       cases hat:e.at k with
       | none=>rw [hat] at had;cases had
       | some b=>
         rw [hat] at had;cases had
         exact (hok d hd).2 b hb (.inr ⟨k,hkp,hat,_,hk,by simp⟩))
      refine ⟨_,_,x9 (fun ad had=>?_) hal hK1,⟨?_,fun live hlv=>?_,rfl,fun _=>rfl⟩,fun b hb=>?_⟩
      ·cases hat:e.at k with
       | none=>rw [hat] at had;cases had
       | some b=>
         rw [hat] at had;cases had
         exact .inr ⟨k,hkp,hat,_,hk,by simp⟩
      ·rw [hv1]
       cases hat:e.at k<;>simp [PV.val,PV.val1,PV.cv,hat]
      ·have hgl:∀ x∈es,Good w live x:=fun x hx=>(hok x hx).mono (fun _ _ _=>rfl) (fun b _ hb=>(hlv b hb).1)
       rcases hr with ⟨g1,g2,g3⟩ | ⟨b,cc,g1,g2,g3,g4,g5,g6,g7⟩
       ·subst g2;subst g3
        rw [g1]
        exact ti
       ·rw [g1]
        refine ⟨.sl (fun _=>rfl) g4 g6 (fun x hx=>(hgl x hx).1) (.inr ⟨cc,t,(0,0),g2,fun i u hu=>by simpa using g7 i u hu⟩),fun j hj hlj=>?_⟩
        simp only [oT,D.foot] at hj
        split at hj
        ·simp at hj
        ·rcases oI.1 hj with rfl | hj
         ·exact (hlv _ hlj).2 (by simp [wr,g1])
         ·obtain ⟨x,hx,hjx⟩:=zD.1 hj
          exact (hgl x hx).2 j hjx hlj
      ·cases hat:e.at k with
       | none=>simp [wr,hat] at hb
       | some b'=>
         simp [wr,hat] at hb;subst hb
         exact ⟨k,hkp,hat,_,hk,by simp⟩
   ·exact hK.elim
 | .pb k z i o,v,K,hv,hK=>by
   simp only [zCY] at hK
   split at hK
   ·rename_i B hk
    split at hK
    ·rename_i z x hd hx
     simp at hd
     obtain ⟨rfl,rfl⟩:=hd
     have hkp:=(hv.2.2 k (by simp [PV.refs])).1
     have hv1:=hv.1.resolve_left (by simp)
     obtain ⟨b,c,t,g1,g2,g3,g4,g5,g6⟩:=zDv (b:=0) h hk hkp hx
     refine ⟨_,_,x9 (fun ad had=>by cases had;exact .inr ⟨k,g3⟩) hal (hK ⟨b,0,none⟩ (fun ad had d hd hb=>by cases had;simp at hd;subst hd;exact g4.2 _ hb (.inr ⟨k,g3⟩))),⟨?_,fun live hlv=>⟨?_,g5,rfl,.inr ⟨c,t,(0,0),g2,fun i u hu=>by simpa using g6 i u hu⟩,fun hl=>(hlv _ hl).2 (by simp [wr]),Lives.lt h g3⟩,rfl,fun _=>rfl⟩,fun b' hb=>?_⟩
     ·rw [hv1];simp [PV.val,PV.val1,PV.cv,g1]
     ·exact g4.mono (fun _ _ _=>rfl) fun b _ hb=>(hlv b hb).1
     ·simp [wr] at hb;subst hb;exact ⟨k,g3⟩
    ·exact hK.elim
   ·exact hK.elim
 | .fn f caps,v,K,hv,hK=>by
   simp only [zCY] at hK
   split at hK
   ·rename_i hcap
    rw [oS] at hcap
    have hv1:=hv.1.resolve_left (by simp)
    have hok:=hv.2.1
    simp only [PV.Ok,PV.OkL_iff] at hok
    obtain ⟨as,bs,h1,h2,h3,h4⟩:=tI h hal caps (caps.map (PV.cv e)) _ (by simp) (fun i p v hp hpv=>by
     rw [oE,hp] at hpv
     simp at hpv;subst hpv
     have hm:=oC hp
     exact ⟨.inr (tc (hcap p hm)).symm,hok p hm,fun k hk=>hv.2.2 k (by simp only [PV.refs];exact PV.refsL_mem.2 ⟨p,hm,hk⟩)⟩) hK
    have hcvs:PV.cvs [] as=PV.cvs e caps:=by
     rw [PV.cvs_eq,PV.cvs_eq,<-h2]
     refine oe fun q hq=>?_
     obtain ⟨i,hi⟩:=oP.1 hq
     obtain ⟨p,hp,ho⟩:=h3 i q hi
     exact (tc (ho.2.2.2 (hcap p (oC hp)))).symm
    refine ⟨_,_,h1,⟨?_,fun live hlv=>?_,?_,fun _=>rfl⟩,h4⟩
    ·rw [hv1]
     show (PV.fn f as).cv []=(PV.fn f caps).cv e
     simp only [PV.cv,hcvs]
    ·simp only [PV.Ok,PV.OkL_iff]
     intro q hq
     obtain ⟨i,hi⟩:=oP.1 hq
     obtain ⟨p,hp,ho⟩:=h3 i q hi
     exact ho.2.1 live hlv
    ·simp only [PV.refs]
     refine nA.2 fun k hk=>?_
     obtain ⟨q,hq,hkq⟩:=PV.refsL_mem.1 hk
     obtain ⟨i,hi⟩:=oP.1 hq
     obtain ⟨p,hp,ho⟩:=h3 i q hi
     rw [ho.2.2.1] at hkq;simp at hkq
   ·exact hK.elim
 | .any,v,K,hv,hK=>by simp [zCY,vh] at hK
 | .int ..,v,K,hv,hK=>by simp [zCY,vh] at hK;exact ⟨_,_,hK,⟨(hv.1.resolve_left (by simp)).symm,fun _ _=>trivial,rfl,fun _=>rfl⟩,by simp [tL,wr]⟩
 | .bool ..,v,K,hv,hK=>by simp [zCY,vh] at hK;exact ⟨_,_,hK,⟨(hv.1.resolve_left (by simp)).symm,fun _ _=>trivial,rfl,fun _=>rfl⟩,by simp [tL,wr]⟩
 | .str ..,v,K,hv,hK=>by simp [zCY,vh] at hK;exact ⟨_,_,hK,⟨(hv.1.resolve_left (by simp)).symm,fun _ _=>trivial,rfl,fun _=>rfl⟩,by simp [tL,wr]⟩
 | .tp ..,v,K,hv,hK=>by simp [zCY,vh] at hK
 | .d ..,v,K,hv,hK=>by simp [zCY,vh] at hK
 | .lit x,v,K,hv,hK=>by
   have hK:K (.lit x) []:=by simpa [zCY,vh] using hK
   obtain ⟨g1,g2,g3⟩:=y5 hv (q:=.lit x) rfl
   exact ⟨_,_,hK,⟨g1.symm,fun live hl=>g2 live fun b hb=>(hl b hb).1,g3,fun _=>rfl⟩,by simp [tL,wr]⟩
 | .sv a z es c,v,K,hv,hK=>by
   have hK:K (.sv a z es c) []:=by simpa [zCY,vh] using hK
   obtain ⟨g1,g2,g3⟩:=y5 hv (q:=.sv a z es c) rfl
   exact ⟨_,_,hK,⟨g1.symm,fun live hl=>g2 live fun b hb=>(hl b hb).1,g3,fun _=>rfl⟩,by simp [tL,wr]⟩
 | .dg n x,v,K,hv,hK=>by
   have hK:K (.dg n x) []:=by simpa [zCY,vh] using hK
   obtain ⟨g1,g2,g3⟩:=y5 hv (q:=.dg n x) rfl
   exact ⟨_,_,hK,⟨g1.symm,fun live hl=>g2 live fun b hb=>(hl b hb).1,g3,id⟩,by simp [tL,wr]⟩
 | .dc x,v,K,hv,hK=>by
   have hK:K (.dc x) []:=by simpa [zCY,vh] using hK
   obtain ⟨g1,g2,g3⟩:=y5 hv (q:=.dc x) rfl
   exact ⟨_,_,hK,⟨g1.symm,fun live hl=>g2 live fun b hb=>(hl b hb).1,g3,fun _=>rfl⟩,by simp [tL,wr]⟩
 | .pd ad z x,v,K,hv,hK=>by
   have hK:K (.pd ad z x) []:=by simpa [zCY,vh] using hK
   obtain ⟨g1,g2,g3⟩:=y5 hv (q:=.pd ad z x) rfl
   exact ⟨_,_,hK,⟨g1.symm,fun live hl=>g2 live fun b hb=>(hl b hb).1,g3,fun _=>rfl⟩,by simp [tL,wr]⟩
 | .pg cs,v,K,hv,hK=>by
   simp only [zCY] at hK
   have hv1:=hv.1.resolve_left (by simp)
   have hok:=hv.2.1
   simp only [PV.Ok] at hok
   obtain ⟨hok1,hok2⟩:=hok
   rw [PV.OkL_iff] at hok1
   cases hn:zCA cs with
   | some ds=>
     rw [hn] at hK
     obtain ⟨g1,g2,g3⟩:=y5 hv (q:=.dg cs.length (.ag ds)) (by simp [vh,hn])
     exact ⟨_,_,hK,⟨g1.symm,fun live hl=>g2 live fun b hb=>(hl b hb).1,g3,fun hc=>by simp [PV.isCap] at hc⟩,by simp [tL,wr]⟩
   | none=>
     rw [hn] at hK
     obtain ⟨ds,bs,k1,k2,k3,k4,k5,k6⟩:=uH h hal cs _ (fun p hp=>⟨hok1 p hp,fun k hk=>(hv.2.2 k (by simp only [PV.refs];exact PV.refsL_mem.2 ⟨p,hp,hk⟩)).1⟩) hK
     refine ⟨_,_,k1,⟨?_,fun live hlv=>⟨⟨.ag fun x hx=>(k5 live hlv x hx).1,fun b hb hl=>?_⟩,ds,rfl,k2,k4⟩,rfl,fun hc=>by simp [PV.isCap] at hc⟩,k6⟩
     ·rw [hv1]
      simp only [PV.val,PV.val1,D.val,k3]
     ·simp only [D.foot] at hb
      obtain ⟨x,hx,hbx⟩:=zD.1 hb
      exact (k5 live hlv x hx).2 b hbx hl
theorem tI (h:Mem av pB w e st.bx) {al:List PV} (hal:∀ p∈al,∃ v,ValOk av w e pB st.bx v p):∀ (ps:List PV) (vs:List Value) (K:List PV->List (Option Addr)->Prop),ps.length=vs.length->(∀ (i:Nat) (p:PV) (v:Value),ps[i]?=some p->vs[i]?=some v->ValOk av w e pB st.bx v p)->zHE st al ps K ->
  ∃ as bs,K as bs/\as.map (PV.val [])=vs/\(∀ (i:Nat) (q:PV),as[i]?=some q->∃ p,ps[i]?=some p/\ArgOk av pB w e st bs (q.val []) p q)/\tL pB e st.bx bs
 | [],vs,K,hl,_,hK=>by
   cases vs with
   | nil=>exact ⟨[],[],hK,rfl,by simp,by simp [tL,wr]⟩
   | cons=>simp at hl
 | p :: ps,vs,K,hl,hv,hK=>by
   cases vs with
   | nil=>simp at hl
   | cons v vs=>
     simp only [zHE] at hK
     obtain ⟨q,b1,h1,h2,h2b⟩:=zFF h hal p v _ (hv 0 p v rfl rfl) hK
     obtain ⟨qs,b2,h3,h4,h5,h5b⟩:=tI h hal ps vs _ (by simpa using hl) (fun i p v hp hpv=>hv (i+1) p v (by simpa using hp) (by simpa using hpv)) h1
     refine ⟨q::qs,b1++b2,h3,by simp [h2.1,h4],fun i r hr=>?_,fun b hb=>?_⟩
     ·cases i with
      | zero=>
        simp at hr;subst hr
        refine ⟨p,rfl,?_⟩
        have:=h2.mono (bs':=b1++b2) fun b hb=>by rw [wR];exact oW _ hb
        exact ⟨rfl,this.2⟩
      | succ i=>
        obtain ⟨p',hp',ho⟩:=h5 i r (by simpa using hr)
        exact ⟨p',by simpa using hp',ho.mono fun b hb=>by rw [wR];exact o5 _ hb⟩
     ·rw [wR] at hb
      rcases oO.1 hb with hb | hb
      ·exact h2b b hb
      ·exact h5b b hb
end
theorem rF {p:PV} {f:FuncId} {caps:List PV} {bx:List Bx} {v:Value} (hv:ValOk av w e pB bx v p) (h:zJA p=some (f,caps)):ValOk av w e pB bx v (.fn f caps):=by
 unfold zJA at h
 split at h
 ·cases h;exact hv
 ·rename_i g ds
  cases h
  exact zAm hv
 ·cases h
theorem zEe {bs:List (Option Addr)} {d:D} (h:Off bs d):∀ b∈wr bs,b∉d.foot:=by
 intro b hb
 simp only [wr,nK] at hb
 obtain ⟨x,hx,hxb⟩:=hb
 cases x with
 | none=>simp at hxb
 | some ad=>simp at hxb;subst hxb;exact h _ hx ad rfl
def PV.offB (b:Nat):PV->Prop
 | .sv a z es c=>b∉(D.sl a z es c).foot
 | .dg _ x=>b∉x.foot
 | .dc x=>b∉x.foot
 | _=>True
theorem zAo {bs:List (Option Addr)}:∀ {ps:List PV} {K:Prop},zIx bs ps K->K/\∀ b∈wr bs,∀ p∈ps,p.offB b
 | [],K,h=>⟨h,by simp⟩
 | p::ps,K,h=>by
   have step:(∀ b∈wr bs,p.offB b)->zIx bs ps K->K/\∀ b∈wr bs,∀ q∈p::ps,q.offB b:=fun h1 h2=>by
    obtain ⟨h3,h4⟩:=zAo h2
    refine ⟨h3,fun b hb q hq=>?_⟩
    rcases oI.1 hq with rfl | hq
    ·exact h1 b hb
    ·exact h4 b hb q hq
   cases p<;>simp only [zIx] at h
   case sv=>exact step (zEe h.1) h.2
   case dg=>exact step (zEe h.1) h.2
   case dc=>exact step (zEe h.1) h.2
   all_goals exact step (fun _ _=>trivial) h
theorem zAj {bs:List (Option Addr)}:∀ {rows:List Bx} {K:Prop},zKy bs rows K->K/\∀ b∈wr bs,∀ B∈rows,B.offB b
 | [],K,h=>⟨h,by simp⟩
 | B::rows,K,h=>by
   cases B<;>simp only [zKy] at h
   obtain ⟨h3,h4⟩:=zAj h.2
   refine ⟨h3,fun b hb B hB=>?_⟩
   rcases oI.1 hB with rfl | hB
   ·have:=zEe h.1 b hb
    simpa [D.foot,Bx.offB] using this
   ·exact h4 b hb B hB
theorem zFo {bs:List (Option Addr)} {ps:List PV} {rows:List Bx} {K:Prop} (h:zLd bs ps rows K):K/\∀ b∈wr bs,(∀ p∈ps,p.offB b)/\∀ B∈rows,B.offB b:=by
 cases bs with
 | nil=>exact ⟨h,by simp [wr]⟩
 | cons b bs=>
   simp only [zLd] at h
   obtain ⟨h1,h2⟩:=zAo h
   obtain ⟨h3,h4⟩:=zAj h1
   exact ⟨h3,fun b hb=>⟨h2 b hb,h4 b hb⟩⟩
theorem xW {N:Nat}:∀ {ps:List PV} {K:Prop},(∀ p∈ps,match p with | .sv a z es c=>Bel N (.sl a z es c) | .dg _ x=>Bel N x | _=>True)->zII N ps K->K
 | [],K,_,h=>h
 | p::ps,K,hb,h=>by
   have hp:=hb p (by simp)
   have hps:=fun q hq=>hb q (mH _ hq)
   cases p<;>simp only [zII] at h hp
   case sv=>exact xW hps (h hp)
   case dg=>exact xW hps (h hp)
   all_goals exact xW hps h
theorem ud {N:Nat}:∀ {rows:List Bx} {K:Prop},(∀ t z es c,Bx.arr t z es c∈rows->Bel N (.ag es))->zJ3 N rows K->K
 | [],K,_,h=>h
 | B::rows,K,hb,h=>by
   have hps:=fun t z es c hq=>hb t z es c (mH _ hq)
   cases B<;>simp only [zJ3] at h
   case arr t z es c=>exact ud hps (h (hb t z es c (by simp)))
   all_goals exact ud hps h
theorem zDM {f:FuncId} (h:yo P f=true) (args:Array Value) (w:World):(callFunc f args).run P w=.ok (.enter f args) w:=by
 unfold yo at h
 cases hf:P.funcs[f]? with
 | none=>simp [hf] at h
 | some fn=>
   simp only [hf,oL,bne_iff_ne,ne_eq] at h
   obtain ⟨h1,h2⟩:=h
   cases hb:fn.body with
   | none=>simp [hb] at h2
   | some c=>simp [callFunc,hf,h1,hb]
theorem PV.shift_val1 {d:Nat} {e e':Env} (hat:∀ k,Env.at (e++e') (d+k)=e'.at k) {p:PV} (hp:p.plainR=true):(p.shift d).val1 (e++e')=p.val1 e':=by
 cases p<;>simp [PV.plainR] at hp<;>simp [PV.shift,PV.val1,PV.cv,hat]
theorem PV.shift_cv {d:Nat} {e e':Env} (hat:∀ k,Env.at (e++e') (d+k)=e'.at k) {p:PV} (hp:p.plainR=true):(p.shift d).cv (e++e')=p.cv e':=by
 cases p<;>simp [PV.plainR] at hp<;>simp [PV.shift,PV.cv,hat]
theorem zFV {d:Nat} {e e':Env} (hat:∀ k,Env.at (e++e') (d+k)=e'.at k) {ps:List PV} (hp:∀ p∈ps,p.plainR=true) {pk:Bool}:(zAX pk (ps.map (PV.shift d))).val (e++e')=zFO pk e' ps:=by
 cases pk with
 | true=>
   simp only [zAX,zFO,PV.val,PV.val1,PV.cvs_eq,nc]
   congr 2
   exact oe fun p h=>PV.shift_cv hat (hp p h)
 | false=>
 have key:∀ p∈ps,(p.shift d).val1 (e++e')=p.val1 e':=fun p h=>PV.shift_val1 hat (hp p h)
 have one:∀ p,p∈ps->(p.shift d).val (e++e')=p.val1 e':=fun p h=>by
  rw [<-key p h]
  have:=hp p h
  cases p<;>simp [PV.plainR] at this<;>rfl
 rcases ps with _ | ⟨p,_ | ⟨q,ps⟩⟩
 ·rfl
 ·exact one p (by simp)
 ·simp only [oq,zAX,zCz,PV.val,zFO,zHM]
  rw [key p (by simp),key q (by simp),nc]
  congr 4
  exact oe fun r hr=>key r (by simp [hr])
theorem zAz {d:Nat} {p:PV} (hp:p.plainR=true):∀ k∈(p.shift d).refs,∃ j∈p.refs,k=d+j:=by
 cases p<;>simp [PV.plainR] at hp<;>simp [PV.shift,PV.refs]
theorem zC3 {pk:Bool} {ps:List PV}:∀ k∈(zAX pk ps).refs,∃ p∈ps,k∈p.refs:=by
 intro k hk
 cases pk with
 | true=>simp only [zAX,PV.refs] at hk;exact PV.refsL_mem.1 hk
 | false=>
 rcases ps with _ | ⟨p,_ | ⟨q,ps⟩⟩
 ·simp [zAX,zCz,PV.refs,PV.refsL] at hk
 ·exact ⟨p,by simp,hk⟩
 ·simp only [zAX,zCz,PV.refs] at hk
  exact PV.refsL_mem.1 hk
theorem zGo {live:Nat->Prop} {pk:Bool} {ps:List PV} (h:∀ p∈ps,p.Ok w live) (hc:pk=true->∀ p∈ps,p.isC):(zAX pk ps).Ok w live:=by
 cases pk with
 | true=>simp only [zAX,PV.Ok];exact ⟨PV.OkL_iff.2 h,hc rfl⟩
 | false=>
 rcases ps with _ | ⟨p,_ | ⟨q,ps⟩⟩
 ·simp [zAX,zCz,PV.Ok,PV.OkL]
 ·exact h p (by simp)
 ·simp only [zAX,zCz,PV.Ok]
  exact PV.OkL_iff.2 h
theorem zCp {d:Nat} {p:PV} (h:p.isC):(p.shift d).isC:=by cases p<;>exact h
theorem QT.app_pk {l:List Sh} {Q:QT l} {b:Nat} {ps:List PV} {rows:List Bx} {N:Nat} (hk:rh l=true) (h:QT.app l Q b ps rows N):∀ p∈ps,p.isC:=by
 cases l with
 | nil=>simp [rh] at hk
 | cons s l=>cases s<;>simp [rh] at hk;exact QT.app_cells l Q b ps rows N h.1 h.2
theorem zHV {N:Nat} {bs:List (Option Addr)} {K:Prop} (h:zLU N bs K) (hb:rx N bs):K:=by
 unfold zLU at h
 split at h
 ·exact h
 ·exact h hb
/-- as told, or the argument that came back -/
def BkR (as al:List PV) (p q:PV):Prop:=q=p\/∃ (j:Nat) (a:Option Addr) (z:Nat) (es:List D) (c k z' lo n c':Nat),p=PV.dc (.sl a z es c)/\as[j]?=some (PV.sv a z es c)/\al[j]?=some (PV.sb k z' lo n c')/\q=PV.sb k z' lo n c'
theorem ph {as al:List PV}:∀ (l:List Sh) (ps:List PV) (K:List PV->Prop),bkP as al l ps K->∃ qs:List PV,K qs/\qs.length=ps.length/\∀ (i:Nat) (q:PV),qs[i]?=some q->∃ p:PV,ps[i]?=some p/\BkR as al p q
 | [],ps,K,h=>⟨ps,h,rfl,fun i q hq=>⟨q,hq,.inl rfl⟩⟩
 | s :: l,ps,K,h=>by
   have more:∀ (p q:PV) (ps:List PV),BkR as al p q->bkP as al l ps (fun qs=>K (q::qs)) ->
     ∃ qs:List PV,K qs/\qs.length=(p::ps).length/\∀ (i:Nat) (q:PV),qs[i]?=some q->∃ p':PV,(p::ps)[i]?=some p'/\BkR as al p' q:=fun p q ps hpq hb=>by
    obtain ⟨qs,g1,g2,g3⟩:=ph l ps _ hb
    refine ⟨q::qs,g1,by simp [g2],fun i r hr=>?_⟩
    cases i with
    | zero=>simp at hr;subst hr;exact ⟨p,rfl,hpq⟩
    | succ i=>exact g3 i r (by simpa using hr)
   have nil:K []->∃ qs:List PV,K qs/\qs.length=([]:List PV).length/\∀ (i:Nat) (q:PV),qs[i]?=some q->∃ p:PV,([]:List PV)[i]?=some p/\BkR as al p q:=fun h=>⟨[],h,rfl,by simp⟩
   cases s with
   | pk=>exact ph l ps K h
   | bk j=>
     cases ps with
     | nil=>exact nil h
     | cons p ps=>
       simp only [bkP] at h
       split at h
       ·rename_i x a z es c k z' lo n c' h1 h2
        exact more _ _ ps (.inr ⟨j,a,z,es,c,k,z',lo,n,c',by rw [h.1],h1,h2,rfl⟩) h.2
       ·exact more _ _ ps (.inl rfl) h
   | _=>
     cases ps with
     | nil=>exact nil h
     | cons p ps=>exact more p p ps (.inl rfl) h
theorem zIQ {E:Env} {pk:Bool} {ps qs:List PV} (hl:qs.length=ps.length) (h:∀ (i:Nat) (q p:PV),qs[i]?=some q->ps[i]?=some p->q.cv E=p.cv E/\q.val1 E=p.val1 E/\q.val E=p.val E):(zAX pk qs).val E=(zAX pk ps).val E:=by
 have hm:∀ (F:PV->Value),(∀ (i:Nat) (q p:PV),qs[i]?=some q->ps[i]?=some p->F q=F p)->qs.map F=ps.map F:=fun F hF=>by
  apply o6
  intro i
  rw [oE,oE]
  by_cases hi:i<ps.length
  ·rw [oG hi,oG (by omega:i<qs.length)]
   simp only [oT,oZ]
   exact hF i _ _ (oG _) (oG _)
  ·rw [oU (by omega),oU (by omega)]
 cases pk with
 | true=>
   simp only [zAX,PV.val,PV.val1,PV.cvs_eq]
   rw [hm _ fun i q p hq hp=>(h i q p hq hp).1]
 | false=>
   have h1:=hm _ fun i q p hq hp=>(h i q p hq hp).2.1
   rcases ps with _ | ⟨p,_ | ⟨p2,ps⟩⟩<;>rcases qs with _ | ⟨q,_ | ⟨q2,qs⟩⟩<;>simp at hl
   ·rfl
   ·exact (h 0 q p rfl rfl).2.2
   ·simp only [zAX,zCz,PV.val]
    rw [h1]
theorem zEN (h:Rel av w0 e0 pS pB a w e st) (hpl:∀ k∈pB,k<st.bx.length) {sh:FuncId->List Sh} {o:Oper} {c:Call} {x:Operand} {args:List PV} {K:St->Prop} (ho:o.op=.call c) (hc:c.callee=.value x)
  (hx:∀ t,x=.tmp t->t∉pS) (ha:args.length=c.args.size) (hav:∀ (i:Nat) (p:PV) (y:Operand),args[i]?=some p->c.args[i]?=some y->ValOk av w e pB st.bx (a.eval y) p)
  (hps:∀ i,i∈pS->some i≠o.dst->i∈pS') (hs:zJp P sh st o.dst x args K) {next:Act->World->Prop} {Q:Exit->Act->World->Prop}
  (hn:∀ v w' e' st',K st'->(∃ rows p N,st'=St.put { st with bx:=st.bx++rows,N:=N } o.dst p)->Rel av w0 e0 pS' pB (a.put o.dst v) w' e' st'->next (a.put o.dst v) w'):o.wp P a w next Q:=by
 have ox:=yP h hx
 unfold zJp at hs
 split at hs
 rotate_left
 ·exact hs.elim
 rename_i f caps hf
 split at hs
 rotate_left
 ·exact hs.elim
 rename_i hcapall
 rw [oS] at hcapall
 have ox:=rF ox.valOk hf
 have hxv:=ox.1.resolve_left (by simp)
 have hcv:a.eval x=.func (.func f) #[] (PV.cvs e caps).toArray:=hxv
 have hcok:PV.OkL w (zJ av pB e st.bx) caps:=by have:=ox.2.1;simpa only [PV.Ok] using this
 rw [PV.OkL_iff] at hcok
 have hcrf:∀ p∈caps,∀ k∈p.refs,k∉pB/\k<st.bx.length:=fun p hp k hk=>ox.2.2 k (by simp only [PV.refs];exact PV.refsL_mem.2 ⟨p,hp,hk⟩)
 have hcap:∀ (i:Nat) (p:PV) (v:Value),(args++caps)[i]?=some p->(c.args.toList.map a.eval++caps.map (PV.cv e))[i]?=some v->ValOk av w e pB st.bx v p:=by
  intro i p v h1 h2
  by_cases hi:i<args.length
  ·rw [oK hi] at h1
   have hi2:i<c.args.toList.length:=by simp;omega
   rw [oK (by simpa using hi2),oE,oG hi2] at h2
   simp at h2
   subst h2
   exact hav i p _ h1 (by rw [oY (by omega)])
  ·rw [oM (by omega)] at h1
   rw [oM (by simp;omega),oE] at h2
   have hidx:i - (c.args.toList.map a.eval).length=i - args.length:=by simp;omega
   rw [hidx,h1] at h2
   simp at h2
   subst h2
   have hm:=oC h1
   exact ⟨.inr (tc (hcapall p hm)).symm,hcok p hm,hcrf p hm⟩
 have hln:(args++caps).length=(c.args.toList.map a.eval++caps.map (PV.cv e)).length:=by simp;omega
 have hal:∀ p∈args++caps,∃ v,ValOk av w e pB st.bx v p:=fun p hp=>by
  obtain ⟨i,hi⟩:=oP.1 hp
  have hlt:=(oB.1 hi).1
  exact ⟨_,hcap i p _ hi (oG (by rw [<-hln];exact hlt))⟩
 have hal2:=hal
 obtain ⟨as,bs,hK,has,hq,hbel⟩:=tI h.toMem hal (args++caps) (c.args.toList.map a.eval++caps.map (PV.cv e)) _ (by simp;omega) hcap hs
 obtain ⟨hcl,hA⟩:=zHV (hK w.heap.size h.hN) fun b hb ad had=>by
  obtain ⟨k,hk⟩:=hbel ad.block (by simp only [wr,nK];exact ⟨b,hb,by simp [had]⟩)
  exact Lives.lt h.toMem hk
 have hlt:∀ b,zJ av pB e st.bx b->b<w.heap.size:=fun b hb=>hb.elim (fun hb=>by have:=h.avl.lt b hb;have:=h.size;omega) fun ⟨k,hk⟩=>Lives.lt h.toMem hk
 have hC:=hA (fun b=>zJ av pB e st.bx b/\b∉wr bs) w rfl ⟨fun b hb=>hlt b hb.1,h.glob,fun b hb=>⟨.inl (h.avl.ga b hb),fun hc=>by obtain ⟨k,hk⟩:=hbel b hc;exact h.avn k b hk (h.avl.ga b hb)⟩,fun b hb=>by simp⟩ fun p hp=>by
  obtain ⟨i,hi⟩:=oP.1 hp
  obtain ⟨p',_,ho⟩:=hq i p hi
  exact ⟨ho.2.1 _ fun b hb=>hb,ho.2.2.1⟩
 have hrun:(execOp a.eval o).run P w=.ok (.enter f (as.map (PV.val [])).toArray) w:=by
  have e1:(as.map (PV.val [])).toArray=c.args.map a.eval++(PV.cvs e caps).toArray:=by
   rw [has,PV.cvs_eq]
   apply nG.1
   simp
  rw [e1]
  obtain ⟨dst,op,ty,pos,after,guard⟩:=o
  simp only at ho
  subst ho
  simp only [execOp,resolve,hc,Deferred.ofValue,hcv,invoke]
  simp [zDM hcl]
 unfold Oper.wp
 rw [hrun,Oper.upon_enter]
 refine hC.mono fun en w' hen=>?_
 cases en with
 | panicked=>exact hen.elim
 | outgrown=>exact hen.elim
 | returned v=>
   obtain ⟨ps,rows,e',hd⟩:=hen
   have happ:=QT.app_lam (sh f) st.bx.length 0 _ ps rows _ hd.q
   have hplain:=QT.app_plain _ _ _ _ _ _ hd.q
   obtain ⟨harr,hrfs⟩:=QT.app_rows _ _ _ _ _ _ hd.q
   obtain ⟨qs,hqs,hql,hqp⟩:=ph _ _ _ (happ hd.size)
   obtain ⟨hB,hoff⟩:=zFo hqs
   have hmap:∀ (P:PV->Prop),(∀ p∈ps,P (p.shift st.bx.length))->∀ q∈ps.map (PV.shift st.bx.length),P q:=fun P hP q hq=>by
    obtain ⟨p,hp,rfl⟩:=oQ.1 hq;exact hP p hp
   have hqq:∀ q∈qs,(∃ p∈ps,q=p.shift st.bx.length)\/∃ k z' lo n c',q=.sb k z' lo n c'/\k∉pB/\k<st.bx.length:=fun q hq=>by
    obtain ⟨i,hi⟩:=oP.1 hq
    obtain ⟨p',hp',h2⟩:=hqp i q hi
    rcases h2 with rfl | ⟨j,a,z,es,c,k,z',lo,n,c',_,_,hal,rfl⟩
    ·obtain ⟨p,hp,rfl⟩:=oQ.1 (oC hp')
     exact .inl ⟨p,hp,rfl⟩
    ·obtain ⟨v,hv⟩:=hal2 _ (oC hal)
     exact .inr ⟨k,z',lo,n,c',rfl,hv.2.2 k (by simp [PV.refs])⟩
   have hbel:=xW (N:=w'.heap.size) (fun q hq=>by
    rcases hqq q hq with ⟨p,hp,rfl⟩ | ⟨k,z',lo,n,c',rfl,_⟩
    ·have hpl:=hplain p hp
     have hok:=hd.ok p hp
     cases p<;>simp only [PV.shift]<;>simp only [PV.Ok] at hok
     ·exact hok.1.lt
     ·exact hok.1.1.lt
    ·trivial) hB
   have hbel2:=ud (N:=w'.heap.size) (fun t z es cc hm b hb=>by
    obtain ⟨i,hi⟩:=oP.1 hm
    have:=hd.m.bo i _ hi (by simp)
    simp only [D.foot] at hb
    obtain ⟨y,hy,hby⟩:=zD.1 hb
    exact (this y hy).1.lt b hby) hbel
   have hav':∀ b,zJ av pB e st.bx b->(zJ av pB e st.bx b/\b∉wr bs)\/b∈wr bs:=fun b hb=>by
    by_cases hbb:b∈wr bs
    ·exact .inr hbb
    ·exact .inl ⟨hb,hbb⟩
   obtain ⟨hR,hgood⟩:=zJ1 h hpl hav' hd.size hd.old hd.m harr hd.fresh (fun b hb=>(hoff b hb).2) hd.fz hd.ku
   have hat2:∀ k,Env.at (e++e') (st.bx.length+k)=e'.at k:=fun k=>by
    rw [Env.at_app,if_neg (by rw [h.el];omega)]
    congr 1;rw [h.el];omega
   refine hn v w' (e++e') _ hbel2 ⟨rows,_,_,rfl⟩ (yX hR ⟨.inr ?_,?_,?_⟩ hps)
   ·rw [hd.v,<-zFV hat2 hplain]
    refine (zIQ hql fun i q p' hqi hpi=>?_).symm
    obtain ⟨p'',hp'',h2⟩:=hqp i q hqi
    rw [hpi] at hp'';cases hp''
    rcases h2 with rfl | ⟨j,a0,z,es,c0,k,z',lo,n,c',rfl,has2,hal3,rfl⟩
    ·exact ⟨rfl,rfl,rfl⟩
    ·have hvj:∃ vj,(c.args.toList.map a.eval++caps.map (PV.cv e))[j]?=some vj:=⟨_,oG (by rw [<-hln];exact (oB.1 hal3).1)⟩
     obtain ⟨vj,hvj⟩:=hvj
     have hvo:=hcap j _ _ hal3 hvj
     have hva:vj=(PV.sv a0 z es c0).val []:=by
      have h5:=o9 (fun l=>l[j]?) has
      simp only [oE,has2,oT] at h5
      rw [hvj] at h5
      exact (o1 h5).symm
     have hlt:=(hvo.2.2 k (by simp [PV.refs])).2
     have hat0:Env.at (e++e') k=e.at k:=by rw [Env.at_app,if_pos (by rw [h.el];exact hlt)]
     have hvs:=hvo.1.resolve_left (by simp)
     have e2:(PV.sb k z' lo n c').cv (e++e')=(PV.sb k z' lo n c').cv e:=by simp only [PV.cv,hat0]
     have e3:(PV.sb k z' lo n c').cv e=(D.sl a0 z es c0).cv:=by
      have h6:(PV.sb k z' lo n c').val e=(PV.sv a0 z es c0).val []:=by rw [<-hvs,hva]
      exact h6
     exact ⟨e2.trans e3,e2.trans e3,e2.trans e3⟩
   ·refine zGo (fun q hq=>?_) (fun hpk q hq=>?_)
    ·rcases hqq q hq with ⟨p,hp,rfl⟩ | ⟨k,z',lo,n,c',rfl,_⟩
     ·have hpl':=hplain p hp
      have hok:=hd.ok p hp
      have hofb:∀ b∈wr bs,(p.shift st.bx.length).offB b:=fun b hb=>(hoff b hb).1 _ hq
      cases p<;>simp [PV.plainR] at hpl'<;>simp only [PV.shift,PV.Ok,PV.offB] at hok hofb ⊢
      ·exact hgood _ hok hofb
      ·exact ⟨hgood _ hok.1 hofb,hok.2⟩
      ·exact ⟨hgood _ hok.1 hofb,hok.2⟩
     ·trivial
    ·rcases hqq q hq with ⟨p,hp,rfl⟩ | ⟨k,z',lo,n,c',rfl,_⟩
     ·exact zCp (QT.app_pk hpk hd.q p hp)
     ·trivial
   ·intro k hk
    obtain ⟨q,hq1,hq2⟩:=zC3 k hk
    rcases hqq q hq1 with ⟨p,hp,rfl⟩ | ⟨k',z',lo,n,c',rfl,h1,h2⟩
    ·obtain ⟨j,hj,rfl⟩:=zAz (hplain p hp) k hq2
     have hj2:=(hrfs p hp).2.2 j hj
     refine ⟨fun hc=>by have:=hpl _ hc;omega,by simp;omega⟩
    ·simp [PV.refs] at hq2;subst hq2
     exact ⟨h1,by simp;omega⟩
variable {av:Nat->Prop} {P:Program} {w0 w w':World} {e0 e:Env} {pS pS' pB pB':List Nat} {a:Act} {st st':St}
def rL:PV->Option Sh
 | .int k _=>some (.int k)
 | .bool _=>some .bool
 | .str _=>some .str
 | .sv _ z _ _=>some (.sl z)
 | _=>none
def zJC:List PV->List Sh
 | []=>[]
 | p::ps=>match rL p with
   | some s=>s::zJC ps
   | none=>zJC ps
def zGA:List PV->List PV
 | []=>[]
 | p::ps=>match rL p with
   | some _=>p::zGA ps
   | none=>zGA ps
def zJx:Bx->List Sh
 | .var cs=>zJC cs
 | .vd _ n=>[.ag n]
 | .arr _ z _ _=>[.sl z]
 | .gone=>[]
def zFx:Bx->List PV
 | .var cs=>zGA cs
 | .vd x n=>[.dg n x]
 | .arr _ z es c=>[.sv none z es c]
 | .gone=>[]
def zFi (bx:List Bx):List Sh:=bx.flatMap zJx
def qO (bx:List Bx):List PV:=bx.flatMap zFx
/-- a box's cells told anew; what is left -/
def zDi:List PV->List PV->List PV × List PV
 | [],es=>([],es)
 | p :: ps,es=>match rL p with
   | some _=>match es with
     | q::es=>(q::(zDi ps es).1,(zDi ps es).2)
     | []=>([],[])
   | none=>(p::(zDi ps es).1,(zDi ps es).2)
def zER:Bx->List PV->Bx × List PV
 | .var cs,es=>(.var (zDi cs es).1,(zDi cs es).2)
 | .vd y n,es=>match es with
   | .dg _ x::es=>(.vd x n,es)
   | _=>(.vd y n,[])
 | .arr t z y n,es=>match es with
   | .sv _ _ ds c::es=>(.arr t z ds c,es)
   | _=>(.arr t z y n,[])
 | .gone,es=>(.gone,es)
def zFQ:List Bx->List PV->List Bx
 | [],_=>[]
 | B::bs,es=>(zER B es).1::zFQ bs (zER B es).2
/-- slices of the boxes' rows have the rows' lengths -/
def zKo (bs:List Bx):PV->PV
 | .sb k z lo n c=>match bs[k]? with
   | some (.arr _ _ es c')=>.sb k z lo es.length c'
   | _=>.any
 | p=>p
def zKS (bs:List Bx):Bx->Bx
 | .var cs=>.var (cs.map (zKo bs))
 | B=>B
def zCG (bx:List Bx) (es:List PV):List Bx:=(zFQ bx es).map (zKS (zFQ bx es))
def zJ8 (N:Nat) (p:PV):Prop:=match p with | .sv a z es c=>Bel N (.sl a z es c) | .dg _ x=>Bel N x | _=>True
theorem zHG {live:Nat->Prop} {p:PV} (h:p.Ok w live):zJ8 w.heap.size p:=by
 cases p<;>simp only [PV.Ok] at h<;>simp only [zJ8]
 ·exact h.1.lt
 ·exact h.1.1.lt
theorem zBx:∀ {cs:List PV} {p:PV},p∈zGA cs->p∈cs
 | q::cs,p,h=>by
   simp only [zGA] at h
   split at h
   ·rcases oI.1 h with rfl | h
    ·simp
    ·simp [zBx h]
   ·simp [zBx h]
theorem zIF {live:Nat->Prop} {B:Bx} (h:B.Ok w live):∀ p∈zFx B,zJ8 w.heap.size p:=by
 intro p hp
 cases B with
 | var cs=>
   simp only [zFx] at hp
   exact zHG (PV.OkL_iff.1 h.1 p (zBx hp))
 | vd x n=>
   simp [zFx] at hp;subst hp
   exact Good.lt h
 | arr t z es c=>
   simp [zFx] at hp;subst hp
   intro b hb
   simp only [D.foot] at hb
   obtain ⟨y,hy,hby⟩:=zD.1 hb
   exact (h y hy).1.lt b hby
 | gone=>simp [zFx] at hp
theorem zEx {pB:List Nat} {bx:List Bx} (h:Mem av pB w e bx) (hp:pB=[]) {bs:List Bx} (hs:∀ B∈bs,B∈bx):∀ p∈qO bs,zJ8 w.heap.size p:=by
 intro p hpp
 simp only [qO,nX] at hpp
 obtain ⟨B,hB,hpp⟩:=hpp
 obtain ⟨k,hk⟩:=oP.1 (hs B hB)
 exact zIF (h.bo k B hk (by simp [hp])) p hpp
/-- what is returned: the results, or the whole slice of a box that was handed in -/
def zGL (full:List Sh) (U:List Bx) (e:Env) (ps:List PV):Value:=match full with
 | .bk j::_=>match U[j]? with
   | some (.arr _ z es c)=>(PV.sb j z 0 es.length c).cv e
   | _=>undef
 | _=>zFO (rh full) e ps
theorem pQ {full:List Sh} {U:List Bx} {e:Env} {ps:List PV} (h:∀ j l,full≠.bk j::l):zGL full U e ps=zFO (rh full) e ps:=by
 unfold zGL
 split
 ·exact absurd rfl (h _ _)
 ·rfl
/-- a function's contract, where it may write the boxes that it is handed: how it ends -/
structure DoneB (full:List Sh) (Q:QT full) (av:Nat->Prop) (w0:World) (E:Env) (bx:List Bx) (v:Value) (w:World) (ps es:List PV) (rows:List Bx) (e:Env):Prop where
 q:QT.app full Q bx.length (ps++es) rows w.heap.size
 v:v=zGL full (zCG bx es) e ps
 m:Mem av [] w e (zCG bx es++rows)
 ok:∀ p∈ps,p.Ok w (zJ av [] e (zCG bx es++rows))
 fix:∀ (k:Nat) (B:Bx),bx[k]?=some B->B.isArr=false->e.at k=some ((E.at k).getD 0)
 fresh:∀ (k b:Nat),e.at k=some b->w0.heap.size<=b\/(k<bx.length/\some b∈E)
 size:w0.heap.size<=w.heap.size
 old:∀ b,b<w0.heap.size->some b∉E->w.heap[b]?=w0.heap[b]?
 fz:∀ (b:Nat) (c:Array Value) (t:TypeId) (z:Nat × Nat),(w0.heap.size<=b\/some b∈E)->w.heap[b]?=some (.cells c t z)->Fz z
 ku:KU w0 w
 ns:∀ p∈es,p.refs=[]
 be:∀ p∈es,zJ8 w.heap.size p
def zLH (full:List Sh) (Q:QT full) (nr:Nat) (av:Nat->Prop) (w0:World) (E:Env) (bx:List Bx):Ending->World->Prop
 | .returned v,w=>∃ ps es rows e,ps.length=nr/\DoneB full Q av w0 E bx v w ps es rows e
 | _,_=>False
def zL2 (P:Program) (f:FuncId):Nat:=match P.funcs[f]? with
 | some fn=>fn.resultTypes.size
 | none=>0
/-- how many results are told: a packed one, by its cells -/
def zBl (P:Program) (f:FuncId) (full:List Sh) (bx:List Bx):Nat:=match rh full with
 | true=>full.length - 1 - (zFi bx).length
 | false=>zL2 P f
/-- the boxes without what they hold -/
def zKf:PV->PV
 | .int k _=>.int k 0
 | .bool _=>.bool false
 | .str _=>.str ⟨#[]⟩
 | .sv _ z _ _=>.sv none z [] 0
 | .sb k z lo _ _=>.sb k z lo 0 0
 | p=>p
def yD:Bx->Bx
 | .var cs=>.var (cs.map zKf)
 | .vd _ n=>.vd default n
 | .arr t z _ _=>.arr t z [] 0
 | .gone=>.gone
structure BCalls (P:Program) (f:FuncId) (full:List Sh) (args:List PV) (bx:List Bx) (N:Nat) (Q:QT full):Prop where
 c:yo P f=true
 h : ∀ (av:Nat->Prop) (w0:World) (E:Env),w0.heap.size=N->Avl av w0 E->Mem av [] w0 E bx->(∀ k b,Lives [] E bx k b->¬av b) ->
   (∀ p∈args,p.Ok w0 (zJ av [] E bx)/\∀ k∈p.refs,k<bx.length)->Calls P f (args.map (PV.val E)).toArray w0 (zLH full Q (zBl P f full (bx.map yD)) av w0 E (bx.map yD))
structure BPick (e ne:Env) (m:Nat) (B B':Bx):Prop where
 h : B'=.gone\/(B'=B/\∀ cs,B≠.var cs)\/∃ cs cs',B=.var cs/\B'=.var cs'/\cs'.length=cs.length/\∀ (i:Nat) (q:PV),cs'[i]?=some q->q=.any \/
   ∃ p,cs[i]?=some p/\(p=.any->q=.any)/\p.cv e=q.cv ne/\(∀ w live,p.Ok w live->q.Ok w live)/\(p.isC->q.isC)/\∀ r∈q.refs,r<m
theorem zEW {us:List (Option Nat)} {nb:List Bx} {av':Nat->Prop} {bx:List Bx} (h:Mem av pB w e bx) (hav:∀ b,av' b->zJ av pB e bx b) (hl:nb.length=us.length)
  (hnd:∀ (i j k:Nat),us[i]?=some (some k)->us[j]?=some (some k)->i=j)
  (hB:∀ (j:Nat) (B':Bx),nb[j]?=some B'->(us[j]?=some none/\∃ t z,B'=.arr t z [] 0)\/∃ k B,us[j]?=some (some k)/\k∉pB/\bx[k]?=some B/\BPick e (us.map (·.bind e.at)) us.length B B') :
  Mem av' [] w (us.map (·.bind e.at)) nb/\(∀ b,zJ av' [] (us.map (·.bind e.at)) nb b->zJ av pB e bx b)/\∀ j b,Lives [] (us.map (·.bind e.at)) nb j b->∃ k,us[j]?=some (some k)/\Lives pB e bx k b:=by
 have hat:∀ (j:Nat) (u:Option Nat),us[j]?=some u->Env.at (us.map (·.bind e.at)) j=u.bind e.at:=fun j u hj=>by simp [Env.at,oA,hj]
 have hlives:∀ j b,Lives [] (us.map (·.bind e.at)) nb j b->∃ k,us[j]?=some (some k)/\Lives pB e bx k b:=fun j b ⟨_,h2,B',h3,h4⟩=>by
  rcases hB j B' h3 with ⟨h5,_⟩ | ⟨k,B,h5,h6,h7,h8⟩
  ·rw [hat j _ h5] at h2;cases h2
  ·rw [hat j _ h5] at h2
   refine ⟨k,h5,h6,h2,B,h7,fun hg=>h4 ?_⟩
   subst hg
   rcases h8.h with h9 | ⟨h9,_⟩ | ⟨cs,_,h9,_⟩
   ·exact h9
   ·exact h9
   ·cases h9
 have hlive:∀ b,zJ av' [] (us.map (·.bind e.at)) nb b->zJ av pB e bx b:=fun b hb=>hb.elim (hav b) fun ⟨j,hj⟩=>by
  obtain ⟨k,_,h2⟩:=hlives j b hj;exact .inr ⟨k,h2⟩
 refine ⟨{
  el:=by simp [hl]
  br:=fun j B' hj _=>?_
  bo:=fun j B' hj _=>?_
  bf:=fun j B' hj _ i hi=>?_
  inj:=fun i j b hi hj=>?_ },hlive,hlives⟩
 ·rcases hB j B' hj with ⟨h5,t,z,rfl⟩ | ⟨k,B,h5,h6,h7,h8⟩
  ·rw [hat j _ h5];exact .inl ⟨rfl,rfl,rfl⟩
  ·rw [hat j _ h5]
   have h9:=h.br k B h7 h6
   rcases h8.h with h10 | ⟨rfl,h10⟩ | ⟨cs,cs',rfl,rfl,h11,h12⟩
   ·subst h10;exact True.intro
   ·refine h9.congr (fun _ _=>rfl) fun i hi=>?_
    cases B' with
    | var cs=>exact absurd rfl (h10 cs)
    | _=>simp [Bx.refs] at hi
   ·obtain ⟨b,c,t,g1,g2,g3,g4⟩:=h9
    refine ⟨b,c,t,g1,g2,g3.trans h11.symm,fun i q hq=>?_⟩
    rcases h12 i q hq with h13 | ⟨p,hp,h13,h14,_⟩
    ·exact .inl h13
    ·rcases g4 i p hp with h15 | h15
     ·exact .inl (h13 h15)
     ·exact .inr (by rw [<-h14];exact h15)
 ·rcases hB j B' hj with ⟨h5,t,z,rfl⟩ | ⟨k,B,h5,h6,h7,h8⟩
  ·intro x hx;simp at hx
  ·have h9:=(h.bo k B h7 h6).mono (w':=w) (live':=zJ av' [] (us.map (·.bind e.at)) nb) (fun _ _ _=>rfl) (oF _) fun b _=>hlive b
   rcases h8.h with h10 | ⟨rfl,_⟩ | ⟨cs,cs',rfl,rfl,h11,h12⟩
   ·subst h10;exact True.intro
   ·exact h9
   ·obtain ⟨g1,g2⟩:=h9
    rw [PV.OkL_iff] at g1
    refine ⟨PV.OkL_iff.2 fun q hq=>?_,fun q hq=>?_⟩
    ·obtain ⟨i,hi⟩:=oP.1 hq
     rcases h12 i q hi with h13 | ⟨p,hp,_,_,h13,_⟩
     ·subst h13;trivial
     ·exact h13 _ _ (g1 p (oC hp))
    ·obtain ⟨i,hi⟩:=oP.1 hq
     rcases h12 i q hi with h13 | ⟨p,hp,h14,_,_,h13,_⟩
     ·exact .inl h13
     ·rcases g2 p (oC hp) with h15 | h15
      ·exact .inl (h14 h15)
      ·exact .inr (h13 h15)
 ·refine ⟨by simp,?_⟩
  rw [hl]
  rcases hB j B' hj with ⟨h5,t,z,rfl⟩ | ⟨k,B,h5,h6,h7,h8⟩
  ·simp [Bx.refs] at hi
  ·rcases h8.h with h10 | ⟨rfl,h10⟩ | ⟨cs,cs',rfl,rfl,h11,h12⟩
   ·subst h10;simp [Bx.refs] at hi
   ·cases B' with
    | var cs=>exact absurd rfl (h10 cs)
    | _=>simp [Bx.refs] at hi
   ·simp only [Bx.refs] at hi
    obtain ⟨q,hq,hiq⟩:=PV.refsL_mem.1 hi
    obtain ⟨n,hn⟩:=oP.1 hq
    rcases h12 n q hn with h13 | ⟨p,hp,_,_,_,_,h13⟩
    ·subst h13;simp [PV.refs] at hiq
    ·simpa using h13 i hiq
 ·obtain ⟨k,h1,h2⟩:=hlives i b hi
  obtain ⟨l,h3,h4⟩:=hlives j b hj
  have hkl:=h.inj k l b h2 h4
  subst hkl
  exact hnd i j k h1 h3
mutual
def PV.mapR (g:Nat->Nat):PV->PV
 | .pb k z i o=>.pb (g k) z i o
 | .sb k z lo n c=>.sb (g k) z lo n c
 | .fn f caps=>.fn f (PV.mapRL g caps)
 | .pg cs=>.pg (PV.mapRL g cs)
 | .tp cs=>.tp (PV.mapRL g cs)
 | p=>p
def PV.mapRL (g:Nat->Nat):List PV->List PV
 | []=>[]
 | p::ps=>PV.mapR g p::PV.mapRL g ps
end
mutual
theorem PV.mapR_refs (g:Nat->Nat):∀ p:PV,(p.mapR g).refs=p.refs.map g
 | .pb ..=>rfl
 | .sb ..=>rfl
 | .fn f caps=>by simp only [PV.mapR,PV.refs];exact PV.mapRL_refs g caps
 | .pg cs=>by simp only [PV.mapR,PV.refs];exact PV.mapRL_refs g cs
 | .tp cs=>by simp only [PV.mapR,PV.refs];exact PV.mapRL_refs g cs
 | .any=>rfl
 | .int ..=>rfl
 | .bool ..=>rfl
 | .str ..=>rfl
 | .lit ..=>rfl
 | .sv ..=>rfl
 | .d ..=>rfl
 | .dc ..=>rfl
 | .dg ..=>rfl
 | .pd ..=>rfl
theorem PV.mapRL_refs (g:Nat->Nat):∀ ps:List PV,PV.refsL (PV.mapRL g ps)=(PV.refsL ps).map g
 | []=>rfl
 | p::ps=>by simp only [PV.mapRL,PV.refsL,PV.mapR_refs g p,PV.mapRL_refs g ps,mE]
end
mutual
theorem PV.mapR_cv {g:Nat->Nat} {e e':Env}:∀ p:PV,(∀ k∈p.refs,e'.at (g k)=e.at k)->(p.mapR g).cv e'=p.cv e
 | .pb k z i o,h=>by simp only [PV.mapR,PV.cv,h k (by simp [PV.refs])]
 | .sb k z lo n c,h=>by simp only [PV.mapR,PV.cv,h k (by simp [PV.refs])]
 | .fn f caps,h=>by simp only [PV.mapR,PV.cv,PV.mapRL_cvs caps h]
 | .pg cs,h=>rfl
 | .tp cs,h=>rfl
 | .any,h=>rfl
 | .int ..,h=>rfl
 | .bool ..,h=>rfl
 | .str ..,h=>rfl
 | .lit ..,h=>rfl
 | .sv ..,h=>rfl
 | .d ..,h=>rfl
 | .dc ..,h=>rfl
 | .dg ..,h=>rfl
 | .pd ..,h=>rfl
theorem PV.mapRL_cvs {g:Nat->Nat} {e e':Env}:∀ ps:List PV,(∀ k∈PV.refsL ps,e'.at (g k)=e.at k)->PV.cvs e' (PV.mapRL g ps)=PV.cvs e ps
 | [],h=>rfl
 | p::ps,h=>by
   simp only [PV.mapRL,PV.cvs,PV.mapR_cv p fun k hk=>h k (by simp only [PV.refsL];exact oW _ hk),PV.mapRL_cvs ps fun k hk=>h k (by simp only [PV.refsL];exact o5 _ hk)]
end
theorem PV.mapR_isC {g:Nat->Nat} {p:PV} (h:p.isC):(p.mapR g).isC:=by cases p<;>exact h
theorem PV.mapRL_mem {g:Nat->Nat} {q:PV}:∀ {ps:List PV},q∈PV.mapRL g ps->∃ p∈ps,q=p.mapR g
 | p::ps,h=>by
   simp only [PV.mapRL] at h
   rcases oI.1 h with h | h
   ·exact ⟨p,by simp,h⟩
   ·obtain ⟨r,h1,h2⟩:=PV.mapRL_mem h
    exact ⟨r,by simp [h1],h2⟩
mutual
theorem PV.mapR_ok {g:Nat->Nat} {w:World} {live:Nat->Prop}:∀ p:PV,p.Ok w live->(p.mapR g).Ok w live
 | .fn f caps,h=>by simp only [PV.mapR,PV.Ok] at h ⊢;exact PV.mapRL_ok caps h
 | .pg cs,h=>by
   simp only [PV.mapR,PV.Ok] at h ⊢
   exact ⟨PV.mapRL_ok cs h.1,fun q hq=>by obtain ⟨p,h1,rfl⟩:=PV.mapRL_mem hq;exact PV.mapR_isC (h.2 p h1)⟩
 | .tp cs,h=>by simp only [PV.mapR,PV.Ok] at h ⊢;exact PV.mapRL_ok cs h
 | .pb ..,h=>trivial
 | .sb ..,h=>trivial
 | .any,h=>h
 | .int ..,h=>h
 | .bool ..,h=>h
 | .str ..,h=>h
 | .lit ..,h=>h
 | .sv ..,h=>h
 | .d ..,h=>h
 | .dc ..,h=>h
 | .dg ..,h=>h
 | .pd ..,h=>h
theorem PV.mapRL_ok {g:Nat->Nat} {w:World} {live:Nat->Prop}:∀ ps:List PV,PV.OkL w live ps->PV.OkL w live (PV.mapRL g ps)
 | [],h=>trivial
 | p::ps,h=>⟨PV.mapR_ok p h.1,PV.mapRL_ok ps h.2⟩
end
def Bx.mapR (g:Nat->Nat):Bx->Bx
 | .var cs=>.var (cs.map (PV.mapR g))
 | B=>B
theorem zG5:∀ {ks:List Nat} {j k:Nat},ks.Nodup->ks[j]?=some k->pos ks k=some j
 | x::xs,0,k,_,h=>by simp at h;subst h;simp [pos]
 | x::xs,j+1,k,hn,h=>by
   obtain ⟨h1,h2⟩:=nP.1 hn
   simp only [nF] at h
   have hne:¬x=k:=fun hc=>h1 (hc ▸ oC h)
   simp [pos,hne,zG5 h2 h]
theorem zHm {ks:List Nat} {k:Nat} (h:pos ks k=none):k∉ks:=by
 induction ks with
 | nil=>simp
 | cons x xs ih=>
   simp only [pos] at h
   split at h
   ·cases h
   ·rename_i hx
    split at h
    ·cases h
    ·rename_i h2
     simp at hx
     simp only [oI,not_or]
     exact ⟨fun hc=>hx hc.symm,ih h2⟩
/-- the boxes, those named told anew -/
def bxN (ks:List Nat) (nb:List Bx):Nat->List Bx->List Bx
 | _,[]=>[]
 | i,B::bs=>(match pos ks i with
   | some j=>nb.getD j .gone
   | none=>B)::bxN ks nb (i+1) bs
theorem zEG {ks:List Nat} {nb:List Bx}:∀ (bs:List Bx) (i k:Nat),(bxN ks nb i bs)[k]?=(bs[k]?).map fun B=>match pos ks (i+k) with
  | some j=>nb.getD j .gone
  | none=>B
 | [],i,k=>rfl
 | B::bs,i,0=>by simp [bxN]
 | B::bs,i,k+1=>by
   simp only [bxN,nF]
   rw [zEG bs (i+1) k,show i+1+k=i+(k+1) by omega]
theorem yH {ks:List Nat} {nb:List Bx}:∀ (bs:List Bx) (i:Nat),(bxN ks nb i bs).length=bs.length
 | [],i=>rfl
 | B::bs,i=>by simp [bxN,yH bs]
def pe (ks:List Nat) (e1 e:Env):Env:=(List.range e.length).map fun k=>match pos ks k with
 | some j=>e1.at j
 | none=>e.at k
theorem zF3 {ks:List Nat} {e1 e:Env} {k:Nat} (h:k<e.length):(pe ks e1 e).at k=match pos ks k with
  | some j=>e1.at j
  | none=>e.at k:=by
 simp [pe,Env.at,oA,h]
/-- behind a call that may have written the boxes named -/
structure Io (av:Nat->Prop) (pB:List Nat) (w w':World) (e:Env) (bx:List Bx) (ks:List Nat) (e1:Env) (nb rows:List Bx):Prop where
 nd:ks.Nodup
 kp:∀ k∈ks,k∉pB/\∃ B,bx[k]?=some B/\B≠.gone
 len:nb.length=ks.length
 el:ks.length<=e1.length
 m:Mem (fun b=>av b\/∃ k,k∉ks/\Lives pB e bx k b) [] w' e1 (nb++rows)
 arr:∀ B∈rows,B.row
 kind:∀ (j k:Nat) (B B':Bx),ks[j]?=some k->bx[k]?=some B->nb[j]?=some B'->B'.isArr=B.isArr
 refs:∀ B∈nb,∀ j∈B.refs,j<ks.length
 fix:∀ (j k:Nat) (B:Bx),ks[j]?=some k->bx[k]?=some B->B.isArr=false->e1.at j=e.at k
 fr:∀ j b,e1.at j=some b->w.heap.size<=b\/(j<ks.length/\∃ k∈ks,e.at k=some b)
 size:w.heap.size<=w'.heap.size
 hold:∀ b,b<w.heap.size->(∀ k∈ks,e.at k≠some b)->w'.heap[b]?=w.heap[b]?
 fz:∀ (b:Nat) (c:Array Value) (t:TypeId) (z:Nat × Nat),(w.heap.size<=b\/∃ k∈ks,e.at k=some b)->w'.heap[b]?=some (.cells c t z)->Fz z
 ku:KU w w'
theorem zKr (h:Rel av w0 e0 pS pB a w e st) {ks:List Nat} {e1:Env} {nb rows:List Bx} (io:Io av pB w w' e st.bx ks e1 nb rows)
  (hS:∀ (i:Nat) (p:PV),st.sl[i]?=some p->∀ k∈ks,(st.bx.getD k .gone).isArr=true->k∉p.refs)
  (hBx:∀ (j:Nat) (B:Bx),st.bx[j]?=some B->j∉ks->∀ k∈ks,(st.bx.getD k .gone).isArr=true->k∉B.refs)
  (hpin:∀ k∈ks,(st.bx.getD k .gone).isArr=true->∀ b,st.pins[k]?≠some (some b))
  (hown:(∀ k∈ks,(st.bx.getD k .gone).isArr=true->st.pins.length<=k)\/∀ k∈ks,(st.bx.getD k .gone).isArr=true->k<st.pins.length) :
  Rel av w0 e0 pS pB a w' (pe ks e1 e++e1.drop ks.length) { st with bx:=bxN ks (nb.map (Bx.mapR fun j=>ks.getD j 0)) 0 st.bx++rows,N:=w'.heap.size } /\
  ∀ d:D,Good w' (zJ (fun b=>av b\/∃ k,k∉ks/\Lives pB e st.bx k b) [] e1 (nb++rows)) d->Good w' (zJ av pB (pe ks e1 e++e1.drop ks.length) (bxN ks (nb.map (Bx.mapR fun j=>ks.getD j 0)) 0 st.bx++rows)) d:=by
 have hlE:(pe ks e1 e).length=st.bx.length:=by simp [pe,h.el]
 have hat1:∀ k,k<st.bx.length->Env.at (pe ks e1 e++e1.drop ks.length) k=match pos ks k with
  | some j=>e1.at j
  | none=>e.at k:=fun k hk=>by rw [Env.at_app,if_pos (by rw [hlE];exact hk),zF3 (by rw [h.el];exact hk)]
 have hat2:∀ i,Env.at (pe ks e1 e++e1.drop ks.length) (st.bx.length+i)=e1.at (ks.length+i):=fun i=>by
  rw [Env.at_app,if_neg (by rw [hlE];omega),hlE]
  simp [Env.at,oA]
 have hks:∀ k∈ks,k<st.bx.length:=fun k hk=>by obtain ⟨_,B,h1,_⟩:=io.kp k hk;exact (oB.1 h1).1
 have hpos:∀ j k,ks[j]?=some k->pos ks k=some j:=fun j k hj=>zG5 io.nd hj
 have hatk:∀ j k,ks[j]?=some k->Env.at (pe ks e1 e++e1.drop ks.length) k=e1.at j:=fun j k hj=>by
  rw [hat1 k (hks k (oC hj)),hpos j k hj]
 have hatn:∀ k,k<st.bx.length->k∉ks->Env.at (pe ks e1 e++e1.drop ks.length) k=e.at k:=fun k hk hn=>by
  rw [hat1 k hk]
  cases hp:pos ks k with
  | none=>rfl
  | some j=>exact absurd (oC (ub hp)) hn
 have hlv:∀ k b,k∈ks->e.at k=some b->Lives pB e st.bx k b:=fun k b hk hb=>by
  obtain ⟨h1,B,h2,h3⟩:=io.kp k hk
  exact ⟨h1,hb,B,h2,h3⟩
 have hget:∀ (k:Nat) (B':Bx),(bxN ks (nb.map (Bx.mapR fun j=>ks.getD j 0)) 0 st.bx++rows)[k]?=some B' ->
   (k∉ks/\st.bx[k]?=some B')\/(∃ (j:Nat) (B:Bx),ks[j]?=some k/\nb[j]?=some B/\B'=B.mapR fun j=>ks.getD j 0)\/∃ i,k=st.bx.length+i/\rows[i]?=some B':=fun k B' hk=>by
  by_cases hlt:k<st.bx.length
  ·rw [oK (by rw [yH];exact hlt),zEG,oG hlt] at hk
   simp only [oT,nE,oZ] at hk
   cases hp:pos ks k with
   | none=>
     rw [hp] at hk
     exact .inl ⟨zHm hp,by rw [oG hlt];exact o9 some hk⟩
   | some j=>
     rw [hp] at hk
     have hj:=ub hp
     have hjl:j<nb.length:=by rw [io.len];exact (oB.1 hj).1
     refine .inr (.inl ⟨j,nb[j],hj,oG hjl,?_⟩)
     have hk':(nb.map (Bx.mapR fun j=>ks.getD j 0)).getD j .gone=B':=hk
     rw [<-hk',oA,oE,oG hjl];rfl
  ·rw [oM (by rw [yH];omega),yH] at hk
   exact .inr (.inr ⟨k - st.bx.length,by omega,hk⟩)
 have hng:∀ (B:Bx),Bx.mapR (fun j=>ks.getD j 0) B≠Bx.gone->B≠Bx.gone:=fun B hB hc=>hB (by rw [hc];rfl)
 have hlives:∀ k b,Lives pB (pe ks e1 e++e1.drop ks.length) (bxN ks (nb.map (Bx.mapR fun j=>ks.getD j 0)) 0 st.bx++rows) k b ->
   (k∉ks/\Lives pB e st.bx k b)\/(∃ j,ks[j]?=some k/\Lives [] e1 (nb++rows) j b)\/∃ i,k=st.bx.length+i/\Lives [] e1 (nb++rows) (ks.length+i) b:=fun k b ⟨h1,h2,B',h3,h4⟩=>by
  rcases hget k B' h3 with ⟨g1,g2⟩ | ⟨j,B,g1,g2,g3⟩ | ⟨i,rfl,g2⟩
  ·rw [hatn k (oB.1 g2).1 g1] at h2
   exact .inl ⟨g1,h1,h2,B',g2,h4⟩
  ·rw [hatk j k g1] at h2
   have hjl:j<nb.length:=(oB.1 g2).1
   exact .inr (.inl ⟨j,g1,by simp,h2,B,by rw [oK hjl];exact g2,hng B (g3 ▸ h4)⟩)
  ·rw [hat2] at h2
   exact .inr (.inr ⟨i,rfl,by simp,h2,B',by rw [oM (by rw [io.len];omega),io.len];simpa using g2,h4⟩)
 -- a block of a box that was handed on, or a new one
 have hblk:∀ j b,Lives [] e1 (nb++rows) j b->w.heap.size<=b\/(j<ks.length/\∃ k∈ks,e.at k=some b):=fun j b hj=>io.fr j b hj.2.1
 have hlive:∀ b,b<w.heap.size->zJ av pB (pe ks e1 e++e1.drop ks.length) (bxN ks (nb.map (Bx.mapR fun j=>ks.getD j 0)) 0 st.bx++rows) b->zJ av pB e st.bx b:=fun b hb hl=>hl.elim .inl fun ⟨k,hk⟩=>by
  rcases hlives k b hk with ⟨_,g⟩ | ⟨j,_,g⟩ | ⟨i,_,g⟩
  ·exact .inr ⟨k,g⟩
  ·rcases hblk j b g with g2 | ⟨_,k2,g2,g3⟩
   ·omega
   ·exact .inr ⟨k2,hlv k2 b g2 g3⟩
  ·rcases hblk _ b g with g2 | ⟨g2,_⟩<;>omega
 have hlive2:∀ b,zJ av pB (pe ks e1 e++e1.drop ks.length) (bxN ks (nb.map (Bx.mapR fun j=>ks.getD j 0)) 0 st.bx++rows) b->zJ (fun b=>av b\/∃ k,k∉ks/\Lives pB e st.bx k b) [] e1 (nb++rows) b:=fun b hl=>by
  rcases hl with hl | ⟨k,hk⟩
  ·exact .inl (.inl hl)
  rcases hlives k b hk with ⟨g1,g⟩ | ⟨j,_,g⟩ | ⟨i,_,g⟩
  ·exact .inl (.inr ⟨k,g1,g⟩)
  ·exact .inr ⟨j,g⟩
  ·exact .inr ⟨_,g⟩
 have hkeep:∀ b,b<w.heap.size->¬zJ av pB e st.bx b->w'.heap[b]?=w.heap[b]?:=fun b hb hn=>io.hold b hb fun k hk hc=>hn (.inr ⟨k,hlv k b hk hc⟩)
 have hgood:∀ d:D,Good w' (zJ (fun b=>av b\/∃ k,k∉ks/\Lives pB e st.bx k b) [] e1 (nb++rows)) d->Good w' (zJ av pB (pe ks e1 e++e1.drop ks.length) (bxN ks (nb.map (Bx.mapR fun j=>ks.getD j 0)) 0 st.bx++rows)) d:=
  fun d hd=>hd.mono (fun _ _ _=>rfl) fun b _ hb=>hlive2 b hb
 have hsame:∀ (R:List Nat),(∀ k∈R,k<st.bx.length)->(∀ k∈ks,(st.bx.getD k .gone).isArr=true->k∉R)->∀ k∈R,Env.at (pe ks e1 e++e1.drop ks.length) k=e.at k:=fun R hR1 hR2 k hk=>by
  by_cases hks2:k∈ks
  ·obtain ⟨j,hj⟩:=oP.1 hks2
   obtain ⟨_,B,g1,_⟩:=io.kp k hks2
   rw [hatk j k hj]
   refine io.fix j k B hj g1 ?_
   cases hb:B.isArr with
   | false=>rfl
   | true=>exact absurd hk (hR2 k hks2 (by rw [oA,g1];exact hb))
  ·exact hatn k (hR1 k hk) hks2
 have hren:∀ q:PV,(∀ j∈q.refs,j<ks.length)->∀ k∈q.refs,Env.at (pe ks e1 e++e1.drop ks.length) (ks.getD k 0)=e1.at k:=fun q hq k hk=>by
  have hlt:=hq k hk
  refine hatk k _ ?_
  rw [oA,oG hlt];rfl
 have hold2:∀ (j:Nat) (B:Bx),st.bx[j]?=some B->j∉pB->j∉ks->∀ b,e.at j=some b->B≠.gone->w'.heap[b]?=w.heap[b]?:=fun j B hj hn hjk b hb hg=>by
  have hl:Lives pB e st.bx j b:=⟨hn,hb,B,hj,hg⟩
  exact io.hold b (Lives.lt h.toMem hl) fun k hk hc=>hjk (h.inj j k b hl (hlv k b hk hc) ▸ hk)
 have hrowB:∀ (i:Nat) (B:Bx),rows[i]?=some B->(nb++rows)[ks.length+i]?=some B/\B.refs=[]:=fun i B hi=>by
  exact ⟨by rw [oM (by rw [io.len];omega),io.len];simpa using hi,(io.arr B (oC hi)).sp.2⟩
 have hnbB:∀ (j:Nat) (B:Bx),nb[j]?=some B->(nb++rows)[j]?=some B:=fun j B hj=>by rw [oK (oB.1 hj).1];exact hj
 refine ⟨?_,hgood⟩
 exact {
  el:=by
   simp only [oH,hlE,yH,nx]
   have:=io.m.el
   simp only [oH,io.len] at this
   omega
  br := fun k B' hk hn=>by
   rcases hget k B' hk with ⟨g1,g2⟩ | ⟨j,B,g1,g2,rfl⟩ | ⟨i,rfl,g2⟩
   ·rw [hatn k (oB.1 g2).1 g1]
    by_cases hg:B'=.gone
    ·subst hg;exact True.intro
    ·refine (h.br k B' g2 hn).congr (fun b hb=>hold2 k B' g2 hn g1 b hb hg) fun i hi=>?_
     exact hsame B'.refs (fun k hk=>(h.bf _ B' g2 hn k hk).2) (fun k2 hk2 ha=>hBx k B' g2 g1 k2 hk2 ha) i hi
   ·rw [hatk j k g1]
    have h1:=io.m.br j B (hnbB j B g2) (by simp)
    have h2:=io.refs B (oC g2)
    cases B with
    | var cs=>
      obtain ⟨b,c,t,q1,q2,q3,q4⟩:=h1
      refine ⟨b,c,t,q1,q2,by simpa using q3,fun i p hp=>?_⟩
      rw [oE] at hp
      cases hci:cs[i]? with
      | none=>simp [hci] at hp
      | some q=>
        simp only [hci,oT,oZ] at hp
        subst hp
        have hr:∀ j∈q.refs,j<ks.length:=fun j hj=>h2 j (by simp only [Bx.refs];exact PV.refsL_mem.2 ⟨q,oC hci,hj⟩)
        rcases q4 i q hci with q5 | q5
        ·subst q5;exact .inl rfl
        ·exact .inr (by rw [PV.mapR_cv q (hren q hr)];exact q5)
    | vd x n=>exact h1
    | arr t z es c=>exact h1
    | gone=>exact True.intro
   ·rw [hat2]
    obtain ⟨q1,q2⟩:=hrowB i B' g2
    exact (io.m.br _ B' q1 (by simp)).congr (fun _ _=>rfl) fun j hj=>by rw [q2] at hj;simp at hj
  bo:=fun k B' hk hn=>by
   rcases hget k B' hk with ⟨g1,g2⟩ | ⟨j,B,g1,g2,rfl⟩ | ⟨i,rfl,g2⟩
   ·exact (h.bo k B' g2 hn).mono hkeep io.size hlive
   ·have h1:=(io.m.bo j B (hnbB j B g2) (by simp)).mono (w':=w') (fun _ _ _=>rfl) (oF _) fun b _=>hlive2 b
    cases B with
    | var cs=>
      obtain ⟨q1,q2⟩:=h1
      rw [PV.OkL_iff] at q1
      refine ⟨PV.OkL_iff.2 fun p hp=>?_,fun p hp=>?_⟩
      ·obtain ⟨q,hq,rfl⟩:=oQ.1 hp
       exact PV.mapR_ok q (q1 q hq)
      ·obtain ⟨q,hq,rfl⟩:=oQ.1 hp
       rcases q2 q hq with q3 | q3
       ·subst q3;exact .inl rfl
       ·exact .inr (PV.mapR_isC q3)
    | vd x n=>exact h1
    | arr t z es c=>exact h1
    | gone=>exact True.intro
   ·exact (io.m.bo _ B' (hrowB i B' g2).1 (by simp)).mono (fun _ _ _=>rfl) (oF _) fun b _=>hlive2 b
  bf:=fun k B' hk hn i hi=>by
   simp only [oH,yH]
   rcases hget k B' hk with ⟨g1,g2⟩ | ⟨j,B,g1,g2,rfl⟩ | ⟨i,rfl,g2⟩
   ·have:=h.bf k B' g2 hn i hi;exact ⟨this.1,by omega⟩
   ·cases B with
    | var cs=>
      simp only [Bx.mapR,Bx.refs] at hi
      obtain ⟨p,hp,hip⟩:=PV.refsL_mem.1 hi
      obtain ⟨q,hq,rfl⟩:=oQ.1 hp
      rw [PV.mapR_refs] at hip
      obtain ⟨r,hr,rfl⟩:=oQ.1 hip
      have hrl:=io.refs _ (oC g2) r (by simp only [Bx.refs];exact PV.refsL_mem.2 ⟨q,hq,hr⟩)
      have hmem:ks.getD r 0∈ks:=by rw [oA,oG hrl];exact List.getElem_mem hrl
      exact ⟨(io.kp _ hmem).1,by have:=hks _ hmem;omega⟩
    | vd x n=>simp [Bx.mapR,Bx.refs] at hi
    | arr t z es c=>simp [Bx.mapR,Bx.refs] at hi
    | gone=>simp [Bx.mapR,Bx.refs] at hi
   ·rw [(hrowB _ B' g2).2] at hi;simp at hi
  inj:=fun i j b hi hj=>by
   have key:∀ k j,k∉ks->Lives pB e st.bx k b->¬Lives [] e1 (nb++rows) j b:=fun k j hk h1 h2=>by
    rcases hblk j b h2 with h3 | ⟨_,k2,h3,h4⟩
    ·have:=Lives.lt h.toMem h1;omega
    ·exact hk (h.inj k k2 b h1 (hlv k2 b h3 h4) ▸ h3)
   rcases hlives i b hi with ⟨g1,g2⟩ | ⟨i1,g1,g2⟩ | ⟨i1,g1,g2⟩
   ·rcases hlives j b hj with ⟨q1,q2⟩ | ⟨j1,q1,q2⟩ | ⟨j1,q1,q2⟩
    ·exact h.inj i j b g2 q2
    ·exact absurd q2 (key i j1 g1 g2)
    ·exact absurd q2 (key i _ g1 g2)
   ·rcases hlives j b hj with ⟨q1,q2⟩ | ⟨j1,q1,q2⟩ | ⟨j1,q1,q2⟩
    ·exact absurd g2 (key j i1 q1 q2)
    ·have:=io.m.inj i1 j1 b g2 q2
     subst this
     rw [g1] at q1;exact o1 q1
    ·have:=io.m.inj _ _ b g2 q2
     have:=(oB.1 g1).1
     omega
   ·rcases hlives j b hj with ⟨q1,q2⟩ | ⟨j1,q1,q2⟩ | ⟨j1,q1,q2⟩
    ·exact absurd g2 (key j _ q1 q2)
    ·have:=io.m.inj _ _ b g2 q2
     have:=(oB.1 q1).1
     omega
    ·have:=io.m.inj _ _ b g2 q2
     omega
  ku:=h.ku.trans io.ku
  size:=ol h.size io.size
  old:=fun b hb hn=>by
   refine (io.hold b (ow hb h.size) fun k hk hc=>?_).trans (h.old b hb hn)
   rcases h.own k b (hlv k b hk hc) with h1 | h1
   ·omega
   ·exact hn h1.1
  fz := fun b c t z hb hc=>by
   by_cases hlt:b<w.heap.size
   ·by_cases hk:∃ k∈ks,e.at k=some b
    ·exact io.fz b c t z (.inr hk) hc
    ·rw [io.hold b hlt fun k hk2 hc2=>hk ⟨k,hk2,hc2⟩] at hc
     exact h.fz b c t z hb hc
   ·exact io.fz b c t z (.inl (by omega)) hc
  nd:=h.nd
  sz:=h.sz
  hN:=oF _
  hs:=fun i p hi hn=>by
   rcases h.hs i p hi hn with h1 | h1
   ·exact .inl h1
   ·refine .inr (h1.trans (PV.val_congr p fun k hk=>?_).symm)
    exact hsame p.refs (fun k hk=>(h.sr i p hi hn k hk).2) (fun k2 hk2 ha=>hS i p hi k2 hk2 ha) k hk
  so:=fun i p hi hn=>PV.Ok.mono hkeep io.size hlive p (h.so i p hi hn)
  sr:=fun i p hi hn k hk=>by have:=h.sr i p hi hn k hk;exact ⟨this.1,by simp only [oH,yH];omega⟩
  own := fun k b hk=>by
   show _\/(_/\k<st.pins.length)
   rcases hlives k b hk with ⟨_,g⟩ | ⟨j,g1,g⟩ | ⟨i,_,g⟩
   ·exact h.own k b g
   ·rcases hblk j b g with g2 | ⟨_,k2,g2,g3⟩
    ·have:=h.size;exact .inl (by omega)
    ·obtain ⟨_,B,q1,q2⟩:=io.kp k (oC g1)
     obtain ⟨_,B2,q3,q4⟩:=io.kp k2 g2
     cases hb:B.isArr with
     | false=>
       have q5:=io.fix j k B g1 q1 hb
       rw [g.2.1] at q5
       exact h.own k b (hlv k b (oC g1) q5.symm)
     | true=>
       obtain ⟨j2,g4⟩:=oP.1 g2
       have hka:(st.bx.getD k .gone).isArr=true:=by rw [oA,q1];exact hb
       cases hb2:B2.isArr with
       | false=>
         have q5:=io.fix j2 k2 B2 g4 q3 hb2
         have hj2:j2<nb.length:=by rw [io.len];exact (oB.1 g4).1
         have hB2:nb[j2]?=some nb[j2]:=oG hj2
         have hk2:=io.kind j2 k2 B2 _ g4 q3 hB2
         have hl2:Lives [] e1 (nb++rows) j2 b:=⟨by simp,q5.trans g3,_,hnbB j2 _ hB2,fun hc=>by rw [hc,hb2] at hk2;cases hk2⟩
         have:=io.m.inj j j2 b g hl2
         subst this
         rw [g1] at g4;cases g4
         rw [q1] at q3;cases q3
         rw [hb] at hb2;cases hb2
       | true=>
         have hka2:(st.bx.getD k2 .gone).isArr=true:=by rw [oA,q3];exact hb2
         rcases h.own k2 b (hlv k2 b g2 g3) with q5 | ⟨q5,q6⟩
         ·exact .inl q5
         ·rcases hown with q7 | q7
          ·have:=q7 k2 g2 hka2;omega
          ·exact .inr ⟨q5,q7 k (oC g1) hka⟩
   ·rcases hblk _ b g with g2 | ⟨g2,_⟩
    ·have:=h.size;exact .inl (by omega)
    ·omega
  avl:=h.avl
  avn:=fun k b hk hav=>by
   have hlt:b<w.heap.size:=ow (h.avl.lt b hav) h.size
   rcases hlives k b hk with ⟨_,g⟩ | ⟨j,g1,g⟩ | ⟨i,_,g⟩
   ·exact h.avn k b g hav
   ·rcases hblk j b g with g2 | ⟨_,k2,g2,g3⟩
    ·omega
    ·exact h.avn k2 b (hlv k2 b g2 g3) hav
   ·rcases hblk _ b g with g2 | ⟨g2,_⟩<;>omega
  pin:=fun k b hb=>by
   have hb':st.pins[k]?=some (some b):=hb
   obtain ⟨h1,h2⟩:=h.pin k b hb'
   refine ⟨?_,h2⟩
   have hk:k<st.bx.length:=by
    rw [<-h.el]
    exact mf fun hc=>by rw [Env.at_ge hc] at h1;cases h1
   rw [<-h1]
   exact hsame [k] (fun i hi=>by simp at hi;subst hi;exact hk) (fun k2 hk2 ha hc=>by simp at hc;subst hc;exact hpin k2 hk2 ha b hb') k (by simp)
  pit:=h.pit }
variable {av:Nat->Prop} {P:Program} {w0 w w':World} {e0 e:Env} {pS pS' pB pB':List Nat} {a:Act} {st st':St}
def zLW (ks:List Nat) (p:PV):Option PV:=match p with
 | .fn f caps=>(PV.fn f caps).ren ks
 | p=>match p.refs with
   | []=>vh p
   | _=>p.ren ks
def zGz (ks:List Nat):List PV->Option (List PV)
 | []=>some []
 | p::ps=>match zLW ks p,zGz ks ps with
   | some q,some qs=>some (q::qs)
   | _,_=>none
def zEy:Bx->Bool
 | .gone=>true
 | _=>false
def okB (st:St) (ks:List Nat):Bool:=
 (ks.all fun k=>match st.bx[k]? with
  | some B=>!zEy B&&(!B.isArr||!rT st k)
  | none=>false)&&Nat.ble ks.length st.bx.length &&
 ((ks.all fun k=>!(st.bx.getD k .gone).isArr||Nat.ble st.pins.length k)||ks.all fun k=>!(st.bx.getD k .gone).isArr||Nat.blt k st.pins.length)
/-- what names a row that is handed on is forgotten -/
def y4 (bx:List Bx):List Nat->St->St
 | [],st=>st
 | k::ks,st=>match (bx.getD k .gone).isArr with
   | true=>y4 bx ks (st.kill k)
   | false=>y4 bx ks st
def yz (st:St) (ks:List Nat):List Bx:=ks.map fun k=>(st.bx.getD k .gone).ren ks
def zK4 (st:St) (ks:List Nat) (nb rows:List Bx) (N:Nat):St:=
 { y4 st.bx ks st with bx:=bxN ks (nb.map (Bx.mapR fun j=>ks.getD j 0)) 0 (y4 st.bx ks st).bx++rows,N:=N }
def jOf:List PV->Nat
 | .sb k _ _ _ _::_=>k
 | _=>0
def rsJ (as:List PV):List Sh->List Sh
 | .bk _::l=>.bk (jOf as)::l
 | l=>l
def zKU (rs:List Sh) (U:List Bx) (ks:List Nat) (ps:List PV):PV:=match rs with
 | .bk j::_=>match U[j]? with
   | some (.arr _ z es c)=>.sb (ks.getD j 0) z 0 es.length c
   | _=>.any
 | _=>zAX (rh rs) ps
/-- as many as are told of the results -/
def pO (rs:List Sh):Nat:=match rh rs with
 | true=>rs.length - 1
 | false=>rs.length
theorem zBg:∀ (cs:List PV) (s:Sh),s∈zJC cs->∀ j,s≠.bk j
 | p::cs,s,h,j=>by
   simp only [zJC] at h
   split at h
   ·rename_i s' hs
    rcases oI.1 h with rfl | h
    ·cases p<;>simp [rL] at hs<;>subst hs<;>simp
    ·exact zBg cs s h j
   ·exact zBg cs s h j
theorem zHn (bx:List Bx) (s:Sh) (h:s∈zFi bx):∀ j,s≠.bk j:=by
 simp only [zFi,nX] at h
 obtain ⟨B,_,h⟩:=h
 cases B with
 | var cs=>exact zBg cs s h
 | vd x n=>simp [zJx] at h;subst h;simp
 | arr t z es c=>simp [zJx] at h;subst h;simp
 | gone=>simp [zJx] at h
theorem zBM:∀ (cs:List PV) (s:Sh),s∈zJC cs->s≠.pk
 | p::cs,s,h=>by
   simp only [zJC] at h
   split at h
   ·rename_i s' hs
    rcases oI.1 h with rfl | h
    ·cases p<;>simp [rL] at hs<;>subst hs<;>simp
    ·exact zBM cs s h
   ·exact zBM cs s h
theorem zH8 (bx:List Bx) (s:Sh) (h:s∈zFi bx):s≠.pk:=by
 simp only [zFi,nX] at h
 obtain ⟨B,_,h⟩:=h
 cases B with
 | var cs=>exact zBM cs s h
 | vd x n=>simp [zJx] at h;subst h;simp
 | arr t z es c=>simp [zJx] at h;subst h;simp
 | gone=>simp [zJx] at h
theorem zBk (l:List Sh) (bx:List Bx):rh (l++zFi bx)=rh l:=by
 cases l with
 | cons s l=>cases s<;>rfl
 | nil=>
   rw [ou]
   cases h:zFi bx with
   | nil=>rfl
   | cons s l=>have:=zH8 bx s (by rw [h];simp);cases s<;>first | rfl | exact absurd rfl this
theorem zH9 (as:List PV) (rs:List Sh):rh (rsJ as rs)=rh rs:=by unfold rsJ;split<;>rfl
theorem zJG (as:List PV) (rs:List Sh):(rsJ as rs).length=rs.length:=by unfold rsJ;split<;>simp
def zHa (P:Program) (rs:List Sh) (st:St) (dst:Option Nat) (f:FuncId) (al:List PV) (ks:List Nat) (K:St->Prop):Prop:=
 match zGz ks al,okB st ks&&Nat.beq (pO rs) (zBl P f (rs++zFi (yz st ks)) ((yz st ks).map yD)) with
 | some as,true=>∀ N1,st.N<=N1->BCalls P f (rsJ as rs++zFi (yz st ks)) as (yz st ks) N1 (QT.lam (rsJ as rs++zFi (yz st ks)) st.bx.length fun ps rows N2=>N1<=N2 ->
  zII N2 ps (zJ3 N2 rows (K (St.put (zK4 st ks (zCG ((yz st ks).map yD) (ps.drop (pO rs))) rows N2) dst (zKU (rsJ as rs) (zCG ((yz st ks).map yD) (ps.drop (pO rs))) ks (ps.take (pO rs)))))))
 | _,_=>False
def zKl (P:Program) (rs:List Sh) (st:St) (dst:Option Nat) (x:Operand) (args:List PV) (K:St->Prop):Prop:=
 match zJA (opd st.sl x) with
 | some (f,caps)=>match caps.all PV.isCap with
   | true=>zHa P rs st dst f (args++caps) (sB st.bx 200 (PV.refsL (args++caps)) []) K
   | false=>False
 | none=>False
theorem zEU {k j:Nat}:(st.kill k).bx[j]?=(st.bx[j]?).map (Bx.kill k):=by simp [St.kill]
theorem zHH {k:Nat} {B:Bx}:B.kill k=.gone↔B=.gone:=by cases B<;>simp [Bx.kill]
theorem zFK {k:Nat} {B:Bx}:(B.kill k).isArr=B.isArr:=by cases B<;>rfl
theorem vA {bx:List Bx}:∀ (ks:List Nat) (st:St) (j:Nat),((y4 bx ks st).bx[j]?=none↔st.bx[j]?=none)/\∀ B,st.bx[j]?=some B->∃ B',(y4 bx ks st).bx[j]?=some B'/\(B'=.gone↔B=.gone)/\B'.isArr=B.isArr
 | [],st,j=>⟨mS,fun B h=>⟨B,h,mS,rfl⟩⟩
 | k::ks,st,j=>by
   simp only [y4]
   split
   ·obtain ⟨h1,h2⟩:=vA ks (st.kill k) j
    refine ⟨by rw [h1,zEU];simp,fun B hB=>?_⟩
    obtain ⟨B',h3,h4,h5⟩:=h2 (B.kill k) (by rw [zEU,hB];rfl)
    exact ⟨B',h3,h4.trans zHH,h5.trans zFK⟩
   ·exact vA ks st j
theorem s8 {bx:List Bx}:∀ (ks:List Nat) (st:St),(y4 bx ks st).pins=st.pins
 | [],st=>rfl
 | k::ks,st=>by
   simp only [y4]
   split
   ·rw [s8 ks];rfl
   ·exact s8 ks st
theorem qL {bx:List Bx}:∀ (ks:List Nat) (st:St),Rel av w0 e0 pS pB a w e st->Rel av w0 e0 pS pB a w e (y4 bx ks st)
 | [],st,h=>h
 | k::ks,st,h=>by
   simp only [y4]
   split
   ·exact qL ks _ (zEk h (vv k st))
   ·exact qL ks st h
theorem zE1 {k:Nat}:(∀ (i:Nat) (p:PV),(st.kill k).sl[i]?=some p->p=.any\/st.sl[i]?=some p)/\∀ (j:Nat) (B:Bx) (r:Nat),(st.kill k).bx[j]?=some B->r∈B.refs->∃ B',st.bx[j]?=some B'/\r∈B'.refs:=by
 constructor
 ·intro i p hi
  exact (vv k st).sl i p hi
 ·intro j B r hj hr
  obtain ⟨B',h1,h2⟩:=(vv k st).bx j B hj
  refine ⟨B',h1,?_⟩
  rcases h2 with rfl | rfl | ⟨cs,cs',rfl,rfl,h3,h4⟩
  ·simp [Bx.refs] at hr
  ·exact hr
  ·simp only [Bx.refs] at hr ⊢
   obtain ⟨p,hp,hrp⟩:=PV.refsL_mem.1 hr
   obtain ⟨i,hi⟩:=oP.1 hp
   rcases h4 i p hi with rfl | h5
   ·simp [PV.refs] at hrp
   ·exact PV.refsL_mem.2 ⟨p,oC h5,hrp⟩
theorem pW {bx:List Bx}:∀ (ks:List Nat) (st:St),(∀ (i:Nat) (p:PV),(y4 bx ks st).sl[i]?=some p->p=.any\/st.sl[i]?=some p)/\∀ (j:Nat) (B:Bx) (r:Nat),(y4 bx ks st).bx[j]?=some B->r∈B.refs->∃ B',st.bx[j]?=some B'/\r∈B'.refs
 | [],st=>⟨fun i p h=>.inr h,fun j B r h hr=>⟨B,h,hr⟩⟩
 | k :: ks,st=>by
   simp only [y4]
   split
   ·obtain ⟨h1,h2⟩:=pW ks (st.kill k)
    refine ⟨fun i p hi=>?_,fun j B r hj hr=>?_⟩
    ·rcases h1 i p hi with h3 | h3
     ·exact .inl h3
     ·exact zE1.1 i p h3
    ·obtain ⟨B',h3,h4⟩:=h2 j B r hj hr
     exact zE1.2 j B' r h3 h4
   ·exact pW ks st
theorem uV {bx:List Bx}:∀ (ks:List Nat) (st:St),∀ k∈ks,(bx.getD k .gone).isArr=true->(∀ (i:Nat) (p:PV),(y4 bx ks st).sl[i]?=some p->k∉p.refs)/\∀ (j:Nat) (B:Bx),(y4 bx ks st).bx[j]?=some B->k∉B.refs
 | [],st,k,h,_=>by simp at h
 | k'::ks,st,k,h,ha=>by
   simp only [y4]
   rcases oI.1 h with rfl | h
   ·rw [ha]
    obtain ⟨h1,h2⟩:=pW (bx:=bx) ks (st.kill k)
    refine ⟨fun i p hi hc=>?_,fun j B hj hc=>?_⟩
    ·rcases h1 i p hi with rfl | h3
     ·simp [PV.refs] at hc
     ·exact qd.1 i p h3 hc
    ·obtain ⟨B',h3,h4⟩:=h2 j B k hj hc
     exact qd.2 j B' h3 h4
   ·split
    ·exact uV ks _ k h ha
    ·exact uV ks st k h ha
theorem qy {bx:List Bx}:∀ (ks:List Nat) (st:St),(y4 bx ks st).bx.length=st.bx.length/\(y4 bx ks st).sl.length=st.sl.length
 | [],st=>⟨rfl,rfl⟩
 | k::ks,st=>by
   simp only [y4]
   split
   ·have:=qy (bx:=bx) ks (st.kill k)
    simpa [St.kill] using this
   ·exact qy ks st
theorem qw:∀ (cs es:List PV),(∀ p∈es,p.refs=[])->(∀ q∈(zDi cs es).1,q.refs=[]\/q∈cs)/\∀ q∈(zDi cs es).2,q∈es
 | [],es,h=>⟨by simp [zDi],by simp [zDi]⟩
 | p::ps,es,h=>by
   simp only [zDi]
   split
   ·cases es with
    | nil=>simp
    | cons q es=>
      obtain ⟨h1,h2⟩:=qw ps es fun x hx=>h x (by simp [hx])
      refine ⟨fun x hx=>?_,fun x hx=>by simp [h2 x hx]⟩
      rcases oI.1 hx with rfl | hx
      ·exact .inl (h _ (by simp))
      ·exact (h1 x hx).imp id fun hm=>by simp [hm]
   ·obtain ⟨h1,h2⟩:=qw ps es h
    refine ⟨fun x hx=>?_,h2⟩
    rcases oI.1 hx with rfl | hx
    ·exact .inr (by simp)
    ·exact (h1 x hx).imp id fun hm=>by simp [hm]
theorem zGn (B:Bx) (es:List PV) (h:∀ p∈es,p.refs=[]):(∀ j∈(zER B es).1.refs,j∈B.refs)/\(zER B es).1.isArr=B.isArr/\∀ q∈(zER B es).2,q∈es:=by
 cases B with
 | var cs=>
   obtain ⟨h1,h2⟩:=qw cs es h
   refine ⟨fun j hj=>?_,rfl,h2⟩
   simp only [zER,Bx.refs] at hj ⊢
   obtain ⟨q,hq,hjq⟩:=PV.refsL_mem.1 hj
   rcases h1 q hq with h3 | h3
   ·rw [h3] at hjq;simp at hjq
   ·exact PV.refsL_mem.2 ⟨q,h3,hjq⟩
 | vd y n=>
   simp only [zER]
   split
   ·exact ⟨by simp [Bx.refs],rfl,fun q hq=>by simp [hq]⟩
   ·exact ⟨by simp [Bx.refs],rfl,by simp⟩
 | arr t z y n=>
   simp only [zER]
   split
   ·exact ⟨by simp [Bx.refs],rfl,fun q hq=>by simp [hq]⟩
   ·exact ⟨by simp [Bx.refs],rfl,by simp⟩
 | gone=>exact ⟨by simp [zER,Bx.refs],rfl,fun q hq=>hq⟩
theorem zE0:∀ (bs:List Bx) (es:List PV),(∀ p∈es,p.refs=[])->(zFQ bs es).length=bs.length/\∀ (j:Nat) (B':Bx),(zFQ bs es)[j]?=some B'->∃ B,bs[j]?=some B/\(∀ i∈B'.refs,i∈B.refs)/\B'.isArr=B.isArr
 | [],es,h=>⟨rfl,by simp [zFQ]⟩
 | B::bs,es,h=>by
   obtain ⟨h1,h2,h3⟩:=zGn B es h
   obtain ⟨h4,h5⟩:=zE0 bs (zER B es).2 fun p hp=>h p (h3 p hp)
   refine ⟨by simp [zFQ,h4],fun j B' hj=>?_⟩
   cases j with
   | zero=>simp [zFQ] at hj;subst hj;exact ⟨B,rfl,h1,h2⟩
   | succ j=>simp only [zFQ,nF] at hj ⊢;exact h5 j B' hj
theorem zB4 (bs:List Bx) (es:List PV) (h:∀ p∈es,p.refs=[]):(zCG bs es).length=bs.length/\∀ (j:Nat) (B':Bx),(zCG bs es)[j]?=some B'->∃ B,bs[j]?=some B/\(∀ i∈B'.refs,i∈B.refs)/\B'.isArr=B.isArr:=by
 obtain ⟨h1,h2⟩:=zE0 bs es h
 refine ⟨by simp [zCG,h1],fun j B' hj=>?_⟩
 simp only [zCG,oE] at hj
 cases hB:(zFQ bs es)[j]? with
 | none=>simp [hB] at hj
 | some B1=>
   simp only [hB,oT,oZ] at hj
   obtain ⟨B,h3,h4,h5⟩:=h2 j B1 hB
   subst hj
   cases B1 with
   | var cs=>
     refine ⟨B,h3,fun i hi=>h4 i ?_,h5⟩
     simp only [zKS,Bx.refs] at hi ⊢
     obtain ⟨p,hp,hip⟩:=PV.refsL_mem.1 hi
     obtain ⟨q,hq,rfl⟩:=oQ.1 hp
     refine PV.refsL_mem.2 ⟨q,hq,?_⟩
     cases q<;>simp only [zKo] at hip<;>try exact hip
     split at hip
     ·exact hip
     ·simp [PV.refs] at hip
   | _=>exact ⟨B,h3,h4,h5⟩
theorem rA {B:Bx}:(yD B).refs=B.refs/\(yD B).isArr=B.isArr:=by
 cases B with
 | var cs=>
   refine ⟨?_,rfl⟩
   simp only [yD,Bx.refs]
   induction cs with
   | nil=>rfl
   | cons p cs ih=>
     simp only [oq,PV.refsL,ih]
     congr 1
     cases p<;>rfl
 | _=>exact ⟨rfl,rfl⟩
theorem zCr {ks:List Nat} {B:Bx}:(B.ren ks).isArr=B.isArr:=by cases B<;>rfl
theorem zH1 {ks:List Nat} {B:Bx}:∀ j∈(B.ren ks).refs,j<ks.length:=by
 cases B with
 | var cs=>
   intro j hj
   simp only [Bx.ren,Bx.refs] at hj
   obtain ⟨p,hp,hjp⟩:=PV.refsL_mem.1 hj
   obtain ⟨q,hq,rfl⟩:=oQ.1 hp
   unfold zHe at hjp
   split at hjp
   ·rename_i q' hq'
    exact (yj (e:=[]) hq').rf j hjp
   ·simp [PV.refs] at hjp
 | _=>simp [Bx.ren,Bx.refs]
theorem QT.app_base:∀ (l:List Sh) (Q:QT l) (b:Nat) (ps:List PV) (rows:List Bx) (N:Nat),QT.app l Q b ps rows N->∀ p∈ps,∀ k∈p.refs,b<=k
 | [],Q,b,ps,rows,N,h=>by
   cases ps<;>cases rows<;>simp [QT.app] at h ⊢
 | s :: l,Q,b,ps,rows,N,h=>by
   by_cases hs:s=.pk
   ·subst hs;exact QT.app_base l Q b ps rows N h.2
   cases ps with
   | nil=>cases s<;>first | exact absurd rfl hs | (simp [QT.app] at h;done)
   | cons p ps=>
     have key:(∃ (Q':QT l) (b':Nat) (rows':List Bx),b<=b'/\QT.app l Q' b' ps rows' N)/\∀ k∈p.refs,b<=k:=by
      cases s<;>(try (exact absurd rfl hs))<;>cases p<;>(try (exact h.elim))<;>(try (simp [QT.app] at h;done))<;>first
       | exact ⟨⟨_,_,_,oF _,h⟩,by simp [PV.refs]⟩
       | exact ⟨⟨_,_,_,oF _,h.2⟩,by simp [PV.refs]⟩
       | skip
      all_goals
       cases rows with
       | nil=>simp [QT.app] at h
       | cons B rows=>
         cases B<;>first
          | exact ⟨⟨_,b+1,_,by omega,h.2⟩,by have:=h.1.1;simp [PV.refs];omega⟩
          | (simp [QT.app] at h;done)
          | (obtain ⟨_,_,_,_,_,hb,_,h⟩:=h;cases hb;exact ⟨⟨_,_,_,Nat.le_succ b,h⟩,by simp [PV.refs]⟩)
     obtain ⟨⟨Q',b',rows',hb,h'⟩,hp⟩:=key
     intro q hq k hk
     rcases oI.1 hq with rfl | hq
     ·exact hp k hk
     ·exact ol hb (QT.app_base l Q' b' ps rows' N h' q hq k hk)
theorem zEL {d:Nat} {e e':Env} {p:PV} (hp:p.plainR=true) (hat:∀ k∈p.refs,e.at (d+k)=e'.at k):(p.shift d).val1 e=p.val1 e':=by
 cases p
 case sb k z lo n c=>
  have:=hat k (by simp [PV.refs])
  simp [PV.shift,PV.val1,PV.cv,this]
 case pb k z i o=>
  have:=hat k (by simp [PV.refs])
  simp [PV.shift,PV.val1,PV.cv,this]
 all_goals first
  | rfl
  | simp [PV.plainR] at hp
theorem zHP {d:Nat} {e e':Env} {p:PV} (hp:p.plainR=true) (hat:∀ k∈p.refs,e.at (d+k)=e'.at k):(p.shift d).cv e=p.cv e':=by
 cases p
 case sb k z lo n c=>have:=hat k (by simp [PV.refs]);simp [PV.shift,PV.cv,this]
 case pb k z i o=>have:=hat k (by simp [PV.refs]);simp [PV.shift,PV.cv,this]
 all_goals first
  | rfl
  | simp [PV.plainR] at hp
theorem zDe {d:Nat} {e e':Env} {ps:List PV} {pk:Bool} (hp:∀ p∈ps,p.plainR=true) (hat:∀ p∈ps,∀ k∈p.refs,e.at (d+k)=e'.at k):(zAX pk (ps.map (PV.shift d))).val e=zFO pk e' ps:=by
 cases pk with
 | true=>
   simp only [zAX,zFO,PV.val,PV.val1,PV.cvs_eq,nc]
   congr 2
   exact oe fun p h=>zHP (hp p h) (hat p h)
 | false=>
 have key:∀ p∈ps,(p.shift d).val1 e=p.val1 e':=fun p h=>zEL (hp p h) (hat p h)
 have one:∀ p,p∈ps->(p.shift d).val e=p.val1 e':=fun p h=>by
  rw [<-key p h]
  have:=hp p h
  cases p<;>simp [PV.plainR] at this<;>rfl
 rcases ps with _ | ⟨p,_ | ⟨q,ps⟩⟩
 ·rfl
 ·exact one p (by simp)
 ·simp only [oq,zAX,zCz,PV.val,zFO,zHM]
  rw [key p (by simp),key q (by simp),nc]
  congr 4
  exact oe fun r hr=>key r (by simp [hr])
theorem zAb {d:Nat}:∀ {es:List PV},(∀ p∈es,p.refs=[])->es.map (PV.shift d)=es
 | [],_=>rfl
 | p::es,h=>by
   rw [oq,zAb fun q hq=>h q (by simp [hq])]
   congr 1
   have:=h p (by simp)
   cases p<;>first | rfl | simp [PV.refs] at this
theorem zFq {ks:List Nat} {bx:List Bx} {live:Nat->Prop} (hlive:∀ b,live b->zJ av pB e bx b) {p q:PV} {v:Value} (hv:ValOk av w e pB bx v p) (h:zLW ks p=some q) :
  v=q.val (u6 e ks)/\q.Ok w live/\∀ k∈q.refs,k<ks.length:=by
 have byRen:p.ren ks=some q->p≠.any->v=q.val (u6 e ks)/\q.Ok w live/\∀ k∈q.refs,k<ks.length:=fun h1 h2=>by
  have h3:=yj (e:=e) h1
  refine ⟨(hv.1.resolve_left h2).trans (zGm h1),h3.ok _ _ (PV.Ok.mono (fun _ _ _=>rfl) (oF _) (fun b _=>hlive b) p hv.2.1),h3.rf⟩
 have byNorm:vh p=some q->v=q.val (u6 e ks)/\q.Ok w live/\∀ k∈q.refs,k<ks.length:=fun h1=>by
  obtain ⟨h2,h3,h4⟩:=y5 hv h1
  exact ⟨h2.trans (PV.val_congr q (by rw [h4];simp)),h3 live hlive,by rw [h4];simp⟩
 unfold zLW at h
 split at h
 ·exact byRen h (by simp)
 ·split at h
  ·exact byNorm h
  ·rename_i hr
   exact byRen h fun hc=>by subst hc;exact hr rfl
theorem qo {ks:List Nat} {bx:List Bx} {live:Nat->Prop} (hlive:∀ b,live b->zJ av pB e bx b):∀ {ps qs:List PV} {vs:List Value},zGz ks ps=some qs->ps.length=vs.length->(∀ (i:Nat) (p:PV) (v:Value),ps[i]?=some p->vs[i]?=some v->ValOk av w e pB bx v p) ->
  qs.map (PV.val (u6 e ks))=vs/\∀ q∈qs,q.Ok w live/\∀ k∈q.refs,k<ks.length
 | [],qs,vs,h,hl,hv=>by
   simp [zGz] at h;subst h
   cases vs with
   | nil=>simp
   | cons=>simp at hl
 | p :: ps,qs,vs,h,hl,hv=>by
   cases vs with
   | nil=>simp at hl
   | cons v vs=>
     simp only [zGz] at h
     split at h
     ·rename_i q rs h1 h2
      simp at h;subst h
      obtain ⟨g1,g2,g3⟩:=zFq hlive (hv 0 p v rfl rfl) h1
      obtain ⟨g4,g5⟩:=qo hlive h2 (by simpa using hl) fun i p v hp hpv=>hv (i+1) p v (by simpa using hp) (by simpa using hpv)
      refine ⟨by simp [g1,g4],fun r hr=>?_⟩
      rcases oI.1 hr with rfl | hr
      ·exact ⟨g2,g3⟩
      ·exact g5 r hr
     ·cases h
theorem zDX (h:Rel av w0 e0 pS pB a w e st) (hpl:∀ k∈pB,k<st.bx.length) {rs:List Sh} {o:Oper} {c:Call} {x:Operand} {args:List PV} {K:St->Prop} (ho:o.op=.call c) (hc:c.callee=.value x)
  (hx:∀ t,x=.tmp t->t∉pS) (ha:args.length=c.args.size) (hav:∀ (i:Nat) (p:PV) (y:Operand),args[i]?=some p->c.args[i]?=some y->ValOk av w e pB st.bx (a.eval y) p)
  {f:FuncId} {caps:List PV} (hf:zJA (opd st.sl x)=some (f,caps)) (hcapall:∀ p∈caps,p.isCap=true) {ks:List Nat} (hnd:ks.Nodup) (hkpB:∀ k∈ks,k∉pB)
  (hps:∀ i,i∈pS->some i≠o.dst->i∈pS') (hs:zHa P rs st o.dst f (args++caps) ks K) {next:Act->World->Prop} {Q:Exit->Act->World->Prop}
  (hn:∀ v w' e' st',K st'->(∃ nb rows N p,st'=St.put (zK4 st ks nb rows N) o.dst p)->Rel av w0 e0 pS' pB (a.put o.dst v) w' e' st'->next (a.put o.dst v) w'):o.wp P a w next Q:=by
 have ox:=yP h hx
 have ox:=rF ox.valOk hf
 have hxv:=ox.1.resolve_left (by simp)
 have hcv:a.eval x=.func (.func f) #[] (PV.cvs e caps).toArray:=hxv
 have hcok:PV.OkL w (zJ av pB e st.bx) caps:=by have:=ox.2.1;simpa only [PV.Ok] using this
 rw [PV.OkL_iff] at hcok
 have hcrf:∀ p∈caps,∀ k∈p.refs,k∉pB/\k<st.bx.length:=fun p hp k hk=>ox.2.2 k (by simp only [PV.refs];exact PV.refsL_mem.2 ⟨p,hp,hk⟩)
 have hcap:∀ (i:Nat) (p:PV) (v:Value),(args++caps)[i]?=some p->(c.args.toList.map a.eval++caps.map (PV.cv e))[i]?=some v->ValOk av w e pB st.bx v p:=by
  intro i p v h1 h2
  by_cases hi:i<args.length
  ·rw [oK hi] at h1
   have hi2:i<c.args.toList.length:=by simp;omega
   rw [oK (by simpa using hi2),oE,oG hi2] at h2
   simp at h2
   subst h2
   exact hav i p _ h1 (by rw [oY (by omega)])
  ·rw [oM (by omega)] at h1
   rw [oM (by simp;omega),oE] at h2
   have hidx:i - (c.args.toList.map a.eval).length=i - args.length:=by simp;omega
   rw [hidx,h1] at h2
   simp at h2
   subst h2
   have hm:=oC h1
   exact ⟨.inr (tc (hcapall p hm)).symm,hcok p hm,hcrf p hm⟩
 have hln:(args++caps).length=(c.args.toList.map a.eval++caps.map (PV.cv e)).length:=by simp;omega
 unfold zHa at hs
 split at hs
 rotate_left
 ·exact hs.elim
 rename_i as has hok
 simp only [okB,oL,oS,mF,o7] at hok
 obtain ⟨⟨⟨hok1,hok2⟩,hok3⟩,hnr⟩:=hok
 have hok2:=mC hok2
 have hnr:=om hnr
 have hbox:∀ k∈ks,∃ B,st.bx[k]?=some B/\B≠.gone/\(B.isArr=true->rT st k=false):=fun k hk=>by
  have:=hok1 k hk
  split at this
  ·rename_i B hB
   simp only [oL,o7,mF] at this
   refine ⟨B,hB,fun hc=>by subst hc;simp [zEy] at this,fun ha=>?_⟩
   rcases this.2 with h1 | h1
   ·rw [ha] at h1;cases h1
   ·exact h1
  ·cases this
 -- the boxes that are handed on
 have hE:(ks.map some).map (fun u=>Option.bind u e.at)=u6 e ks:=by simp [u6]
 have hbl:(yz st ks).length=ks.length:=by simp [yz]
 have hbg:∀ (j:Nat) (B':Bx),(yz st ks)[j]?=some B'->∃ k B,ks[j]?=some k/\st.bx[k]?=some B/\B≠.gone/\B'=B.ren ks:=fun j B' hj=>by
  simp only [yz,oE] at hj
  cases hk:ks[j]? with
  | none=>simp [hk] at hj
  | some k=>
    simp only [hk,oT,oZ] at hj
    obtain ⟨B,h1,h2,_⟩:=hbox k (oC hk)
    refine ⟨k,B,rfl,h1,h2,?_⟩
    rw [<-hj,oA,h1];rfl
 obtain ⟨hmem,hlv,hlvs⟩:=zEW (us:=ks.map some) (nb:=yz st ks) (av':=fun b=>av b\/∃ k,k∉ks/\Lives pB e st.bx k b) h.toMem (fun b hb=>hb.imp id fun ⟨k,hk⟩=>⟨k,hk.2⟩) (by simp [yz])
  (fun i j k hi hj=>by
   simp only [oE] at hi hj
   cases hi2:ks[i]? with
   | none=>simp [hi2] at hi
   | some x=>
     cases hj2:ks[j]? with
     | none=>simp [hj2] at hj
     | some y=>
       simp [hi2] at hi;simp [hj2] at hj
       subst hi;subst hj
       obtain ⟨i1,i2⟩:=oB.1 hi2
       obtain ⟨j1,j2⟩:=oB.1 hj2
       exact (List.getElem_inj hnd).1 (i2.trans j2.symm))
  (fun j B' hj=>by
   obtain ⟨k,B,h1,h2,h3,rfl⟩:=hbg j B' hj
   refine .inr ⟨k,B,by simp [h1],hkpB k (oC h1),h2,⟨?_⟩⟩
   rw [hE]
   cases B with
   | var cs=>
     refine .inr (.inr ⟨cs,_,rfl,rfl,by simp,fun i q hq=>?_⟩)
     rw [oE] at hq
     cases hci:cs[i]? with
     | none=>simp [hci] at hq
     | some p=>
       simp only [hci,oT,oZ] at hq
       unfold zHe at hq
       split at hq
       ·rename_i q' hq'
        subst hq
        have h4:=yj (e:=e) hq'
        exact .inr ⟨p,rfl,h4.an.1,h4.cv,h4.ok,h4.ic,by simpa using h4.rf⟩
       ·exact .inl hq.symm
   | gone=>exact absurd rfl h3
   | vd x n=>exact .inr (.inl ⟨rfl,by simp⟩)
   | arr t z es c=>exact .inr (.inl ⟨rfl,by simp⟩))
 rw [hE] at hmem hlv hlvs
 obtain ⟨hargs,hargok⟩:=qo hlv has (by simp;omega) hcap
 have hlt:∀ b,zJ av pB e st.bx b->b<w.heap.size:=fun b hb=>hb.elim (fun hb=>by have:=h.avl.lt b hb;have:=h.size;omega) fun ⟨k,hk⟩=>Lives.lt h.toMem hk
 obtain ⟨hcl,hA⟩:=hs w.heap.size h.hN
 have hC:=hA (fun b=>av b\/∃ k,k∉ks/\Lives pB e st.bx k b) w (u6 e ks) rfl ⟨fun b hb=>hlt b (hb.imp id fun ⟨k,hk⟩=>⟨k,hk.2⟩),h.glob,fun b hb=>.inl (h.avl.ga b hb),fun b hb hc=>by
  simp only [u6,oQ] at hc
  obtain ⟨k,g1,g2⟩:=hc
  obtain ⟨B,g3,g4,_⟩:=hbox k g1
  exact h.avn k b ⟨hkpB k g1,g2,B,g3,g4⟩ (h.avl.ga b hb)⟩ hmem (fun j b hj hb=>by
  obtain ⟨k,g1,g2⟩:=hlvs j b hj
  simp only [oE] at g1
  cases hk:ks[j]? with
  | none=>simp [hk] at g1
  | some k2=>
    simp [hk] at g1;subst g1
    rcases hb with hb | ⟨k3,g3,g4⟩
    ·exact h.avn k2 b g2 hb
    ·exact g3 (h.inj k3 k2 b g4 g2 ▸ oC hk)) (fun p hp=>by obtain ⟨g1,g2⟩:=hargok p hp;exact ⟨g1,by rw [hbl];exact g2⟩)
 have hrun:(execOp a.eval o).run P w=.ok (.enter f (as.map (PV.val (u6 e ks))).toArray) w:=by
  have e1:(as.map (PV.val (u6 e ks))).toArray=c.args.map a.eval++(PV.cvs e caps).toArray:=by
   rw [hargs,PV.cvs_eq]
   apply nG.1
   simp
  rw [e1]
  obtain ⟨dst,op,ty,pos,after,guard⟩:=o
  simp only at ho
  subst ho
  simp only [execOp,resolve,hc,Deferred.ofValue,hcv,invoke]
  simp [zDM hcl]
 unfold Oper.wp
 rw [hrun,Oper.upon_enter]
 refine hC.mono fun en w' hen=>?_
 cases en with
 | panicked=>exact hen.elim
 | outgrown=>exact hen.elim
 | returned v=>
   obtain ⟨ps,es,rows,e1,hpn,hd⟩:=hen
   have hb0:((yz st ks).map yD).length=ks.length:=by simp [hbl]
   have hnr':pO rs=zBl P f (rsJ as rs++zFi (yz st ks)) ((yz st ks).map yD):=by
    rw [hnr];simp only [zBl,zBk,zH9,oH,zJG]
   rw [<-hnr'] at hpn
   have hq:=hd.q
   rw [hb0] at hq
   have hq0:=hq
   have happ:=QT.app_lam (rsJ as rs++zFi (yz st ks)) (st.bx.length - ks.length) ks.length _ (ps++es) rows _ (by rw [show st.bx.length - ks.length+ks.length=st.bx.length by omega];exact hq)
   have hplain:∀ p∈ps,p.plainR=true:=fun p hp=>QT.app_plain _ _ _ _ _ _ hq p (oW _ hp)
   have hbase:∀ p∈ps,∀ k∈p.refs,ks.length<=k:=fun p hp=>QT.app_base _ _ _ _ _ _ hq p (oW _ hp)
   obtain ⟨harr,hrfs⟩:=QT.app_rows _ _ _ _ _ _ hq
   have happ:=happ hd.size
   rw [mE,zAb hd.ns] at happ
   have e2:(ps.map (PV.shift (st.bx.length - ks.length))++es).take (pO rs)=ps.map (PV.shift (st.bx.length - ks.length)):=List.take_left' (by simp [hpn])
   have e3:(ps.map (PV.shift (st.bx.length - ks.length))++es).drop (pO rs)=es:=List.drop_left' (by simp [hpn])
   rw [e2,e3] at happ
   have hbel:=xW (N:=w'.heap.size) (fun q hq=>by
    rcases oO.1 hq with hq | hq
    rotate_left
    ·exact hd.be q hq
    obtain ⟨p,hp,rfl⟩:=oQ.1 hq
    have hpl:=hplain p hp
    have hok:=hd.ok p hp
    cases p<;>simp only [PV.shift]<;>simp only [PV.Ok] at hok
    ·exact hok.1.lt
    ·exact hok.1.1.lt) happ
   have hrowm:∀ (i:Nat) (B:Bx),rows[i]?=some B->(zCG ((yz st ks).map yD) es++rows)[ks.length+i]?=some B:=fun i B hi=>by
    have hl:=(zB4 ((yz st ks).map yD) es hd.ns).1
    rw [hb0] at hl
    rw [oM (by omega),hl];simpa using hi
   have hbel2:=ud (N:=w'.heap.size) (fun t z ds cc hm b hb=>by
    obtain ⟨i,hi⟩:=oP.1 hm
    have:=hd.m.bo _ _ (hrowm i _ hi) (by simp)
    simp only [D.foot] at hb
    obtain ⟨y,hy,hby⟩:=zD.1 hb
    exact (this y hy).1.lt b hby) hbel
   obtain ⟨ul,ug⟩:=zB4 ((yz st ks).map yD) es hd.ns
   rw [hb0] at ul
   have ug2:∀ (j:Nat) (B':Bx),(zCG ((yz st ks).map yD) es)[j]?=some B'->∃ k B,ks[j]?=some k/\st.bx[k]?=some B/\B'.isArr=B.isArr/\∀ i∈B'.refs,i<ks.length:=fun j B' hj=>by
    obtain ⟨B1,g1,g2,g3⟩:=ug j B' hj
    rw [oE] at g1
    cases hb:(yz st ks)[j]? with
    | none=>simp [hb] at g1
    | some B2=>
      simp only [hb,oT,oZ] at g1
      obtain ⟨k,B,q1,q2,q3,rfl⟩:=hbg j B2 hb
      subst g1
      refine ⟨k,B,q1,q2,by rw [g3,rA.2,zCr],fun i hi=>?_⟩
      have:=g2 i hi
      rw [rA.1] at this
      exact zH1 i this
   have hkr:=qL (bx:=st.bx) ks st h
   have hlvk:∀ k b,Lives pB e (y4 st.bx ks st).bx k b↔Lives pB e st.bx k b:=fun k b=>by
    obtain ⟨g1,g2⟩:=vA (bx:=st.bx) ks st k
    constructor
    ·rintro ⟨h1,h2,B',h3,h4⟩
     cases hB:st.bx[k]? with
     | none=>rw [g1.2 hB] at h3;cases h3
     | some B=>
       obtain ⟨B'',q1,q2,_⟩:=g2 B hB
       rw [q1] at h3;cases h3
       exact ⟨h1,h2,B,hB,fun hc=>h4 (q2.2 hc)⟩
    ·rintro ⟨h1,h2,B,h3,h4⟩
     obtain ⟨B',q1,q2,_⟩:=g2 B h3
     exact ⟨h1,h2,B',q1,fun hc=>h4 (q2.1 hc)⟩
   have hkb:∀ (k:Nat) (B:Bx),(y4 st.bx ks st).bx[k]?=some B->∃ B0,st.bx[k]?=some B0/\B.isArr=B0.isArr/\(B=.gone↔B0=.gone):=fun k B hB=>by
    obtain ⟨g1,g2⟩:=vA (bx:=st.bx) ks st k
    cases hB0:st.bx[k]? with
    | none=>rw [g1.2 hB0] at hB;cases hB
    | some B0=>
      obtain ⟨B'',q1,q2,q3⟩:=g2 B0 hB0
      rw [q1] at hB;cases hB
      exact ⟨B0,rfl,q3,q2⟩
   have hget0:∀ k,((y4 st.bx ks st).bx.getD k .gone).isArr=(st.bx.getD k .gone).isArr:=fun k=>by
    obtain ⟨g1,g2⟩:=vA (bx:=st.bx) ks st k
    rw [oA,oA]
    cases hB0:st.bx[k]? with
    | none=>rw [g1.2 hB0]
    | some B0=>
      obtain ⟨B'',q1,_,q3⟩:=g2 B0 hB0
      rw [q1];exact q3
   have hio:Io av pB w w' e (y4 st.bx ks st).bx ks e1 (zCG ((yz st ks).map yD) es) rows:={
    nd:=hnd
    kp:=fun k hk=>by
     obtain ⟨B,g1,g2,_⟩:=hbox k hk
     obtain ⟨B',q1,q2,_⟩:=(vA (bx:=st.bx) ks st k).2 B g1
     exact ⟨hkpB k hk,B',q1,fun hc=>g2 (q2.1 hc)⟩
    len:=ul
    el:=by have:=hd.m.el;simp only [oH,ul] at this;omega
    m := by
      have he:(fun b=>av b\/∃ k,k∉ks/\Lives pB e (y4 st.bx ks st).bx k b)=fun b=>av b\/∃ k,k∉ks/\Lives pB e st.bx k b:=by
       funext b
       exact propext (or_congr mS (exists_congr fun k=>and_congr mS (hlvk k b)))
      rw [he];exact hd.m
    arr:=harr
    kind:=fun j k B B' hj hB hB'=>by
     obtain ⟨k2,B2,g1,g2,g3,_⟩:=ug2 j B' hB'
     rw [hj] at g1;cases g1
     obtain ⟨B0,q1,q2,_⟩:=hkb k B hB
     rw [g2] at q1;cases q1
     rw [g3,q2]
    refs:=fun B hB j hj=>by
     obtain ⟨i,hi⟩:=oP.1 hB
     obtain ⟨_,_,_,_,_,g⟩:=ug2 i B hi
     exact g j hj
    fix:=fun j k B hj hB ha=>by
     obtain ⟨B0,q1,q2,_⟩:=hkb k B hB
     have hj0:((yz st ks).map yD)[j]?=some (yD (B0.ren ks)):=by
      simp [yz,oE,hj,oA,q1]
     have:=hd.fix j _ hj0 (by rw [rA.2,zCr,<-q2];exact ha)
     rw [this]
     have hej:(u6 e ks).at j=e.at k:=by simp [u6,Env.at,oA,hj]
     rw [hej]
     have hbr:=h.br k B0 q1 (hkpB k (oC hj))
     rw [q2] at ha
     cases B0 with
     | var cs=>obtain ⟨b,_,_,g,_⟩:=hbr;rw [g];rfl
     | vd y n=>obtain ⟨b,_,_,g,_⟩:=hbr;rw [g];rfl
     | arr=>cases ha
     | gone=>cases ha
    fr:=fun j b hj=>by
     rcases hd.fresh j b hj with g | ⟨g1,g2⟩
     ·exact .inl g
     ·rw [hb0] at g1
      simp only [u6,oQ] at g2
      obtain ⟨k,g3,g4⟩:=g2
      exact .inr ⟨g1,k,g3,g4⟩
    size:=hd.size
    hold:=fun b hb hnk=>hd.old b hb fun hc=>by
     simp only [u6,oQ] at hc
     obtain ⟨k,g3,g4⟩:=hc
     exact hnk k g3 g4
    fz:=fun b cc t z hb hcc=>hd.fz b cc t z (hb.imp id fun ⟨k,g1,g2⟩=>by simp only [u6,oQ];exact ⟨k,g1,g2⟩) hcc
    ku:=hd.ku }
   have hpn2:=s8 (bx:=st.bx) ks st
   obtain ⟨hR,hgood⟩:=zKr hkr hio
    (fun i p hi k hk hka=>(uV ks st k hk (by rw [<-hget0];exact hka)).1 i p hi)
    (fun j B hj hjk k hk hka=>(uV ks st k hk (by rw [<-hget0];exact hka)).2 j B hj)
    (fun k hk hka b hb=>by
     rw [hpn2] at hb
     rw [hget0] at hka
     obtain ⟨B,g1,_,g3⟩:=hbox k hk
     rw [oA,g1] at hka
     have:=g3 hka
     unfold rT at this
     rw [hb] at this
     cases this)
    (by
     rw [hpn2]
     refine hok3.imp (fun hq k hk hka=>?_) fun hq k hk hka=>?_
     ·rw [hget0] at hka
      rcases hq k hk with g | g
      ·rw [hka] at g;cases g
      ·exact mC g
     ·rw [hget0] at hka
      rcases hq k hk with g | g
      ·rw [hka] at g;cases g
      ·exact mC g)
   have hkl:=(qy (bx:=st.bx) ks st).1
   have hatr:∀ p∈ps,∀ k∈p.refs,Env.at (pe ks e1 e++e1.drop ks.length) (st.bx.length - ks.length+k)=e1.at k:=fun p hp k hk=>by
    have h1:=hbase p hp k hk
    rw [Env.at_app,if_neg (by simp [pe,h.el];omega)]
    simp only [pe,nM,List.length_range,h.el,Env.at,oA,nD]
    congr 2;omega
   have hfin:ValOk av w' (pe ks e1 e++e1.drop ks.length) pB (bxN ks ((zCG ((yz st ks).map yD) es).map (Bx.mapR fun j=>ks.getD j 0)) 0 (y4 st.bx ks st).bx++rows) v (zKU (rsJ as rs) (zCG ((yz st ks).map yD) es) ks (ps.map (PV.shift (st.bx.length - ks.length)))):=by
    by_cases hbk:∃ j l,rsJ as rs=.bk j::l
    ·obtain ⟨j,l,hj⟩:=hbk
     have hv:=hd.v
     rw [hj] at hv ⊢
     simp only [nY,zGL] at hv
     simp only [zKU]
     cases hU:(zCG ((yz st ks).map yD) es)[j]? with
     | none=>exact pI
     | some B=>
       rw [hU] at hv
       cases B with
       | arr t z ds cc=>
         simp only at hv ⊢
         have hjl:j<ks.length:=by rw [<-ul];exact (oB.1 hU).1
         have hjk:ks[j]?=some (ks.getD j 0):=by rw [oA,oG hjl];rfl
         have hmem:ks.getD j 0∈ks:=oC hjk
         obtain ⟨B0,g1,g2,_⟩:=hbox _ hmem
         have hklt:=(oB.1 g1).1
         have hatj:Env.at (pe ks e1 e++e1.drop ks.length) (ks.getD j 0)=e1.at j:=by
          rw [Env.at_app,if_pos (by simp [pe,h.el];exact hklt),zF3 (by rw [h.el];exact hklt),zG5 hnd hjk]
         refine ⟨.inr ?_,trivial,fun k hk=>?_⟩
         ·rw [hv]
          simp only [PV.val,PV.val1,PV.cv,hatj]
         ·simp only [PV.refs,o8] at hk
          subst hk
          refine ⟨hkpB _ hmem,?_⟩
          simp only [oH,yH,hkl]
          omega
       | _=>exact pI
    ·have hnb:∀ j l,rsJ as rs++zFi (yz st ks)≠.bk j::l:=fun j l hc=>by
      cases hr:rsJ as rs with
      | nil=>
        rw [hr,ou] at hc
        exact zHn (yz st ks) (.bk j) (by rw [hc];simp) j rfl
      | cons s l'=>
        rw [hr] at hc
        simp only [nY,List.cons.injEq] at hc
        exact hbk ⟨j,l',by rw [hr,hc.1]⟩
     have hres:zKU (rsJ as rs) (zCG ((yz st ks).map yD) es) ks (ps.map (PV.shift (st.bx.length - ks.length)))=zAX (rh (rsJ as rs)) (ps.map (PV.shift (st.bx.length - ks.length))):=by
      unfold zKU
      split
      ·rename_i hc;exact absurd ⟨_,_,hc⟩ hbk
      ·rfl
     have hv:=hd.v
     rw [pQ hnb,zBk] at hv
     rw [hres]
     refine ⟨.inr ?_,?_,?_⟩
     ·rw [hv];exact (zDe hplain hatr).symm
     ·refine zGo (fun q hq=>?_) (fun hc q hq=>by obtain ⟨p,hp,rfl⟩:=oQ.1 hq;exact zCp (QT.app_pk (by rw [zBk];exact hc) hq0 p (oW _ hp)))
      obtain ⟨p,hp,rfl⟩:=oQ.1 hq
      have h1:=hd.ok p hp
      have h2:=hplain p hp
      have he:(fun b=>av b\/∃ k,k∉ks/\Lives pB e (y4 st.bx ks st).bx k b)=fun b=>av b\/∃ k,k∉ks/\Lives pB e st.bx k b:=by
       funext b
       exact propext (or_congr mS (exists_congr fun k=>and_congr mS (hlvk k b)))
      rw [he] at hgood
      cases p<;>simp [PV.plainR] at h2<;>simp only [PV.shift]<;>simp only [PV.Ok] at h1 ⊢
      ·exact hgood _ h1
      ·exact ⟨hgood _ h1.1,h1.2⟩
      ·exact ⟨hgood _ h1.1,h1.2⟩
     ·intro k hk
      obtain ⟨q,hq,hkq⟩:=zC3 k hk
      obtain ⟨p,hp,rfl⟩:=oQ.1 hq
      obtain ⟨j,hj,rfl⟩:=zAz (hplain p hp) k hkq
      have h1:=(hrfs p (oW _ hp)).2.2 j hj
      have h2:=hbase p hp j hj
      refine ⟨fun hc=>by have:=hpl _ hc;omega,?_⟩
      simp only [oH,yH,hkl]
      omega
   exact hn v w' (pe ks e1 e++e1.drop ks.length) _ hbel2 ⟨_,rows,_,_,rfl⟩ (yX hR hfin hps)
end Go.Proofs.YtmfjakahanbnlaaGreatDoor
