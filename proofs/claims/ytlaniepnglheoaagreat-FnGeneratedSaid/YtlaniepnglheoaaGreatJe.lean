/- A call within a call is sound. -/
import Derived.Test.YtlaniepnglheoaaGreatJc
set_option linter.unusedVariables false
set_option linter.unusedSimpArgs false
set_option linter.unusedSectionVars false
namespace Go.Proofs.YtlaniepnglheoaaGreat
open Go
variable [Dfs] {av:Nat->Prop} {P:Program} {w0 w w':World} {e0 e:Env} {pS pS' pB:List Nat} {a:Act} {st st':St}
def s3 (bs:List (Option Addr)):List Nat:=bs.filterMap λa=>a.map (·.block)
def PV.plainR:PV->Bool
 | .int ..=>true
 | .bool ..=>true
 | .str ..=>true
 | .sv ..=>true
 | .dg ..=>true
 | .sb ..=>true
 | .dc ..=>true
 | .pb ..=>true
 | _=>false
theorem QT.app_plain:∀(l:List Sh)(Q:QT l)(b:Nat)(ps:List PV)(rows:List Bx)(N:Nat),QT.app l Q b ps rows N->∀ p∈ps,p.plainR=true
 | [],Q,b,ps,rows,N,h=>by cases ps<;>cases rows<;>simp[QT.app]at h ⊢
 | s :: l,Q,b,ps,rows,N,h=>by
   by_cases hs:s=.pk
   ·subst hs;exact QT.app_plain l Q b ps rows N h.2
   cases ps with
   | nil=>cases s<;>first | exact absurd rfl hs | (simp[QT.app]at h;done)
   | cons p ps=>
     have key:(∃(Q':QT l) (J:Nat) (I:List Bx),QT.app l Q' J ps I N)/\p.plainR=true:=by
      cases s<;>(try(exact absurd rfl hs))<;>cases p<;>(try(exact h.elim))<;>(try(simp[QT.app]at h;done))<;>first
       | exact⟨⟨_,_,_,h⟩,rfl⟩
       | exact⟨⟨_,_,_,h.2⟩,rfl⟩
       | skip
      all_goals
       cases rows with
       | nil=>simp[QT.app]at h
       | cons B rows=>
         cases B<;>first
          | exact⟨⟨_,_,_,h.2⟩,rfl⟩
          | (simp[QT.app]at h;done)
          | (obtain⟨_,_,_,_,_,_,_,h⟩:=h;exact⟨⟨_,_,_,h⟩,rfl⟩)
     obtain⟨⟨Q',J,I,O⟩,U⟩:=key;intro q hq;rcases oH.1 hq with rfl | hq
     ·exact U
     ·exact QT.app_plain l Q' J ps I N O q hq
theorem UC {cs:List PV}{ds:List D}(h:K5 cs=some ds){live:Nat->Prop}(I:PV.OkL w live cs):PV.val [] (.dg cs.length (.ag ds))=PV.val e (.pg cs):=by obtain⟨_,J⟩:=rn (e:=e) h I;simp[PV.val,PV.val1,D.val,J]
theorem vB {bx:List Bx}{v:Value}{p q:PV}(hv:ValOk av w e pB bx v p)(h:pE p=some q):v=q.val []/\(∀ live,(∀ b,live b->zg av pB e bx b)->q.Ok w live)/\q.refs=[]:=by
 have U:p≠.any:=λhc=>by subst hc;simp[pE]at h
 have O:=hv.1.resolve_left U;have I:=hv.2.1;have same:p=q->q.refs=[]->v=q.val []/\(∀ live,(∀ b,live b->zg av pB e bx b)->q.Ok w live)/\q.refs=[]:=λY hr=>by subst Y;refine⟨by rw[O];exact(PV.val_congr p (by rw[hr];simp)).symm,λlive hl=>PV.Ok.mono (λ_ _ _=>rfl) (oD _) (λb _=>hl b) p I,hr⟩
 cases p<;>simp[pE]at h
 case pg cs=>
  split at h
  ·rename_i ds J;simp at h;subst h;simp only[PV.Ok]at I;refine⟨by rw[O,UC J I.1],λlive hl=>?_,rfl⟩;obtain⟨g1,_⟩:=rn (e:=e) J I.1;exact⟨(Good.ag λd hd=>(g1 d hd).1).mono (λ_ _ _=>rfl) (λb _=>hl b),ds,rfl,t6 J,λd hd=>(g1 d hd).2⟩
  ·cases h
 all_goals(subst h;exact same rfl rfl)
theorem Cq {p:PV}(h:p.isCap=true):p.val e=p.cv e:=by cases p<;>simp[PV.isCap]at h<;>rfl
theorem OL {bx:List Bx} (h:Mem av pB w e bx) {k z b:Nat} {B:Bx} {x:D} (hk:bx[k]?=some B) (J:k∉pB) (hc:U0 B=some (z,x)) :
  ∃ b c t,e.at k=some b/\w.heap[b]?=some (.cells c t (0,0))/\Lives pB e bx k b/\Good w (zg av pB e bx) x/\eOk z x/\∀(i:Nat) (u:D),x.cells[i]?=some u->c[i]?=some u.cv:=by
 have hr:=h.br k B hk J;have ho:=h.bo k B hk J;cases B with
 | gone=>cases hc
 | arr=>cases hc
 | var cs =>
   obtain⟨b,c,t,h1,h2,h3,h4⟩:=hr;have hl:Lives pB e bx k b:=⟨J,h1,_,hk,by simp⟩
   have aa:=ho.1;refine⟨b,c,t,h1,h2,hl,?_⟩;simp only[U0]at hc;split at hc
   ·rename_i p;split at hc
    ·rename_i d hd;simp at hc;obtain⟨rfl,rfl⟩:=hc;obtain⟨g1,g2,g3,g4,_⟩:=wN (e:=e) hd (PV.OkL_iff.1 aa p (by simp));have ab:d.cells=[d]:=by cases d<;>simp[D.isCell]at g2<;>rfl
     refine⟨g1,by simpa [eOk]using g2,λi u U=>?_⟩;rw[ab]at U;cases i with
     | zero=>
       simp at U;subst U;rcases h4 0 p rfl with h5 | h5
       ·subst h5;simp[Aq]at hd
       ·rw[g3];exact h5
     | succ i=>simp at U
    ·cases hc
   ·split at hc
    ·rename_i n ds hd O;simp at hc;obtain⟨rfl,rfl⟩:=hc;obtain⟨g1,g2⟩:=rn (e:=e) O aa;refine⟨Good.ag λd hd=>(g1 d hd).1,?_,λi u U=>?_⟩
     ·simp only[eOk,Nat.add_one_ne_zero,nQ];exact⟨ds,rfl,by rw[t6 O];exact hd,λd hd=>(g1 d hd).2⟩
     ·simp only[D.cells]at U;have ac:i<ds.length:=(oC.1 U).1;have Y:i<cs.length:=by rw[<-t6 O];exact ac
      have I:(ds.map D.cv)[i]?=(PV.cvs e cs)[i]?:=by rw[g2]
      rw[oG,U,PV.cvs_eq,oG,oF Y]at I;simp only[oe,nL]at I;rcases h4 i _ (oF Y)with h5 | h5
      ·exfalso;have:∀(l:List PV) (r:List D),K5 l=some r->PV.any∉l:=by
        intro l
        induction l with
        | nil=>intro r _;simp
        | cons q l ih=>
          intro r hr hm;simp only[K5]at hr;split at hr
          ·rename_i d ae h7 h8;rcases oH.1 hm with rfl | hm
           ·simp[Aq]at h7
           ·exact ih _ h8 hm
          ·cases hr
       exact this cs ds O (by rw[<-h5];exact mM Y)
      ·rw[I];exact h5
    ·cases hc
 | vd y n=>
   obtain⟨b,c,t,h1,h2,h3,h4,h5⟩:=hr;refine⟨b,c,t,h1,h2,⟨J,h1,_,hk,by simp⟩,?_⟩;simp only[U0]at hc;split at hc
   ·cases hc
   ·simp at hc;obtain⟨rfl,rfl⟩:=hc;exact⟨ho,by simpa [eOk]using h4,h5⟩
def ArgOk (av:Nat->Prop)(pB:List Nat)(w:World)(e:Env)(st:St)(bs:List (Option Addr))(v:Value)(p q:PV):Prop:=
 q.val []=v/\(∀ live,(∀ b,live b->zg av pB e st.bx b/\b∉s3 bs)->q.Ok w live)/\q.refs=[]/\(p.isCap=true->q.isCap=true)
theorem tW {a b:List (Option Addr)}:s3 (a++b)=s3 a++s3 b:=by simp[s3]
theorem ArgOk.mono {bs bs':List (Option Addr)}{v:Value}{p q:PV}(h:ArgOk av pB w e st bs v p q)(O:∀ b∈s3 bs,b∈s3 bs'):ArgOk av pB w e st bs' v p q:=
 ⟨h.1,λlive J=>h.2.1 live λb I=>⟨(J b I).1,λhc=>(J b I).2 (O b hc)⟩,h.2.2⟩
def BZ (pB:List Nat)(e:Env)(bx:List Bx)(bs:List (Option Addr)):Prop:=∀ b∈s3 bs,∃ k,Lives pB e bx k b
theorem tI {bx:List Bx}{x:Option Addr}(O:∀ ad,x=some ad->zg av pB e bx ad.block):∀ {ps:List PV}{K:Prop},(∀ p∈ps,∃ v,ValOk av w e pB bx v p)->Wd x ps K->K
 | [],K,_,h=>h
 | p::ps,K,hp,h=>by
   have I:=λq hq=>hp q (nz _ hq);obtain⟨v,hv⟩:=hp p (by simp);have U:=hv.2.1;cases p<;>simp only[Wd]at h
   case sv=>refine tI O I (h λy Y ad J hm=>?_);rw[oW]at Y;subst Y;exact U.2 _ hm (O ad J)
   case dg=>refine tI O I (h λy Y ad J hm=>?_);rw[oW]at Y;subst Y;exact U.1.2 _ hm (O ad J)
   all_goals exact tI O I h
theorem AF (h:Mem av pB w e st.bx) {al:List PV} (aa:∀ p∈al,∃ v,ValOk av w e pB st.bx v p):∀(cs:List PV) (K:List D->List (Option Addr)->Prop),(∀ p∈cs,p.Ok w (zg av pB e st.bx)/\∀ k∈p.refs,k∉pB)->JE st al cs K ->
  ∃ ds bs,K ds bs/\ds.length=cs.length/\ds.map D.cv=PV.cvs e cs/\(∀ d∈ds,d.isCell)/\(∀ live,(∀ b,live b->zg av pB e st.bx b/\b∉s3 bs)->∀ d∈ds,Good w live d)/\BZ pB e st.bx bs
 | [],K,_,O=>⟨[],[],O,rfl,rfl,by simp,by simp,by simp[BZ,s3]⟩
 | p :: ps, K,hc,O=>by
   have ab:=λq hq=>hc q (nz _ hq);have ai:∀ d,Aq p=some d->JE st al ps (λds bs=>K (d::ds) bs)->∃ ds bs,K ds bs/\ds.length=(p::ps).length/\ds.map D.cv=PV.cvs e (p::ps)/\(∀ d∈ds,d.isCell)/\(∀ live,(∀ b,live b->zg av pB e st.bx b/\b∉s3 bs)->∀ d∈ds,Good w live d)/\BZ pB e st.bx bs:=λd hd O=>by
    obtain⟨g1,g2,g3,_,_⟩:=wN (w:=w) (e:=e) hd (hc p (by simp)).1;obtain⟨ds,bs,k1,k2,k3,k4,k5,k6⟩:=AF h aa ps _ ab O;refine⟨d::ds,bs,k1,by simp[k2],by simp[PV.cvs,k3,g3],λx hx=>?_,λlive hl x hx=>?_,k6⟩
    ·rcases oH.1 hx with rfl | hx
     ·exact g2
     ·exact k4 x hx
    ·rcases oH.1 hx with rfl | hx
     ·exact g1.mono (λ_ _ _=>rfl) λb _ hb=>(hl b hb).1
     ·exact k5 live hl x hx
   simp only[JE]at O;split at O
   ·rename_i k z lo n c;split at O
    ·rename_i t z' es c' hk;cases hd:decide (z=z'/\lo=0)with
     | false=>rw[hd]at O;exact O.elim
     | true =>
       rw[hd]at O;simp at hd;obtain⟨hz,aj⟩:=hd;subst hz;subst aj;obtain⟨⟨rfl,rfl⟩,O⟩:=O;have U:=(hc (.sb k z 0 es.length c) (by simp)).2 k (by simp[PV.refs]);have hr:=h.br k _ hk U;have ac:=h.bo k _ hk U;have ak:=O ((e.at k).map λb=>⟨b,0,none⟩) (λad J d hd hb=>by
        cases I:e.at k with
        | none=>rw[I]at J;cases J
        | some b=>rw[I]at J;cases J;exact(ac d hd).2 b hb (.inr ⟨k,U,I,_,hk,by simp⟩))
       have am:=tI (λad J=>by
        cases I:e.at k with
        | none=>rw[I]at J;cases J
        | some b=>rw[I]at J;cases J;exact .inr ⟨k,U,I,_,hk,by simp⟩) aa ak
       obtain⟨ds,bs,k1,k2,k3,k4,k5,k6⟩:=AF h aa ps _ ab am;refine⟨_,_,k1,by simp[k2],?_,λx hx=>?_,λlive Y x hx=>?_,λb hb=>?_⟩
       ·simp only[oZ,PV.cvs,k3];congr 1;cases I:e.at k<;>simp[PV.cv,D.cv,I]
       ·rcases oH.1 hx with rfl | hx
        ·simp[D.isCell]
        ·exact k4 x hx
       ·rcases oH.1 hx with rfl | hx
        ·have ae:∀ x∈es,Good w live x:=λx hx=>(ac x hx).mono (λ_ _ _=>rfl) (λb _ hb=>(Y b hb).1);rcases hr with⟨g1,g2,g3⟩ | ⟨b,cc,g1,g2,g3,g4,g5,g6,g7⟩
         ·subst g2;subst g3;rw[g1];exact Cn
         ·rw[g1];refine⟨.sl (λ_=>rfl) g4 g6 (λx hx=>(ae x hx).1) (.inr ⟨cc,t,z00,g2,λi u hu=>by simpa using g7 i u hu⟩),λj hj ah=>?_⟩;simp only[oe,D.foot]at hj;split at hj
          ·simp at hj
          ·rcases oH.1 hj with rfl | hj
           ·exact(Y _ ah).2 (by simp[s3,g1])
           ·obtain⟨x,hx,ao⟩:=zQ.1 hj;exact(ae x hx).2 j ao ah
        ·exact k5 live (λb hb=>⟨(Y b hb).1,λhc=>(Y b hb).2 (by rw[show(((e.at k).map λb=>(⟨b,0,none⟩:Addr))::bs)=[((e.at k).map λb=>(⟨b,0,none⟩:Addr))]++bs from rfl,tW];exact nP _ hc)⟩) x hx
       ·rw[show(((e.at k).map λb=>(⟨b,0,none⟩:Addr))::bs)=[((e.at k).map λb=>(⟨b,0,none⟩:Addr))]++bs from rfl,tW]at hb;rcases oM.1 hb with hb | hb
        ·cases I:e.at k with
         | none=>simp[s3,I]at hb
         | some b'=>simp[s3,I]at hb;subst hb;exact⟨k,U,I,_,hk,by simp⟩
        ·exact k6 b hb
    ·exact O.elim
   ·split at O
    ·rename_i d hd;exact ai d hd O
    ·exact O.elim
mutual
theorem Ql (h:Mem av pB w e st.bx) {al:List PV} (ab:∀ p∈al,∃ v,ValOk av w e pB st.bx v p):∀(p:PV) (v:Value) (K:PV->List (Option Addr)->Prop),ValOk av w e pB st.bx v p->L5 st al p K->∃ q bs,K q bs/\ArgOk av pB w e st bs v p q/\BZ pB e st.bx bs
 | .sb k z lo n c,v,K,hv,I=>by
   simp only[L5]at I
   split at I
   ·rename_i t z' es c' hk
    cases hd:decide (z=z'/\lo=0)with
    | false=>rw[hd]at I;exact I.elim
    | true=>
      rw[hd]at I
      simp at hd
      obtain⟨hz,au⟩:=hd
      subst hz;subst au
      obtain⟨⟨rfl,rfl⟩,I⟩:=I
      have ac:=(hv.2.2 k (by simp[PV.refs])).1
      have hr:=h.br k _ hk ac
      have aa:=h.bo k _ hk ac
      have ae:=hv.1.resolve_left (by simp)
      have aw:=I ((e.at k).map λb=>⟨b,0,none⟩) (λad J d hd hb=>by
       cases O:e.at k with
       | none=>rw[O]at J;cases J
       | some b=>
         rw[O]at J;cases J
         exact(aa d hd).2 b hb (.inr ⟨k,ac,O,_,hk,by simp⟩))
      refine⟨_,_,tI (λad J=>?_) ab aw,⟨?_,λlive U=>?_,rfl,λ_=>rfl⟩,λb hb=>?_⟩
      ·cases O:e.at k with
       | none=>rw[O]at J;cases J
       | some b=>
         rw[O]at J;cases J
         exact .inr ⟨k,ac,O,_,hk,by simp⟩
      ·rw[ae]
       cases O:e.at k<;>simp[PV.val,PV.val1,PV.cv,O]
      ·have ak:∀ x∈es,Good w live x:=λx hx=>(aa x hx).mono (λ_ _ _=>rfl) (λb _ hb=>(U b hb).1)
       rcases hr with⟨g1,g2,g3⟩ | ⟨b,cc,g1,g2,g3,g4,g5,g6,g7⟩
       ·subst g2;subst g3
        rw[g1]
        exact Cn
       ·rw[g1]
        refine⟨.sl (λ_=>rfl) g4 g6 (λx hx=>(ak x hx).1) (.inr ⟨cc,t,z00,g2,λi u hu=>by simpa using g7 i u hu⟩),λj hj am=>?_⟩
        simp only[oe,D.foot]at hj
        split at hj
        ·simp at hj
        ·rcases oH.1 hj with rfl | hj
         ·exact(U _ am).2 (by simp[s3,g1])
         ·obtain⟨x,hx,ax⟩:=zQ.1 hj
          exact(ak x hx).2 j ax am
      ·cases O:e.at k with
       | none=>simp[s3,O]at hb
       | some b'=>
         simp[s3,O]at hb;subst hb
         exact⟨k,ac,O,_,hk,by simp⟩
   ·exact I.elim
 | .pb k z i o,v,K,hv,I=>by
   simp only[L5]at I
   split at I
   ·rename_i B hk
    split at I
    ·rename_i z x hd hx
     simp at hd
     obtain⟨rfl,rfl⟩:=hd
     have ac:=(hv.2.2 k (by simp[PV.refs])).1
     have ae:=hv.1.resolve_left (by simp)
     obtain⟨b,c,t,g1,g2,g3,g4,g5,g6⟩:=OL (b:=0) h hk ac hx
     refine⟨_,_,tI (λad J=>by cases J;exact .inr ⟨k,g3⟩) ab (I ⟨b,0,none⟩ (λad J d hd hb=>by cases J;simp at hd;subst hd;exact g4.2 _ hb (.inr ⟨k,g3⟩))),⟨?_,λlive U=>⟨?_,g5,rfl,.inr ⟨c,t,z00,g2,λi u hu=>by simpa using g6 i u hu⟩,λY=>(U _ Y).2 (by simp[s3]),Lives.lt h g3⟩,rfl,λ_=>rfl⟩,λb' hb=>?_⟩
     ·rw[ae];simp[PV.val,PV.val1,PV.cv,g1]
     ·exact g4.mono (λ_ _ _=>rfl) λb _ hb=>(U b hb).1
     ·simp[s3]at hb;subst hb;exact⟨k,g3⟩
    ·exact I.elim
   ·exact I.elim
 | .fn f caps,v,K,hv,I=>by
   simp only[L5]at I
   split at I
   ·rename_i ah
    rw[oa]at ah
    have ae:=hv.1.resolve_left (by simp)
    have aa:=hv.2.1
    simp only[PV.Ok,PV.OkL_iff]at aa
    obtain⟨as,bs,h1,h2,h3,h4⟩:=Ba h ab caps (caps.map (PV.cv e)) _ (by simp) (λi p v hp ai=>by
     rw[oG,hp]at ai
     simp at ai;subst ai
     have hm:=oA hp
     exact⟨.inr (Cq (ah p hm)).symm,aa p hm,λk hk=>hv.2.2 k (by simp only[PV.refs];exact PV.refsL_mem.2 ⟨p,hm,hk⟩)⟩) I
    have ao:PV.cvs [] as=PV.cvs e caps:=by
     rw[PV.cvs_eq,PV.cvs_eq,<-h2]
     refine nH λq hq=>?_
     obtain⟨i,hi⟩:=oQ.1 hq
     obtain⟨p,hp,ho⟩:=h3 i q hi
     exact(Cq (ho.2.2.2 (ah p (oA hp)))).symm
    refine⟨_,_,h1,⟨?_,λlive U=>?_,?_,λ_=>rfl⟩,h4⟩
    ·rw[ae]
     show(PV.fn f as).cv []=(PV.fn f caps).cv e
     simp only[PV.cv,ao]
    ·simp only[PV.Ok,PV.OkL_iff]
     intro q hq
     obtain⟨i,hi⟩:=oQ.1 hq
     obtain⟨p,hp,ho⟩:=h3 i q hi
     exact ho.2.1 live U
    ·simp only[PV.refs]
     refine nl.2 λk hk=>?_
     obtain⟨q,hq,aq⟩:=PV.refsL_mem.1 hk
     obtain⟨i,hi⟩:=oQ.1 hq
     obtain⟨p,hp,ho⟩:=h3 i q hi
     rw[ho.2.2.1]at aq;simp at aq
   ·exact I.elim
 | .any,v,K,hv,I=>by simp[L5,pE]at I
 | .int ..,v,K,hv,I=>by simp[L5,pE]at I;exact⟨_,_,I,⟨(hv.1.resolve_left (by simp)).symm,λ_ _=>trivial,rfl,λ_=>rfl⟩,by simp[BZ,s3]⟩
 | .bool ..,v,K,hv,I=>by simp[L5,pE]at I;exact⟨_,_,I,⟨(hv.1.resolve_left (by simp)).symm,λ_ _=>trivial,rfl,λ_=>rfl⟩,by simp[BZ,s3]⟩
 | .str ..,v,K,hv,I=>by simp[L5,pE]at I;exact⟨_,_,I,⟨(hv.1.resolve_left (by simp)).symm,λ_ _=>trivial,rfl,λ_=>rfl⟩,by simp[BZ,s3]⟩
 | .tp ..,v,K,hv,I=>by simp[L5,pE]at I
 | .d ..,v,K,hv,I=>by simp[L5,pE]at I
 | .lit x,v,K,hv,I=>by
   have I:K (.lit x) []:=by simpa [L5,pE]using I
   obtain⟨g1,g2,g3⟩:=vB hv (q:=.lit x) rfl
   exact⟨_,_,I,⟨g1.symm,λlive Y=>g2 live λb hb=>(Y b hb).1,g3,λ_=>rfl⟩,by simp[BZ,s3]⟩
 | .sv a z es c,v,K,hv,I=>by
   have I:K (.sv a z es c) []:=by simpa [L5,pE]using I
   obtain⟨g1,g2,g3⟩:=vB hv (q:=.sv a z es c) rfl
   exact⟨_,_,I,⟨g1.symm,λlive Y=>g2 live λb hb=>(Y b hb).1,g3,λ_=>rfl⟩,by simp[BZ,s3]⟩
 | .dg n x,v,K,hv,I=>by
   have I:K (.dg n x) []:=by simpa [L5,pE]using I
   obtain⟨g1,g2,g3⟩:=vB hv (q:=.dg n x) rfl
   exact⟨_,_,I,⟨g1.symm,λlive Y=>g2 live λb hb=>(Y b hb).1,g3,id⟩,by simp[BZ,s3]⟩
 | .dc x,v,K,hv,I=>by
   have I:K (.dc x) []:=by simpa [L5,pE]using I
   obtain⟨g1,g2,g3⟩:=vB hv (q:=.dc x) rfl
   exact⟨_,_,I,⟨g1.symm,λlive Y=>g2 live λb hb=>(Y b hb).1,g3,λ_=>rfl⟩,by simp[BZ,s3]⟩
 | .pd ad z x,v,K,hv,I=>by
   have I:K (.pd ad z x) []:=by simpa [L5,pE]using I
   obtain⟨g1,g2,g3⟩:=vB hv (q:=.pd ad z x) rfl
   exact⟨_,_,I,⟨g1.symm,λlive Y=>g2 live λb hb=>(Y b hb).1,g3,λ_=>rfl⟩,by simp[BZ,s3]⟩
 | .pg cs,v,K,hv,I=>by
   simp only[L5]at I
   have ae:=hv.1.resolve_left (by simp)
   have aa:=hv.2.1
   simp only[PV.Ok]at aa
   obtain⟨aj,a3⟩:=aa
   rw[PV.OkL_iff]at aj
   cases hn:K5 cs with
   | some ds=>
     rw[hn]at I
     obtain⟨g1,g2,g3⟩:=vB hv (q:=.dg cs.length (.ag ds)) (by simp[pE,hn])
     exact⟨_,_,I,⟨g1.symm,λlive Y=>g2 live λb hb=>(Y b hb).1,g3,λhc=>by simp[PV.isCap]at hc⟩,by simp[BZ,s3]⟩
   | none=>
     rw[hn]at I
     obtain⟨ds,bs,k1,k2,k3,k4,k5,k6⟩:=AF h ab cs _ (λp hp=>⟨aj p hp,λk hk=>(hv.2.2 k (by simp only[PV.refs];exact PV.refsL_mem.2 ⟨p,hp,hk⟩)).1⟩) I
     refine⟨_,_,k1,⟨?_,λlive U=>⟨⟨.ag λx hx=>(k5 live U x hx).1,λb hb Y=>?_⟩,ds,rfl,k2,k4⟩,rfl,λhc=>by simp[PV.isCap]at hc⟩,k6⟩
     ·rw[ae]
      simp only[PV.val,PV.val1,D.val,k3]
     ·simp only[D.foot]at hb
      obtain⟨x,hx,ay⟩:=zQ.1 hb
      exact(k5 live U x hx).2 b ay Y
theorem Ba (h:Mem av pB w e st.bx) {al:List PV} (ab:∀ p∈al,∃ v,ValOk av w e pB st.bx v p):∀(ps:List PV) (vs:List Value) (K:List PV->List (Option Addr)->Prop),ps.length=vs.length->(∀(i:Nat) (p:PV) (v:Value),ps[i]?=some p->vs[i]?=some v->ValOk av w e pB st.bx v p)->Rv st al ps K ->
  ∃ as bs,K as bs/\as.map (PV.val [])=vs/\(∀(i:Nat) (q:PV),as[i]?=some q->∃ p,ps[i]?=some p/\ArgOk av pB w e st bs (q.val []) p q)/\BZ pB e st.bx bs
 | [],vs,K,Y,_,I=>by
   cases vs with
   | nil=>exact⟨[],[],I,rfl,by simp,by simp[BZ,s3]⟩
   | cons=>simp at Y
 | p :: ps,vs,K,Y,hv,I=>by
   cases vs with
   | nil=>simp at Y
   | cons v vs=>
     simp only[Rv]at I
     obtain⟨q,b1,h1,h2,az⟩:=Ql h ab p v _ (hv 0 p v rfl rfl) I
     obtain⟨qs,b2,h3,h4,h5,a0⟩:=Ba h ab ps vs _ (by simpa using Y) (λi p v hp ai=>hv (i+1) p v (by simpa using hp) (by simpa using ai)) h1
     refine⟨q::qs,b1++b2,h3,by simp[h2.1,h4],λi r hr=>?_,λb hb=>?_⟩
     ·cases i with
      | zero=>
        simp at hr;subst hr
        refine⟨p,rfl,?_⟩
        have:=h2.mono (bs':=b1++b2) λb hb=>by rw[tW];exact ol _ hb
        exact⟨rfl,this.2⟩
      | succ i=>
        obtain⟨p',a2,ho⟩:=h5 i r (by simpa using hr)
        exact⟨p',by simpa using a2,ho.mono λb hb=>by rw[tW];exact nP _ hb⟩
     ·rw[tW]at hb
      rcases oM.1 hb with hb | hb
      ·exact az b hb
      ·exact a0 b hb
end
theorem D1 {p:PV}{f:FuncId}{caps:List PV}{bx:List Bx}{v:Value}(hv:ValOk av w e pB bx v p)(h:XV p=some (f,caps)):ValOk av w e pB bx v (.fn f caps):=by
 unfold XV at h;split at h
 ·cases h;exact hv
 ·rename_i g ds;cases h;exact I3 hv
 ·cases h
theorem P2 {bs:List (Option Addr)}{d:D}(h:Off bs d):∀ b∈s3 bs,b∉d.foot:=by
 intro b J;simp only[s3,mC]at J;obtain⟨x,hx,I⟩:=J;cases x with
 | none=>simp at I
 | some ad=>simp at I;subst I;exact h _ hx ad rfl
def PV.offB (b:Nat):PV->Prop
 | .sv a z es c=>b∉(D.sl a z es c).foot
 | .dg _ x=>b∉x.foot
 | .dc x=>b∉x.foot
 | _=>True
theorem JM {bs:List (Option Addr)}:∀ {ps:List PV}{K:Prop},We bs ps K->K/\∀ b∈s3 bs,∀ p∈ps,p.offB b
 | [],K,h=>⟨h,by simp⟩
 | p::ps,K,h=>by
   have step:(∀ b∈s3 bs,p.offB b)->We bs ps K->K/\∀ b∈s3 bs,∀ q∈p::ps,q.offB b:=λJ O=>by
    obtain⟨U,Y⟩:=JM O;refine⟨U,λb I q hq=>?_⟩;rcases oH.1 hq with rfl | hq
    ·exact J b I
    ·exact Y b I q hq
   cases p<;>simp only[We]at h
   case sv=>exact step (P2 h.1) h.2
   case dg=>exact step (P2 h.1) h.2
   case dc=>exact step (P2 h.1) h.2
   all_goals exact step (λ_ _=>trivial) h
theorem JN {bs:List (Option Addr)}:∀ {rows:List Bx}{K:Prop},Zv bs rows K->K/\∀ b∈s3 bs,∀ B∈rows,B.offB b
 | [],K,h=>⟨h,by simp⟩
 | B::rows,K,h=>by
   cases B<;>simp only[Zv]at h
   obtain⟨J,O⟩:=JN h.2;refine⟨J,λb I B hB=>?_⟩;rcases oH.1 hB with rfl | hB
   ·have:=P2 h.1 b I
    simpa [D.foot,Bx.offB]using this
   ·exact O b I B hB
theorem RM {bs:List (Option Addr)}{ps:List PV}{rows:List Bx}{K:Prop}(h:zAj bs ps rows K):K/\∀ b∈s3 bs,(∀ p∈ps,p.offB b)/\∀ B∈rows,B.offB b:=by
 cases bs with
 | nil=>exact⟨h,by simp[s3]⟩
 | cons b bs=>simp only[zAj]at h;obtain⟨J,O⟩:=JM h;obtain⟨U,Y⟩:=JN J;exact⟨U,λb I=>⟨O b I,Y b I⟩⟩
theorem uL {N:Nat}:∀ {ps:List PV}{K:Prop},(∀ p∈ps,match p with | .sv a z es c=>Bel N (.sl a z es c) | .dg _ x=>Bel N x | _=>True)->Ui N ps K->K
 | [],K,_,h=>h
 | p::ps,K,O,h=>by
   have J:=O p (by simp);have I:=λq U=>O q (nz _ U);cases p<;>simp only[Ui]at h J
   case sv=>exact uL I (h J)
   case dg=>exact uL I (h J)
   all_goals exact uL I h
theorem Ab {N:Nat}:∀ {rows:List Bx}{K:Prop},(∀ t z es c,Bx.arr t z es c∈rows->Bel N (.ag es))->YL N rows K->K
 | [],K,_,h=>h
 | B::rows,K,J,h=>by
   have I:=λt z es c O=>J t z es c (nz _ O);cases B<;>simp only[YL]at h
   case arr t z es c=>exact Ab I (h (J t z es c (by simp)))
   all_goals exact Ab I h
theorem M5 {f:FuncId}(h:wS P f=true)(args:Array Value)(w:World):(callFunc f args).run P w=.ok (.enter f args) w:=by
 unfold wS at h;cases I:P.funcs[f]? with
 | none=>simp[I]at h
 | some fn=>
   simp only[I,oE,bne_iff_ne,ne_eq]at h;obtain⟨O,U⟩:=h;cases J:fn.body with
   | none=>simp[J]at U
   | some c=>simp[callFunc,I,O,J]
theorem PV.shift_val1 {d:Nat}{e e':Env}(I:∀ k,Env.at (e++e') (d+k)=e'.at k){p:PV}(J:p.plainR=true):(p.shift d).val1 (e++e')=p.val1 e':=by cases p<;>simp[PV.plainR]at J<;>simp[PV.shift,PV.val1,PV.cv,I]
theorem PV.shift_cv {d:Nat}{e e':Env}(I:∀ k,Env.at (e++e') (d+k)=e'.at k){p:PV}(J:p.plainR=true):(p.shift d).cv (e++e')=p.cv e':=by cases p<;>simp[PV.plainR]at J<;>simp[PV.shift,PV.cv,I]
theorem RU {d:Nat}{e e':Env}(I:∀ k,Env.at (e++e') (d+k)=e'.at k){ps:List PV}(J:∀ p∈ps,p.plainR=true){pk:Bool}:(IL pk (ps.map (PV.shift d))).val (e++e')=Oq pk e' ps:=by
 cases pk with
 | true=>simp only[IL,Oq,PV.val,PV.val1,PV.cvs_eq,mf];congr 2;exact nH λp h=>PV.shift_cv I (J p h)
 | false=>
 have key:∀ p∈ps,(p.shift d).val1 (e++e')=p.val1 e':=λp h=>PV.shift_val1 I (J p h);have one:∀ p,p∈ps->(p.shift d).val (e++e')=p.val1 e':=λp h=>by
  rw[<-key p h]
  have:=J p h
  cases p<;>simp[PV.plainR]at this<;>rfl
 rcases ps with _ | ⟨p,_ | ⟨q,ps⟩⟩
 ·rfl
 ·exact one p (by simp)
 ·simp only[oZ,IL,NT,PV.val,Oq,Or];rw[key p (by simp),key q (by simp),mf];congr 4;exact nH λr hr=>key r (by simp[hr])
theorem JZ {d:Nat}{p:PV}(I:p.plainR=true):∀ k∈(p.shift d).refs,∃ j∈p.refs,k=d+j:=by cases p<;>simp[PV.plainR]at I<;>simp[PV.shift,PV.refs]
theorem NU {pk:Bool}{ps:List PV}:∀ k∈(IL pk ps).refs,∃ p∈ps,k∈p.refs:=by
 intro k hk;cases pk with
 | true=>simp only[IL,PV.refs]at hk;exact PV.refsL_mem.1 hk
 | false=>
 rcases ps with _ | ⟨p,_ | ⟨q,ps⟩⟩
 ·simp[IL,NT,PV.refs,PV.refsL]at hk
 ·exact⟨p,by simp,hk⟩
 ·simp only[IL,NT,PV.refs]at hk;exact PV.refsL_mem.1 hk
theorem UE {live:Nat->Prop}{pk:Bool}{ps:List PV}(h:∀ p∈ps,p.Ok w live)(hc:pk=true->∀ p∈ps,p.isC):(IL pk ps).Ok w live:=by
 cases pk with
 | true=>simp only[IL,PV.Ok];exact⟨PV.OkL_iff.2 h,hc rfl⟩
 | false=>
 rcases ps with _ | ⟨p,_ | ⟨q,ps⟩⟩
 ·simp[IL,NT,PV.Ok,PV.OkL]
 ·exact h p (by simp)
 ·simp only[IL,NT,PV.Ok];exact PV.OkL_iff.2 h
theorem M9 {d:Nat}{p:PV}(h:p.isC):(p.shift d).isC:=by cases p<;>exact h
theorem QT.app_pk {l:List Sh}{Q:QT l}{b:Nat}{ps:List PV}{rows:List Bx}{N:Nat}(hk:D3 l=true)(h:QT.app l Q b ps rows N):∀ p∈ps,p.isC:=by
 cases l with
 | nil=>simp[D3]at hk
 | cons s l=>cases s<;>simp[D3]at hk;exact QT.app_cells l Q b ps rows N h.1 h.2
theorem Rx {N:Nat}{bs:List (Option Addr)}{K:Prop}(h:zAF N bs K)(I:wm N bs):K:=by
 unfold zAF at h;split at h
 ·exact h
 ·exact h I
def BkR (as J:List PV)(p q:PV):Prop:=q=p\/∃(j:Nat) (a:Option Addr) (z:Nat) (es:List D) (c k z' lo n I:Nat),p=PV.dc (.sl a z es c)/\as[j]?=some (PV.sv a z es c)/\J[j]?=some (PV.sb k z' lo n I)/\q=PV.sb k z' lo n I
theorem GF {as J:List PV}:∀(l:List Sh)(ps:List PV)(K:List PV->Prop),bkP as J l ps K->∃ qs:List PV,K qs/\qs.length=ps.length/\∀(i:Nat)(q:PV),qs[i]?=some q->∃ p:PV,ps[i]?=some p/\BkR as J p q
 | [],ps,K,h=>⟨ps,h,rfl,λi q Y=>⟨q,Y,.inl rfl⟩⟩
 | s :: l,ps,K,h=>by
   have I:∀(p q:PV) (ps:List PV),BkR as J p q->bkP as J l ps (λqs=>K (q::qs)) ->
     ∃ qs:List PV,K qs/\qs.length=(p::ps).length/\∀(i:Nat) (q:PV),qs[i]?=some q->∃ U:PV,(p::ps)[i]?=some U/\BkR as J U q:=λp q ps O hb=>by
    obtain⟨qs,g1,g2,g3⟩:=GF l ps _ hb;refine⟨q::qs,g1,by simp[g2],λi r hr=>?_⟩;cases i with
    | zero=>simp at hr;subst hr;exact⟨p,rfl,O⟩
    | succ i=>exact g3 i r (by simpa using hr)
   have nil:K []->∃ qs:List PV,K qs/\qs.length=([]:List PV).length/\∀(i:Nat) (q:PV),qs[i]?=some q->∃ p:PV,([]:List PV)[i]?=some p/\BkR as J p q:=λh=>⟨[],h,rfl,by simp⟩
   cases s with
   | pk=>exact GF l ps K h
   | bk j=>
     cases ps with
     | nil=>exact nil h
     | cons p ps=>
       simp only[bkP]at h;split at h
       ·rename_i x a z es c k z' lo n c' h1 h2;exact I _ _ ps (.inr ⟨j,a,z,es,c,k,z',lo,n,c',by rw[h.1],h1,h2,rfl⟩) h.2
       ·exact I _ _ ps (.inl rfl) h
   | _=>
     cases ps with
     | nil=>exact nil h
     | cons p ps=>exact I p p ps (.inl rfl) h
theorem V5 {E:Env}{pk:Bool}{ps qs:List PV}(U:qs.length=ps.length)(h:∀(i:Nat)(q p:PV),qs[i]?=some q->ps[i]?=some p->q.cv E=p.cv E/\q.val1 E=p.val1 E/\q.val E=p.val E):(IL pk qs).val E=(IL pk ps).val E:=by
 have O:∀(F:PV->Value),(∀(i:Nat) (q p:PV),qs[i]?=some q->ps[i]?=some p->F q=F p)->qs.map F=ps.map F:=λF Y=>by
  apply nK;intro i;rw[oG,oG];by_cases hi:i<ps.length
  ·rw[oF hi,oF (by omega:i<qs.length)];simp only[oe,nL];exact Y i _ _ (oF _) (oF _)
  ·rw[oY (by omega),oY (by omega)]
 cases pk with
 | true=>simp only[IL,PV.val,PV.val1,PV.cvs_eq];rw[O _ λi q p I J=>(h i q p I J).1]
 | false=>
   have h1:=O _ λi q p I J=>(h i q p I J).2.1;rcases ps with _ | ⟨p,_ | ⟨p2,ps⟩⟩<;>rcases qs with _ | ⟨q,_ | ⟨q2,qs⟩⟩<;>simp at U
   ·rfl
   ·exact(h 0 q p rfl rfl).2.2
   ·simp only[IL,NT,PV.val];rw[h1]
theorem OJ (h:Rel av w0 e0 pS pB a w e st) (au:∀ k∈pB,k<st.bx.length) {sh:FuncId->List Sh} {o:Oper} {c:Call} {x:Operand} {args:List PV} {K:St->Prop} (ho:o.op=.call c) (hc:c.callee=.value x)
  (hx:∀ t,x=.tmp t->t∉pS) (ha:args.length=c.args.size) (bp:∀(i:Nat) (p:PV) (y:Operand),args[i]?=some p->c.args[i]?=some y->ValOk av w e pB st.bx (a.eval y) p)
  (bq:∀ i,i∈pS->some i≠o.dst->i∈pS') (hs:XH P sh st o.dst x args K) {next:Act->World->Prop} {Q:Exit->Act->World->Prop}
  (hn:∀ v w' e' st',K st'->(∃ rows p N,st'=St.put { st with bx:=st.bx++rows,N:=N } o.dst p)->Rel av w0 e0 pS' pB (a.put o.dst v) w' e' st'->next (a.put o.dst v) w'):o.wp P a w next Q:=by
 have ox:=vu h hx;unfold XH at hs;split at hs
 rotate_left
 ·exact hs.elim
 rename_i f caps hf;split at hs
 rotate_left
 ·exact hs.elim
 rename_i Y;rw[oa]at Y;have ox:=D1 ox.valOk hf;have bt:=ox.1.resolve_left (by simp);have bv:a.eval x=.func (.func f) #[] (PV.cvs e caps).toArray:=bt;have al:PV.OkL w (zg av pB e st.bx) caps:=by have:=ox.2.1;simpa only[PV.Ok]using this
 rw[PV.OkL_iff]at al;have az:∀ p∈caps,∀ k∈p.refs,k∉pB/\k<st.bx.length:=λp U k hk=>ox.2.2 k (by simp only[PV.refs];exact PV.refsL_mem.2 ⟨p,U,hk⟩);have ae:∀(i:Nat) (p:PV) (v:Value),(args++caps)[i]?=some p->(c.args.toList.map a.eval++caps.map (PV.cv e))[i]?=some v->ValOk av w e pB st.bx v p:=by
  intro i p v h1 h2;by_cases hi:i<args.length
  ·rw[oO hi]at h1;have a2:i<c.args.toList.length:=by simp;omega
   rw[oO (by simpa using a2),oG,oF a2]at h2;simp at h2;subst h2;exact bp i p _ h1 (by rw[o9 (by omega)])
  ·rw[oS (by omega)]at h1;rw[oS (by simp;omega),oG]at h2;have a3:i - (c.args.toList.map a.eval).length=i - args.length:=by simp;omega
   rw[a3,h1]at h2;simp at h2;subst h2;have hm:=oA h1;exact⟨.inr (Cq (Y p hm)).symm,al p hm,az p hm⟩
 have a4:(args++caps).length=(c.args.toList.map a.eval++caps.map (PV.cv e)).length:=by simp;omega
 have ai:∀ p∈args++caps,∃ v,ValOk av w e pB st.bx v p:=λp U=>by obtain⟨i,hi⟩:=oQ.1 U;have ah:=(oC.1 hi).1;exact⟨_,ae i p _ hi (oF (by rw[<-a4];exact ah))⟩
 have a5:=ai;obtain⟨as,bs,hK,has,hq,ab⟩:=Ba h.toMem ai (args++caps) (c.args.toList.map a.eval++caps.map (PV.cv e)) _ (by simp;omega) ae hs;obtain⟨bw,hA⟩:=Rx (hK w.heap.size h.hN) λb J ad bz=>by obtain⟨k,hk⟩:=ab ad.block (by simp only[s3,mC];exact⟨b,J,by simp[bz]⟩);exact Lives.lt h.toMem hk
 have ah:∀ b,zg av pB e st.bx b->b<w.heap.size:=λb J=>J.elim (λJ=>by have:=h.avl.lt b J;have:=h.size;omega) λ⟨k,hk⟩=>Lives.lt h.toMem hk;have hC:=hA (λb=>zg av pB e st.bx b/\b∉s3 bs) w rfl ⟨λb J=>ah b J.1,h.glob,λb J=>⟨.inl (h.avl.ga b J),λhc=>by obtain⟨k,hk⟩:=ab b hc;exact h.avn k b hk (h.avl.ga b J)⟩,λb J=>by simp,λx hx=>by simp⟩ λp U=>by obtain⟨i,hi⟩:=oQ.1 U;obtain⟨p',_,ho⟩:=hq i p hi;exact⟨ho.2.1 _ λb J=>J,ho.2.2.1⟩
 have a6:(execOp a.eval o).run P w=.ok (.enter f (as.map (PV.val [])).toArray) w:=by
  have e1:(as.map (PV.val [])).toArray=c.args.map a.eval++(PV.cvs e caps).toArray:=by rw[has,PV.cvs_eq];apply np.1;simp
  rw[e1];obtain⟨dst,op,ty,pos,after,guard⟩:=o;simp only at ho;subst ho;simp only[execOp,resolve,hc,Deferred.ofValue,bv,invoke];simp[M5 bw]
 unfold Oper.wp;rw[a6,Oper.upon_enter];refine hC.mono λen w' aw=>?_;cases en with
 | panicked=>exact aw.elim
 | outgrown=>exact aw.elim
 | returned v=>
   obtain⟨ps,rows,e',hd⟩:=aw;have a7:=QT.app_lam (sh f) st.bx.length 0 _ ps rows _ hd.q;have I:=QT.app_plain _ _ _ _ _ _ hd.q;obtain⟨a8,a9⟩:=QT.app_rows _ _ _ _ _ _ hd.q;obtain⟨qs,b1,b2,ba⟩:=GF _ _ _ (a7 hd.size);obtain⟨hB,am⟩:=RM b1;have ch:∀(P:PV->Prop),(∀ p∈ps,P (p.shift st.bx.length))->∀ q∈ps.map (PV.shift st.bx.length),P q:=λP hP q hq=>by obtain⟨p,U,rfl⟩:=oT.1 hq;exact hP p U
   have aj:∀ q∈qs,(∃ p∈ps,q=p.shift st.bx.length)\/∃ k z' lo n c',q=.sb k z' lo n c'/\k∉pB/\k<st.bx.length:=λq hq=>by
    obtain⟨i,hi⟩:=oQ.1 hq;obtain⟨p',b6,h2⟩:=ba i q hi;rcases h2 with rfl | ⟨j,a,z,es,c,k,z',lo,n,c',_,_,ai,rfl⟩
    ·obtain⟨p,U,rfl⟩:=oT.1 (oA b6);exact .inl ⟨p,U,rfl⟩
    ·obtain⟨v,hv⟩:=a5 _ (oA ai);exact .inr ⟨k,z',lo,n,c',rfl,hv.2.2 k (by simp[PV.refs])⟩
   have ab:=uL (N:=w'.heap.size) (λq hq=>by
    rcases aj q hq with⟨p,U,rfl⟩ | ⟨k,z',lo,n,c',rfl,_⟩
    ·have au:=I p U;have O:=hd.ok p U;cases p<;>simp only[PV.shift]<;>simp only[PV.Ok]at O
     ·exact O.1.lt
     ·exact O.1.1.lt
    ·trivial) hB
   have ax:=Ab (N:=w'.heap.size) (λt z es cc hm b J=>by
    obtain⟨i,hi⟩:=oQ.1 hm
    have:=hd.m.bo i _ hi (by simp)
    simp only[D.foot]at J;obtain⟨y,hy,b7⟩:=zQ.1 J;exact(this y hy).1.lt b b7) ab
   have bb:∀ b,zg av pB e st.bx b->(zg av pB e st.bx b/\b∉s3 bs)\/b∈s3 bs:=λb J=>by
    by_cases bc:b∈s3 bs
    ·exact .inr bc
    ·exact .inl ⟨J,bc⟩
   obtain⟨hR,aa⟩:=Xu h au bb hd.size hd.old hd.m a8 hd.fresh (λb J=>(am b J).2) hd.fz hd.ku;have bg:∀ k,Env.at (e++e') (st.bx.length+k)=e'.at k:=λk=>by rw[Env.at_app,if_neg (by rw[h.el];omega)];congr 1;rw[h.el];omega
   refine hn v w' (e++e') _ ax ⟨rows,_,_,rfl⟩ (vC hR ⟨.inr ?_,?_,?_⟩ bq)
   ·rw[hd.v,<-RU bg I];refine(V5 b2 λi q p' b9 ca=>?_).symm;obtain⟨ci,ao,h2⟩:=ba i q b9;rw[ca]at ao;cases ao;rcases h2 with rfl | ⟨j,a0,z,es,c0,k,z',lo,n,c',rfl,bh,aq,rfl⟩
    ·exact⟨rfl,rfl,rfl⟩
    ·have ak:∃ vj,(c.args.toList.map a.eval++caps.map (PV.cv e))[j]?=some vj:=⟨_,oF (by rw[<-a4];exact(oC.1 aq).1)⟩
     obtain⟨vj,ak⟩:=ak;have bi:=ae j _ _ aq ak;have cd:vj=(PV.sv a0 z es c0).val []:=by have h5:=lY (λl=>l[j]?) has;simp only[oG,bh,oe]at h5;rw[ak]at h5;exact(oU h5).symm
     have ah:=(bi.2.2 k (by simp[PV.refs])).2;have bj:Env.at (e++e') k=e.at k:=by rw[Env.at_app,if_pos (by rw[h.el];exact ah)]
     have ce:=bi.1.resolve_left (by simp);have e2:(PV.sb k z' lo n c').cv (e++e')=(PV.sb k z' lo n c').cv e:=by simp only[PV.cv,bj]
     have e3:(PV.sb k z' lo n c').cv e=(D.sl a0 z es c0).cv:=by
      have h6:(PV.sb k z' lo n c').val e=(PV.sv a0 z es c0).val []:=by rw[<-ce,cd]
      exact h6
     exact⟨e2.trans e3,e2.trans e3,e2.trans e3⟩
   ·refine UE (λq hq=>?_) (λcf q hq=>?_)
    ·rcases aj q hq with⟨p,U,rfl⟩ | ⟨k,z',lo,n,c',rfl,_⟩
     ·have bm:=I p U;have O:=hd.ok p U;have ac:∀ b∈s3 bs,(p.shift st.bx.length).offB b:=λb J=>(am b J).1 _ hq;cases p<;>simp[PV.plainR]at bm<;>simp only[PV.shift,PV.Ok,PV.offB]at O ac ⊢
      ·exact aa _ O ac
      ·exact⟨aa _ O.1 ac,O.2⟩
      ·exact⟨aa _ O.1 ac,O.2⟩
     ·trivial
    ·rcases aj q hq with⟨p,U,rfl⟩ | ⟨k,z',lo,n,c',rfl,_⟩
     ·exact M9 (QT.app_pk cf hd.q p U)
     ·trivial
   ·intro k hk;obtain⟨q,cg,ay⟩:=NU k hk;rcases aj q cg with⟨p,U,rfl⟩ | ⟨k',z',lo,n,c',rfl,h1,h2⟩
    ·obtain⟨j,hj,rfl⟩:=JZ (I p U) k ay;have cj:=(a9 p U).2.2 j hj;refine⟨λhc=>by have:=au _ hc;omega,by simp;omega⟩
    ·simp[PV.refs]at ay;subst ay;exact⟨h1,by simp;omega⟩
variable {av:Nat->Prop} {P:Program} {w0 w w':World} {e0 e:Env} {pS pS' pB pB':List Nat} {a:Act} {st st':St}
def Dt:PV->Option Sh
 | .int k _=>some (.int k)
 | .bool _=>some .bool
 | .str _=>some .str
 | .sv _ z _ _=>some (.sl z)
 | _=>none
def YE:List PV->List Sh
 | []=>[]
 | p::ps=>match Dt p with
   | some s=>s::YE ps
   | none=>YE ps
def UQ:List PV->List PV
 | []=>[]
 | p::ps=>match Dt p with
   | some _=>p::UQ ps
   | none=>UQ ps
def YD:Bx->List Sh
 | .var cs=>YE cs
 | .vd _ n=>[.ag n]
 | .arr _ z _ _=>[.sl z]
 | .gone=>[]
def Rj:Bx->List PV
 | .var cs=>UQ cs
 | .vd x n=>[.dg n x]
 | .arr _ z es c=>[.sv none z es c]
 | .gone=>[]
def Rf (bx:List Bx):List Sh:=bx.flatMap YD
def Hr (bx:List Bx):List PV:=bx.flatMap Rj
def PF:List PV->List PV->List PV × List PV
 | [],es=>([],es)
 | p :: ps,es=>match Dt p with
   | some _=>match es with
     | q::es=>(q::(PF ps es).1,(PF ps es).2)
     | []=>([],[])
   | none=>(p::(PF ps es).1,(PF ps es).2)
def Qa:Bx->List PV->Bx × List PV
 | .var cs,es=>(.var (PF cs es).1,(PF cs es).2)
 | .vd y n,es=>match es with
   | .dg _ x::es=>(.vd x n,es)
   | _=>(.vd y n,[])
 | .arr t z y n,es=>match es with
   | .sv _ _ ds c::es=>(.arr t z ds c,es)
   | _=>(.arr t z y n,[])
 | .gone,es=>(.gone,es)
def RY:List Bx->List PV->List Bx
 | [],_=>[]
 | B::bs,es=>(Qa B es).1::RY bs (Qa B es).2
def Y9 (bs:List Bx):PV->PV
 | .sb k z lo n c=>match bs[k]? with
   | some (.arr _ _ es I)=>.sb k z lo es.length I
   | _=>.any
 | p=>p
def Y8 (bs:List Bx):Bx->Bx
 | .var cs=>.var (cs.map (Y9 bs))
 | B=>B
def Lw (bx:List Bx)(es:List PV):List Bx:=(RY bx es).map (Y8 (RY bx es))
def YK (N:Nat)(p:PV):Prop:=match p with | .sv a z es c=>Bel N (.sl a z es c) | .dg _ x=>Bel N x | _=>True
theorem Ry {live:Nat->Prop}{p:PV}(h:p.Ok w live):YK w.heap.size p:=by
 cases p<;>simp only[PV.Ok]at h<;>simp only[YK]
 ·exact h.1.lt
 ·exact h.1.1.lt
theorem Lr:∀ {cs:List PV}{p:PV},p∈UQ cs->p∈cs
 | q::cs,p,h=>by
   simp only[UQ]at h;split at h
   ·rcases oH.1 h with rfl | h
    ·simp
    ·simp[Lr h]
   ·simp[Lr h]
theorem WB {live:Nat->Prop}{B:Bx}(h:B.Ok w live):∀ p∈Rj B,YK w.heap.size p:=by
 intro p I;cases B with
 | var cs=>simp only[Rj]at I;exact Ry (PV.OkL_iff.1 h.1 p (Lr I))
 | vd x n=>simp[Rj]at I;subst I;exact Good.lt h
 | arr t z es c=>simp[Rj]at I;subst I;intro b O;simp only[D.foot]at O;obtain⟨y,U,J⟩:=zQ.1 O;exact(h y U).1.lt b J
 | gone=>simp[Rj]at I
theorem Qd {pB:List Nat}{bx:List Bx}(h:Mem av pB w e bx)(J:pB=[]){bs:List Bx}(hs:∀ B∈bs,B∈bx):∀ p∈Hr bs,YK w.heap.size p:=by intro p I;simp only[Hr,mL]at I;obtain⟨B,O,I⟩:=I;obtain⟨k,hk⟩:=oQ.1 (hs B O);exact WB (h.bo k B hk (by simp[J])) p I
def Tf (full:List Sh)(U:List Bx)(e:Env)(ps:List PV):Value:=match full with
 | .bk j::_=>match U[j]? with
   | some (.arr _ z es c)=>(PV.sb j z 0 es.length c).cv e
   | _=>undef
 | _=>Oq (D3 full) e ps
theorem HB {full:List Sh}{U:List Bx}{e:Env}{ps:List PV}(h:∀ j l,full≠.bk j::l):Tf full U e ps=Oq (D3 full) e ps:=by
 unfold Tf;split
 ·exact absurd rfl (h _ _)
 ·rfl
structure DoneB (full:List Sh) (Q:QT full) (av:Nat->Prop) (w0:World) (E:Env) (bx:List Bx) (v:Value) (w:World) (ps es:List PV) (rows:List Bx) (e:Env):Prop where
 q:QT.app full Q bx.length (ps++es) rows w.heap.size
 v:v=Tf full (Lw bx es) e ps
 m:Mem av [] w e (Lw bx es++rows)
 ok:∀ p∈ps,p.Ok w (zg av [] e (Lw bx es++rows))
 fix:∀(k:Nat) (B:Bx),bx[k]?=some B->B.isArr=false->e.at k=some ((E.at k).getD 0)
 fresh:∀(k b:Nat),e.at k=some b->w0.heap.size<=b\/(k<bx.length/\some b∈E)
 size:w0.heap.size<=w.heap.size
 old:∀ b,b<w0.heap.size->some b∉E->w.heap[b]?=w0.heap[b]?
 fz:∀(b:Nat) (c:Array Value) (t:TypeId) (z:Nat × Nat),(w0.heap.size<=b\/some b∈E)->w.heap[b]?=some (.cells c t z)->Fz z
 ku:KU w0 w
 ns:∀ p∈es,p.refs=[]
 be:∀ p∈es,YK w.heap.size p
def Zs (full:List Sh)(Q:QT full)(I:Nat)(av:Nat->Prop)(w0:World)(E:Env)(bx:List Bx):Ending->World->Prop
 | .returned v,w=>∃ ps es rows e,ps.length=I/\DoneB full Q av w0 E bx v w ps es rows e
 | _,_=>False
def zBJ (P:Program)(f:FuncId):Nat:=match P.funcs[f]? with
 | some fn=>fn.resultTypes.size
 | none=>0
def IJ (P:Program)(f:FuncId)(full:List Sh)(bx:List Bx):Nat:=match D3 full with
 | true=>full.length - 1 - (Rf bx).length
 | false=>zBJ P f
def Yr:PV->PV
 | .int k _=>.int k 0
 | .bool _=>.bool false
 | .str _=>.str ⟨#[]⟩
 | .sv _ z _ _=>.sv none z [] 0
 | .sb k z lo _ _=>.sb k z lo 0 0
 | p=>p
def xl:Bx->Bx
 | .var cs=>.var (cs.map Yr)
 | .vd _ n=>.vd default n
 | .arr t z _ _=>.arr t z [] 0
 | .gone=>.gone
structure BCalls (P:Program) (f:FuncId) (full:List Sh) (args:List PV) (bx:List Bx) (N:Nat) (Q:QT full):Prop where
 c:wS P f=true
 h : ∀(av:Nat->Prop) (w0:World) (E:Env),w0.heap.size=N->Avl av w0 E->Mem av [] w0 E bx->(∀ k b,Lives [] E bx k b->¬av b) ->
   (∀ p∈args,p.Ok w0 (zg av [] E bx)/\∀ k∈p.refs,k<bx.length)->Calls P f (args.map (PV.val E)).toArray w0 (Zs full Q (IJ P f full (bx.map xl)) av w0 E (bx.map xl))
structure BPick (e ne:Env) (m:Nat) (B B':Bx):Prop where
 h : B'=.gone\/(B'=B/\∀ cs,B≠.var cs)\/∃ cs cs',B=.var cs/\B'=.var cs'/\cs'.length=cs.length/\∀(i:Nat) (q:PV),cs'[i]?=some q->q=.any \/
   ∃ p,cs[i]?=some p/\(p=.any->q=.any)/\p.cv e=q.cv ne/\(∀ w live,p.Ok w live->q.Ok w live)/\(p.isC->q.isC)/\∀ r∈q.refs,r<m
theorem Pv {us:List (Option Nat)} {nb:List Bx} {av':Nat->Prop} {bx:List Bx} (h:Mem av pB w e bx) (ai:∀ b,av' b->zg av pB e bx b) (hl:nb.length=us.length)
  (aj:∀(i j k:Nat),us[i]?=some (some k)->us[j]?=some (some k)->i=j)
  (hB:∀(j:Nat) (B':Bx),nb[j]?=some B'->(us[j]?=some none/\∃ t z,B'=.arr t z [] 0)\/∃ k B,us[j]?=some (some k)/\k∉pB/\bx[k]?=some B/\BPick e (us.map (·.bind e.at)) us.length B B') :
  Mem av' [] w (us.map (·.bind e.at)) nb/\(∀ b,zg av' [] (us.map (·.bind e.at)) nb b->zg av pB e bx b)/\∀ j b,Lives [] (us.map (·.bind e.at)) nb j b->∃ k,us[j]?=some (some k)/\Lives pB e bx k b:=by
 have ab:∀(j:Nat) (u:Option Nat),us[j]?=some u->Env.at (us.map (·.bind e.at)) j=u.bind e.at:=λj u hj=>by simp[Env.at,oB,hj]
 have J:∀ j b,Lives [] (us.map (·.bind e.at)) nb j b->∃ k,us[j]?=some (some k)/\Lives pB e bx k b:=λj b ⟨_,h2,B',h3,h4⟩=>by
  rcases hB j B' h3 with⟨Y,_⟩ | ⟨k,B,Y,h6,h7,h8⟩
  ·rw[ab j _ Y]at h2;cases h2
  ·rw[ab j _ Y]at h2;refine⟨k,Y,h6,h2,B,h7,λhg=>h4 ?_⟩;subst hg;rcases h8.h with h9 | ⟨h9,_⟩ | ⟨cs,_,h9,_⟩
   ·exact h9
   ·exact h9
   ·cases h9
 have aa:∀ b,zg av' [] (us.map (·.bind e.at)) nb b->zg av pB e bx b:=λb hb=>hb.elim (ai b) λ⟨j,hj⟩=>by obtain⟨k,_,h2⟩:=J j b hj;exact .inr ⟨k,h2⟩
 refine⟨{
  el:=by simp[hl]
  br:=λj B' hj _=>?_
  bo:=λj B' hj _=>?_
  bf:=λj B' hj _ i hi=>?_
  inj:=λi j b hi hj=>?_ },aa,J⟩
 ·rcases hB j B' hj with⟨Y,t,z,rfl⟩ | ⟨k,B,Y,h6,h7,h8⟩
  ·rw[ab j _ Y];exact .inl ⟨rfl,rfl,rfl⟩
  ·rw[ab j _ Y];have h9:=h.br k B h7 h6;rcases h8.h with O | ⟨rfl,O⟩ | ⟨cs,cs',rfl,rfl,ac,U⟩
   ·subst O;exact True.intro
   ·refine h9.congr (λ_ _=>rfl) λi hi=>?_;cases B' with
    | var cs=>exact absurd rfl (O cs)
    | _=>simp[Bx.refs]at hi
   ·obtain⟨b,c,t,g1,g2,g3,g4⟩:=h9;refine⟨b,c,t,g1,g2,g3.trans ac.symm,λi q hq=>?_⟩;rcases U i q hq with I | ⟨p,hp,I,ae,_⟩
    ·exact .inl I
    ·rcases g4 i p hp with h15 | h15
     ·exact .inl (I h15)
     ·exact .inr (by rw[<-ae];exact h15)
 ·rcases hB j B' hj with⟨Y,t,z,rfl⟩ | ⟨k,B,Y,h6,h7,h8⟩
  ·intro x hx;simp at hx
  ·have h9:=(h.bo k B h7 h6).mono (w':=w) (live':=zg av' [] (us.map (·.bind e.at)) nb) (λ_ _ _=>rfl) (oD _) λb _=>aa b;rcases h8.h with O | ⟨rfl,_⟩ | ⟨cs,cs',rfl,rfl,ac,U⟩
   ·subst O;exact True.intro
   ·exact h9
   ·obtain⟨g1,g2⟩:=h9;rw[PV.OkL_iff]at g1;refine⟨PV.OkL_iff.2 λq hq=>?_,λq hq=>?_⟩
    ·obtain⟨i,hi⟩:=oQ.1 hq;rcases U i q hi with I | ⟨p,hp,_,_,I,_⟩
     ·subst I;trivial
     ·exact I _ _ (g1 p (oA hp))
    ·obtain⟨i,hi⟩:=oQ.1 hq;rcases U i q hi with I | ⟨p,hp,ae,_,_,I,_⟩
     ·exact .inl I
     ·rcases g2 p (oA hp)with h15 | h15
      ·exact .inl (ae h15)
      ·exact .inr (I h15)
 ·refine⟨by simp,?_⟩;rw[hl];rcases hB j B' hj with⟨Y,t,z,rfl⟩ | ⟨k,B,Y,h6,h7,h8⟩
  ·simp[Bx.refs]at hi
  ·rcases h8.h with O | ⟨rfl,O⟩ | ⟨cs,cs',rfl,rfl,ac,U⟩
   ·subst O;simp[Bx.refs]at hi
   ·cases B' with
    | var cs=>exact absurd rfl (O cs)
    | _=>simp[Bx.refs]at hi
   ·simp only[Bx.refs]at hi;obtain⟨q,hq,ah⟩:=PV.refsL_mem.1 hi;obtain⟨n,hn⟩:=oQ.1 hq;rcases U n q hn with I | ⟨p,hp,_,_,_,_,I⟩
    ·subst I;simp[PV.refs]at ah
    ·simpa using I i ah
 ·obtain⟨k,h1,h2⟩:=J i b hi;obtain⟨l,h3,h4⟩:=J j b hj;have ak:=h.inj k l b h2 h4;subst ak;exact aj i j k h1 h3
mutual
def PV.mapR (g:Nat->Nat):PV->PV
 | .pb k z i o=>.pb (g k) z i o
 | .sb k z lo n c=>.sb (g k) z lo n c
 | .fn f caps=>.fn f (PV.mapRL g caps)
 | .pg cs=>.pg (PV.mapRL g cs)
 | .tp cs=>.tp (PV.mapRL g cs)
 | p=>p
def PV.mapRL (g:Nat->Nat):List PV->List PV
 | []=>[]
 | p::ps=>PV.mapR g p::PV.mapRL g ps
end
mutual
theorem PV.mapR_refs (g:Nat->Nat):∀ p:PV,(p.mapR g).refs=p.refs.map g
 | .pb ..=>rfl
 | .sb ..=>rfl
 | .fn f caps=>by simp only[PV.mapR,PV.refs];exact PV.mapRL_refs g caps
 | .pg cs=>by simp only[PV.mapR,PV.refs];exact PV.mapRL_refs g cs
 | .tp cs=>by simp only[PV.mapR,PV.refs];exact PV.mapRL_refs g cs
 | .any=>rfl
 | .int ..=>rfl
 | .bool ..=>rfl
 | .str ..=>rfl
 | .lit ..=>rfl
 | .sv ..=>rfl
 | .d ..=>rfl
 | .dc ..=>rfl
 | .dg ..=>rfl
 | .pd ..=>rfl
theorem PV.mapRL_refs (g:Nat->Nat):∀ ps:List PV,PV.refsL (PV.mapRL g ps)=(PV.refsL ps).map g
 | []=>rfl
 | p::ps=>by simp only[PV.mapRL,PV.refsL,PV.mapR_refs g p,PV.mapRL_refs g ps,mF]
end
mutual
theorem PV.mapR_cv {g:Nat->Nat} {e e':Env}:∀ p:PV,(∀ k∈p.refs,e'.at (g k)=e.at k)->(p.mapR g).cv e'=p.cv e
 | .pb k z i o,h=>by simp only[PV.mapR,PV.cv,h k (by simp[PV.refs])]
 | .sb k z lo n c,h=>by simp only[PV.mapR,PV.cv,h k (by simp[PV.refs])]
 | .fn f caps,h=>by simp only[PV.mapR,PV.cv,PV.mapRL_cvs caps h]
 | .pg cs,h=>rfl
 | .tp cs,h=>rfl
 | .any,h=>rfl
 | .int ..,h=>rfl
 | .bool ..,h=>rfl
 | .str ..,h=>rfl
 | .lit ..,h=>rfl
 | .sv ..,h=>rfl
 | .d ..,h=>rfl
 | .dc ..,h=>rfl
 | .dg ..,h=>rfl
 | .pd ..,h=>rfl
theorem PV.mapRL_cvs {g:Nat->Nat} {e e':Env}:∀ ps:List PV,(∀ k∈PV.refsL ps,e'.at (g k)=e.at k)->PV.cvs e' (PV.mapRL g ps)=PV.cvs e ps
 | [],h=>rfl
 | p::ps,h=>by
   simp only[PV.mapRL,PV.cvs,PV.mapR_cv p λk hk=>h k (by simp only[PV.refsL];exact ol _ hk),PV.mapRL_cvs ps λk hk=>h k (by simp only[PV.refsL];exact nP _ hk)]
end
theorem PV.mapR_isC {g:Nat->Nat}{p:PV}(h:p.isC):(p.mapR g).isC:=by cases p<;>exact h
theorem PV.mapRL_mem {g:Nat->Nat}{q:PV}:∀ {ps:List PV},q∈PV.mapRL g ps->∃ p∈ps,q=p.mapR g
 | p::ps,h=>by
   simp only[PV.mapRL]at h;rcases oH.1 h with h | h
   ·exact⟨p,by simp,h⟩
   ·obtain⟨r,I,J⟩:=PV.mapRL_mem h;exact⟨r,by simp[I],J⟩
mutual
theorem PV.mapR_ok {g:Nat->Nat} {w:World} {live:Nat->Prop}:∀ p:PV,p.Ok w live->(p.mapR g).Ok w live
 | .fn f caps,h=>by simp only[PV.mapR,PV.Ok]at h ⊢;exact PV.mapRL_ok caps h
 | .pg cs,h=>by
   simp only[PV.mapR,PV.Ok]at h ⊢
   exact⟨PV.mapRL_ok cs h.1,λq I=>by obtain⟨p,J,rfl⟩:=PV.mapRL_mem I;exact PV.mapR_isC (h.2 p J)⟩
 | .tp cs,h=>by simp only[PV.mapR,PV.Ok]at h ⊢;exact PV.mapRL_ok cs h
 | .pb ..,h=>trivial
 | .sb ..,h=>trivial
 | .any,h=>h
 | .int ..,h=>h
 | .bool ..,h=>h
 | .str ..,h=>h
 | .lit ..,h=>h
 | .sv ..,h=>h
 | .d ..,h=>h
 | .dc ..,h=>h
 | .dg ..,h=>h
 | .pd ..,h=>h
theorem PV.mapRL_ok {g:Nat->Nat} {w:World} {live:Nat->Prop}:∀ ps:List PV,PV.OkL w live ps->PV.OkL w live (PV.mapRL g ps)
 | [],h=>trivial
 | p::ps,h=>⟨PV.mapR_ok p h.1,PV.mapRL_ok ps h.2⟩
end
def Bx.mapR (g:Nat->Nat):Bx->Bx
 | .var cs=>.var (cs.map (PV.mapR g))
 | B=>B
theorem TS:∀ {ks:List Nat}{j k:Nat},ks.Nodup->ks[j]?=some k->pos ks k=some j
 | x::xs,0,k,_,h=>by simp at h;subst h;simp[pos]
 | x::xs,j+1,k,hn,h=>by obtain⟨J,O⟩:=na.1 hn;simp only[nS]at h;have I:¬x=k:=λhc=>J (hc ▸ oA h);simp[pos,I,TS O h]
theorem Vn {ks:List Nat}{k:Nat}(h:pos ks k=none):k∉ks:=by
 induction ks with
 | nil=>simp
 | cons x xs I=>
   simp only[pos]at h;split at h
   ·cases h
   ·rename_i hx;split at h
    ·cases h
    ·rename_i J;simp at hx;simp only[oH,not_or];exact⟨λhc=>hx hc.symm,I J⟩
def bxN (ks:List Nat)(nb:List Bx):Nat->List Bx->List Bx
 | _,[]=>[]
 | i,B::bs=>(match pos ks i with
   | some j=>nb.getD j .gone
   | none=>B)::bxN ks nb (i+1) bs
theorem OA {ks:List Nat}{nb:List Bx}:∀(bs:List Bx)(i k:Nat),(bxN ks nb i bs)[k]?=(bs[k]?).map λB=>match pos ks (i+k)with
  | some j=>nb.getD j .gone
  | none=>B
 | [],i,k=>rfl
 | B::bs,i,0=>by simp[bxN]
 | B::bs,i,k+1=>by simp only[bxN,nS];rw[OA bs (i+1) k,show i+1+k=i+(k+1) by omega]
theorem xn {ks:List Nat}{nb:List Bx}:∀(bs:List Bx)(i:Nat),(bxN ks nb i bs).length=bs.length
 | [],i=>rfl
 | B::bs,i=>by simp[bxN,xn bs]
def Gd (ks:List Nat)(e1 e:Env):Env:=(List.range e.length).map λk=>match pos ks k with
 | some j=>e1.at j
 | none=>e.at k
theorem Sd {ks:List Nat}{e1 e:Env}{k:Nat}(h:k<e.length):(Gd ks e1 e).at k=match pos ks k with
  | some j=>e1.at j
  | none=>e.at k:=by
 simp[Gd,Env.at,oB,h]
structure Io (av:Nat->Prop) (pB:List Nat) (w w':World) (e:Env) (bx:List Bx) (ks:List Nat) (e1:Env) (nb rows:List Bx):Prop where
 nd:ks.Nodup
 kp:∀ k∈ks,k∉pB/\∃ B,bx[k]?=some B/\B≠.gone
 len:nb.length=ks.length
 el:ks.length<=e1.length
 m:Mem (fun b=>av b\/∃ k,k∉ks/\Lives pB e bx k b) [] w' e1 (nb++rows)
 arr:∀ B∈rows,B.row
 kind:∀(j k:Nat) (B B':Bx),ks[j]?=some k->bx[k]?=some B->nb[j]?=some B'->B'.isArr=B.isArr
 refs:∀ B∈nb,∀ j∈B.refs,j<ks.length
 fix:∀(j k:Nat) (B:Bx),ks[j]?=some k->bx[k]?=some B->B.isArr=false->e1.at j=e.at k
 fr:∀ j b,e1.at j=some b->w.heap.size<=b\/(j<ks.length/\∃ k∈ks,e.at k=some b)
 size:w.heap.size<=w'.heap.size
 hold:∀ b,b<w.heap.size->(∀ k∈ks,e.at k≠some b)->w'.heap[b]?=w.heap[b]?
 fz:∀(b:Nat) (c:Array Value) (t:TypeId) (z:Nat × Nat),(w.heap.size<=b\/∃ k∈ks,e.at k=some b)->w'.heap[b]?=some (.cells c t z)->Fz z
 ku:KU w w'
theorem ZZ (h:Rel av w0 e0 pS pB a w e st) {ks:List Nat} {e1:Env} {nb rows:List Bx} (io:Io av pB w w' e st.bx ks e1 nb rows)
  (hS:∀(i:Nat) (p:PV),st.sl[i]?=some p->∀ k∈ks,(st.bx.getD k .gone).isArr=true->k∉p.refs)
  (bp:∀(j:Nat) (B:Bx),st.bx[j]?=some B->j∉ks->∀ k∈ks,(st.bx.getD k .gone).isArr=true->k∉B.refs)
  (a8:∀ k∈ks,(st.bx.getD k .gone).isArr=true->∀ b,st.pins[k]?≠some (some b))
  (a9:(∀ k∈ks,(st.bx.getD k .gone).isArr=true->st.pins.length<=k)\/∀ k∈ks,(st.bx.getD k .gone).isArr=true->k<st.pins.length) :
  Rel av w0 e0 pS pB a w' (Gd ks e1 e++e1.drop ks.length) { st with bx:=bxN ks (nb.map (Bx.mapR λj=>ks.getD j 0)) 0 st.bx++rows,N:=w'.heap.size } /\
  ∀ d:D,Good w' (zg (λb=>av b\/∃ k,k∉ks/\Lives pB e st.bx k b) [] e1 (nb++rows)) d->Good w' (zg av pB (Gd ks e1 e++e1.drop ks.length) (bxN ks (nb.map (Bx.mapR λj=>ks.getD j 0)) 0 st.bx++rows)) d:=by
 have ay:(Gd ks e1 e).length=st.bx.length:=by simp[Gd,h.el]
 have a2:∀ k,k<st.bx.length->Env.at (Gd ks e1 e++e1.drop ks.length) k=match pos ks k with
  | some j=>e1.at j
  | none=>e.at k:=λk hk=>by rw[Env.at_app,if_pos (by rw[ay];exact hk),Sd (by rw[h.el];exact hk)]
 have a3:∀ i,Env.at (Gd ks e1 e++e1.drop ks.length) (st.bx.length+i)=e1.at (ks.length+i):=λi=>by rw[Env.at_app,if_neg (by rw[ay];omega),ay];simp[Env.at,oB]
 have ba:∀ k∈ks,k<st.bx.length:=λk hk=>by obtain⟨_,B,h1,_⟩:=io.kp k hk;exact(oC.1 h1).1
 have bb:∀ j k,ks[j]?=some k->pos ks k=some j:=λj k U=>TS io.nd U;have ak:∀ j k,ks[j]?=some k->Env.at (Gd ks e1 e++e1.drop ks.length) k=e1.at j:=λj k U=>by rw[a2 k (ba k (oA U)),bb j k U]
 have ao:∀ k,k<st.bx.length->k∉ks->Env.at (Gd ks e1 e++e1.drop ks.length) k=e.at k:=λk hk hn=>by
  rw[a2 k hk];cases hp:pos ks k with
  | none=>rfl
  | some j=>exact absurd (oA (An hp)) hn
 have ae:∀ k b,k∈ks->e.at k=some b->Lives pB e st.bx k b:=λk b hk hb=>by obtain⟨h1,B,h2,h3⟩:=io.kp k hk;exact⟨h1,hb,B,h2,h3⟩
 have al:∀(k:Nat) (B':Bx),(bxN ks (nb.map (Bx.mapR λj=>ks.getD j 0)) 0 st.bx++rows)[k]?=some B' ->
   (k∉ks/\st.bx[k]?=some B')\/(∃(j:Nat) (B:Bx),ks[j]?=some k/\nb[j]?=some B/\B'=B.mapR λj=>ks.getD j 0)\/∃ i,k=st.bx.length+i/\rows[i]?=some B':=λk B' hk=>by
  by_cases ah:k<st.bx.length
  ·rw[oO (by rw[xn];exact ah),OA,oF ah]at hk;simp only[oe,nT,nL]at hk;cases hp:pos ks k with
   | none=>rw[hp]at hk;exact .inl ⟨Vn hp,by rw[oF ah];exact lY some hk⟩
   | some j=>
     rw[hp]at hk;have U:=An hp;have az:j<nb.length:=by rw[io.len];exact(oC.1 U).1
     refine .inr (.inl ⟨j,nb[j],U,oF az,?_⟩);have bq:(nb.map (Bx.mapR λj=>ks.getD j 0)).getD j .gone=B':=hk;rw[<-bq,oB,oG,oF az];rfl
  ·rw[oS (by rw[xn];omega),xn]at hk;exact .inr (.inr ⟨k - st.bx.length,by omega,hk⟩)
 have bt:∀(B:Bx),Bx.mapR (λj=>ks.getD j 0) B≠Bx.gone->B≠Bx.gone:=λB hB hc=>hB (by rw[hc];rfl);have J:∀ k b,Lives pB (Gd ks e1 e++e1.drop ks.length) (bxN ks (nb.map (Bx.mapR λj=>ks.getD j 0)) 0 st.bx++rows) k b ->
   (k∉ks/\Lives pB e st.bx k b)\/(∃ j,ks[j]?=some k/\Lives [] e1 (nb++rows) j b)\/∃ i,k=st.bx.length+i/\Lives [] e1 (nb++rows) (ks.length+i) b:=λk b ⟨h1,h2,B',h3,h4⟩=>by
  rcases al k B' h3 with⟨O,I⟩ | ⟨j,B,O,I,g3⟩ | ⟨i,rfl,I⟩
  ·rw[ao k (oC.1 I).1 O]at h2;exact .inl ⟨O,h1,h2,B',I,h4⟩
  ·rw[ak j k O]at h2;have az:j<nb.length:=(oC.1 I).1;exact .inr (.inl ⟨j,O,by simp,h2,B,by rw[oO az];exact I,bt B (g3 ▸ h4)⟩)
  ·rw[a3]at h2;exact .inr (.inr ⟨i,rfl,by simp,h2,B',by rw[oS (by rw[io.len];omega),io.len];simpa using I,h4⟩)
 have aa:∀ j b,Lives [] e1 (nb++rows) j b->w.heap.size<=b\/(j<ks.length/\∃ k∈ks,e.at k=some b):=λj b U=>io.fr j b U.2.1;have aq:∀ b,b<w.heap.size->zg av pB (Gd ks e1 e++e1.drop ks.length) (bxN ks (nb.map (Bx.mapR λj=>ks.getD j 0)) 0 st.bx++rows) b->zg av pB e st.bx b:=λb hb hl=>hl.elim .inl λ⟨k,hk⟩=>by
  rcases J k b hk with⟨_,g⟩ | ⟨j,_,g⟩ | ⟨i,_,g⟩
  ·exact .inr ⟨k,g⟩
  ·rcases aa j b g with I | ⟨_,k2,I,g3⟩
   ·omega
   ·exact .inr ⟨k2,ae k2 b I g3⟩
  ·rcases aa _ b g with I | ⟨I,_⟩<;>omega
 have ac:∀ b,zg av pB (Gd ks e1 e++e1.drop ks.length) (bxN ks (nb.map (Bx.mapR λj=>ks.getD j 0)) 0 st.bx++rows) b->zg (λb=>av b\/∃ k,k∉ks/\Lives pB e st.bx k b) [] e1 (nb++rows) b:=λb hl=>by
  rcases hl with hl | ⟨k,hk⟩
  ·exact .inl (.inl hl)
  rcases J k b hk with⟨O,g⟩ | ⟨j,_,g⟩ | ⟨i,_,g⟩
  ·exact .inl (.inr ⟨k,O,g⟩)
  ·exact .inr ⟨j,g⟩
  ·exact .inr ⟨_,g⟩
 have au:∀ b,b<w.heap.size->¬zg av pB e st.bx b->w'.heap[b]?=w.heap[b]?:=λb hb hn=>io.hold b hb λk hk hc=>hn (.inr ⟨k,ae k b hk hc⟩);have a5:∀ d:D,Good w' (zg (λb=>av b\/∃ k,k∉ks/\Lives pB e st.bx k b) [] e1 (nb++rows)) d->Good w' (zg av pB (Gd ks e1 e++e1.drop ks.length) (bxN ks (nb.map (Bx.mapR λj=>ks.getD j 0)) 0 st.bx++rows)) d:=
  λd hd=>hd.mono (λ_ _ _=>rfl) λb _ hb=>ac b hb
 have ai:∀(R:List Nat),(∀ k∈R,k<st.bx.length)->(∀ k∈ks,(st.bx.getD k .gone).isArr=true->k∉R)->∀ k∈R,Env.at (Gd ks e1 e++e1.drop ks.length) k=e.at k:=λR bv bw k hk=>by
  by_cases am:k∈ks
  ·obtain⟨j,U⟩:=oQ.1 am;obtain⟨_,B,O,_⟩:=io.kp k am;rw[ak j k U];refine io.fix j k B U O ?_;cases hb:B.isArr with
   | false=>rfl
   | true=>exact absurd hk (bw k am (by rw[oB,O];exact hb))
  ·exact ao k (bv k hk) am
 have bc:∀ q:PV,(∀ j∈q.refs,j<ks.length)->∀ k∈q.refs,Env.at (Gd ks e1 e++e1.drop ks.length) (ks.getD k 0)=e1.at k:=λq hq k hk=>by have ah:=hq k hk;refine ak k _ ?_;rw[oB,oF ah];rfl
 have a6:∀(j:Nat) (B:Bx),st.bx[j]?=some B->j∉pB->j∉ks->∀ b,e.at j=some b->B≠.gone->w'.heap[b]?=w.heap[b]?:=λj B U hn bz b hb hg=>by
  have hl:Lives pB e st.bx j b:=⟨hn,hb,B,U,hg⟩
  exact io.hold b (Lives.lt h.toMem hl) λk hk hc=>bz (h.inj j k b hl (ae k b hk hc) ▸ hk)
 have aj:∀(i:Nat) (B:Bx),rows[i]?=some B->(nb++rows)[ks.length+i]?=some B/\B.refs=[]:=λi B hi=>by exact⟨by rw[oS (by rw[io.len];omega),io.len];simpa using hi,(io.arr B (oA hi)).sp.2⟩
 have aw:∀(j:Nat) (B:Bx),nb[j]?=some B->(nb++rows)[j]?=some B:=λj B U=>by rw[oO (oC.1 U).1];exact U
 refine⟨?_,a5⟩
 exact {
  el:=by
   simp only[oK,ay,xn,mZ]
   have:=io.m.el
   simp only[oK,io.len]at this;omega
  br := λk B' hk hn=>by
   rcases al k B' hk with⟨O,I⟩ | ⟨j,B,O,I,rfl⟩ | ⟨i,rfl,I⟩
   ·rw[ao k (oC.1 I).1 O];by_cases hg:B'=.gone
    ·subst hg;exact True.intro
    ·refine(h.br k B' I hn).congr (λb hb=>a6 k B' I hn O b hb hg) λi hi=>?_;exact ai B'.refs (λk hk=>(h.bf _ B' I hn k hk).2) (λk2 ab ha=>bp k B' I O k2 ab ha) i hi
   ·rw [ak j k O];have h1:=io.m.br j B (aw j B I) (by simp);have h2:=io.refs B (oA I);cases B with
    | var cs=>
      obtain⟨b,c,t,Y,q2,q3,q4⟩:=h1;refine⟨b,c,t,Y,q2,by simpa using q3,λi p hp=>?_⟩;rw[oG]at hp;cases a0:cs[i]? with
      | none=>simp[a0]at hp
      | some q=>
        simp only[a0,oe,nL]at hp;subst hp;have hr:∀ j∈q.refs,j<ks.length:=λj U=>h2 j (by simp only[Bx.refs];exact PV.refsL_mem.2 ⟨q,oA a0,U⟩);rcases q4 i q a0 with q5 | q5
        ·subst q5;exact .inl rfl
        ·exact .inr (by rw[PV.mapR_cv q (bc q hr)];exact q5)
    | vd x n=>exact h1
    | arr t z es c=>exact h1
    | gone=>exact True.intro
   ·rw[a3];obtain⟨Y,q2⟩:=aj i B' I;exact(io.m.br _ B' Y (by simp)).congr (λ_ _=>rfl) λj U=>by rw[q2]at U;simp at U
  bo:=λk B' hk hn=>by
   rcases al k B' hk with⟨O,I⟩ | ⟨j,B,O,I,rfl⟩ | ⟨i,rfl,I⟩
   ·exact(h.bo k B' I hn).mono au io.size aq
   ·have h1:=(io.m.bo j B (aw j B I) (by simp)).mono (w':=w') (λ_ _ _=>rfl) (oD _) λb _=>ac b;cases B with
    | var cs=>
      obtain⟨Y,q2⟩:=h1;rw[PV.OkL_iff]at Y;refine⟨PV.OkL_iff.2 λp hp=>?_,λp hp=>?_⟩
      ·obtain⟨q,hq,rfl⟩:=oT.1 hp;exact PV.mapR_ok q (Y q hq)
      ·obtain⟨q,hq,rfl⟩:=oT.1 hp;rcases q2 q hq with q3 | q3
       ·subst q3;exact .inl rfl
       ·exact .inr (PV.mapR_isC q3)
    | vd x n=>exact h1
    | arr t z es c=>exact h1
    | gone=>exact True.intro
   ·exact(io.m.bo _ B' (aj i B' I).1 (by simp)).mono (λ_ _ _=>rfl) (oD _) λb _=>ac b
  bf:=λk B' hk hn i hi=>by
   simp only[oK,xn];rcases al k B' hk with⟨O,I⟩ | ⟨j,B,O,I,rfl⟩ | ⟨i,rfl,I⟩
   ·have:=h.bf k B' I hn i hi;exact⟨this.1,by omega⟩
   ·cases B with
    | var cs=>
      simp only[Bx.mapR,Bx.refs]at hi;obtain⟨p,hp,bg⟩:=PV.refsL_mem.1 hi;obtain⟨q,hq,rfl⟩:=oT.1 hp;rw[PV.mapR_refs]at bg;obtain⟨r,hr,rfl⟩:=oT.1 bg;have bh:=io.refs _ (oA I) r (by simp only[Bx.refs];exact PV.refsL_mem.2 ⟨q,hq,hr⟩);have a4:ks.getD r 0∈ks:=by rw[oB,oF bh];exact mM bh
      exact⟨(io.kp _ a4).1,by have:=ba _ a4;omega⟩
    | vd x n=>simp[Bx.mapR,Bx.refs]at hi
    | arr t z es c=>simp[Bx.mapR,Bx.refs]at hi
    | gone=>simp[Bx.mapR,Bx.refs]at hi
   ·rw[(aj _ B' I).2]at hi;simp at hi
  inj:=λi j b hi U=>by
   have key:∀ k j,k∉ks->Lives pB e st.bx k b->¬Lives [] e1 (nb++rows) j b:=λk j hk h1 h2=>by
    rcases aa j b h2 with h3 | ⟨_,k2,h3,h4⟩
    ·have:=Lives.lt h.toMem h1;omega
    ·exact hk (h.inj k k2 b h1 (ae k2 b h3 h4) ▸ h3)
   rcases J i b hi with⟨O,I⟩ | ⟨i1,O,I⟩ | ⟨i1,O,I⟩
   ·rcases J j b U with⟨Y,q2⟩ | ⟨j1,Y,q2⟩ | ⟨j1,Y,q2⟩
    ·exact h.inj i j b I q2
    ·exact absurd q2 (key i j1 O I)
    ·exact absurd q2 (key i _ O I)
   ·rcases J j b U with⟨Y,q2⟩ | ⟨j1,Y,q2⟩ | ⟨j1,Y,q2⟩
    ·exact absurd I (key j i1 Y q2)
    ·have:=io.m.inj i1 j1 b I q2
     subst this;rw[O]at Y;exact oU Y
    ·have:=io.m.inj _ _ b I q2
     have:=(oC.1 O).1
     omega
   ·rcases J j b U with⟨Y,q2⟩ | ⟨j1,Y,q2⟩ | ⟨j1,Y,q2⟩
    ·exact absurd I (key j _ Y q2)
    ·have:=io.m.inj _ _ b I q2
     have:=(oC.1 Y).1
     omega
    ·have:=io.m.inj _ _ b I q2
     omega
  ku:=h.ku.trans io.ku
  size:=oP h.size io.size
  old:=λb hb hn=>by
   refine(io.hold b (nI hb h.size) λk hk hc=>?_).trans (h.old b hb hn);rcases h.own k b (ae k b hk hc)with h1 | h1
   ·omega
   ·exact hn h1.1
  fz := λb c t z hb hc=>by
   by_cases ah:b<w.heap.size
   ·by_cases hk:∃ k∈ks,e.at k=some b
    ·exact io.fz b c t z (.inr hk) hc
    ·rw[io.hold b ah λk ab b1=>hk ⟨k,ab,b1⟩]at hc;exact h.fz b c t z hb hc
   ·exact io.fz b c t z (.inl (by omega)) hc
  nd:=h.nd
  sz:=h.sz
  hN:=oD _
  hs:=λi p hi hn=>by
   rcases h.hs i p hi hn with h1 | h1
   ·exact .inl h1
   ·refine .inr (h1.trans (PV.val_congr p λk hk=>?_).symm);exact ai p.refs (λk hk=>(h.sr i p hi hn k hk).2) (λk2 ab ha=>hS i p hi k2 ab ha) k hk
  so:=λi p hi hn=>PV.Ok.mono au io.size aq p (h.so i p hi hn)
  sr:=λi p hi hn k hk=>by have:=h.sr i p hi hn k hk;exact⟨this.1,by simp only[oK,xn];omega⟩
  own := λk b hk=>by
   show _\/(_/\k<st.pins.length);rcases J k b hk with⟨_,g⟩ | ⟨j,O,g⟩ | ⟨i,_,g⟩
   ·exact h.own k b g
   ·rcases aa j b g with I | ⟨_,k2,I,g3⟩
    ·have:=h.size;exact .inl (by omega)
    ·obtain⟨_,B,Y,q2⟩:=io.kp k (oA O);obtain⟨_,B2,q3,q4⟩:=io.kp k2 I;cases hb:B.isArr with
     | false=>have q5:=io.fix j k B O Y hb;rw[g.2.1]at q5;exact h.own k b (ae k b (oA O) q5.symm)
     | true=>
       obtain⟨j2,g4⟩:=oQ.1 I;have b2:(st.bx.getD k .gone).isArr=true:=by rw[oB,Y];exact hb
       cases ax:B2.isArr with
       | false=>
         have q5:=io.fix j2 k2 B2 g4 q3 ax;have b6:j2<nb.length:=by rw[io.len];exact(oC.1 g4).1
         have bi:nb[j2]?=some nb[j2]:=oF b6;have ab:=io.kind j2 k2 B2 _ g4 q3 bi;have b7:Lives [] e1 (nb++rows) j2 b:=⟨by simp,q5.trans g3,_,aw j2 _ bi,λhc=>by rw[hc,ax]at ab;cases ab⟩
         have:=io.m.inj j j2 b g b7
         subst this;rw[O]at g4;cases g4;rw[Y]at q3;cases q3;rw[hb]at ax;cases ax
       | true=>
         have bj:(st.bx.getD k2 .gone).isArr=true:=by rw[oB,q3];exact ax
         rcases h.own k2 b (ae k2 b I g3)with q5 | ⟨q5,q6⟩
         ·exact .inl q5
         ·rcases a9 with q7 | q7
          ·have:=q7 k2 I bj;omega
          ·exact .inr ⟨q5,q7 k (oA O) b2⟩
   ·rcases aa _ b g with I | ⟨I,_⟩
    ·have:=h.size;exact .inl (by omega)
    ·omega
  avl:=h.avl
  avn:=λk b hk a7=>by
   have ah:b<w.heap.size:=nI (h.avl.lt b a7) h.size;rcases J k b hk with⟨_,g⟩ | ⟨j,O,g⟩ | ⟨i,_,g⟩
   ·exact h.avn k b g a7
   ·rcases aa j b g with I | ⟨_,k2,I,g3⟩
    ·omega
    ·exact h.avn k2 b (ae k2 b I g3) a7
   ·rcases aa _ b g with I | ⟨I,_⟩<;>omega
  pin:=λk b hb=>by
   have bm:st.pins[k]?=some (some b):=hb;obtain⟨h1,h2⟩:=h.pin k b bm;refine⟨?_,h2⟩;have hk:k<st.bx.length:=by rw[<-h.el];exact lW λhc=>by rw[Env.at_ge hc]at h1;cases h1
   rw[<-h1];exact ai [k] (λi hi=>by simp at hi;subst hi;exact hk) (λk2 ab ha hc=>by simp at hc;subst hc;exact a8 k2 ab ha b bm) k (by simp)
  pit:=h.pit }
variable {av:Nat->Prop} {P:Program} {w0 w w':World} {e0 e:Env} {pS pS' pB pB':List Nat} {a:Act} {st st':St}
def zAE (ks:List Nat)(p:PV):Option PV:=match p with
 | .fn f caps=>(PV.fn f caps).ren ks
 | p=>match p.refs with
   | []=>pE p
   | _=>p.ren ks
def Ru (ks:List Nat):List PV->Option (List PV)
 | []=>some []
 | p::ps=>match zAE ks p,Ru ks ps with
   | some q,some qs=>some (q::qs)
   | _,_=>none
def Pk:Bx->Bool
 | .gone=>true
 | _=>false
def okB (st:St)(ks:List Nat):Bool:=
 (ks.all fun k=>match st.bx[k]? with
  | some B=>!Pk B&&(!B.isArr||!Et st k)
  | none=>false)&&Nat.ble ks.length st.bx.length &&
 ((ks.all fun k=>!(st.bx.getD k .gone).isArr||Nat.ble st.pins.length k)||ks.all fun k=>!(st.bx.getD k .gone).isArr||Nat.blt k st.pins.length)
def w9 (bx:List Bx):List Nat->St->St
 | [],st=>st
 | k::ks,st=>match(bx.getD k .gone).isArr with
   | true=>w9 bx ks (st.kill k)
   | false=>w9 bx ks st
def w8 (st:St)(ks:List Nat):List Bx:=ks.map λk=>(st.bx.getD k .gone).ren ks
def zAd (st:St)(ks:List Nat)(nb rows:List Bx)(N:Nat):St:=
 { w9 st.bx ks st with bx:=bxN ks (nb.map (Bx.mapR λj=>ks.getD j 0)) 0 (w9 st.bx ks st).bx++rows,N:=N }
def jOf:List PV->Nat
 | .sb k _ _ _ _::_=>k
 | _=>0
def rsJ (as:List PV):List Sh->List Sh
 | .bk _::l=>.bk (jOf as)::l
 | l=>l
def Za (rs:List Sh)(U:List Bx)(ks:List Nat)(ps:List PV):PV:=match rs with
 | .bk j::_=>match U[j]? with
   | some (.arr _ z es c)=>.sb (ks.getD j 0) z 0 es.length c
   | _=>.any
 | _=>IL (D3 rs) ps
def GY (rs:List Sh):Nat:=match D3 rs with
 | true=>rs.length - 1
 | false=>rs.length
theorem Ls:∀(cs:List PV)(s:Sh),s∈YE cs->∀ j,s≠.bk j
 | p::cs,s,h,j=>by
   simp only[YE]at h;split at h
   ·rename_i I hs;rcases oH.1 h with rfl | h
    ·cases p<;>simp[Dt]at hs<;>subst hs<;>simp
    ·exact Ls cs s h j
   ·exact Ls cs s h j
theorem WC (bx:List Bx)(s:Sh)(h:s∈Rf bx):∀ j,s≠.bk j:=by
 simp only[Rf,mL]at h;obtain⟨B,_,h⟩:=h;cases B with
 | var cs=>exact Ls cs s h
 | vd x n=>simp[YD]at h;subst h;simp
 | arr t z es c=>simp[YD]at h;subst h;simp
 | gone=>simp[YD]at h
theorem Lt:∀(cs:List PV)(s:Sh),s∈YE cs->s≠.pk
 | p::cs,s,h=>by
   simp only[YE]at h;split at h
   ·rename_i I hs;rcases oH.1 h with rfl | h
    ·cases p<;>simp[Dt]at hs<;>subst hs<;>simp
    ·exact Lt cs s h
   ·exact Lt cs s h
theorem WD (bx:List Bx)(s:Sh)(h:s∈Rf bx):s≠.pk:=by
 simp only[Rf,mL]at h;obtain⟨B,_,h⟩:=h;cases B with
 | var cs=>exact Lt cs s h
 | vd x n=>simp[YD]at h;subst h;simp
 | arr t z es c=>simp[YD]at h;subst h;simp
 | gone=>simp[YD]at h
theorem Kd (l:List Sh)(bx:List Bx):D3 (l++Rf bx)=D3 l:=by
 cases l with
 | cons s l=>cases s<;>rfl
 | nil=>
   rw[oV];cases h:Rf bx with
   | nil=>rfl
   | cons s l=>have:=WD bx s (by rw[h];simp);cases s<;>first | rfl | exact absurd rfl this
theorem VK (as:List PV)(rs:List Sh):D3 (rsJ as rs)=D3 rs:=by unfold rsJ;split<;>rfl
theorem X3 (as:List PV)(rs:List Sh):(rsJ as rs).length=rs.length:=by unfold rsJ;split<;>simp
def SL (P:Program)(rs:List Sh)(st:St)(dst:Option Nat)(f:FuncId)(I:List PV)(ks:List Nat)(K:St->Prop):Prop:=
 match Ru ks I,okB st ks&&Nat.beq (GY rs) (IJ P f (rs++Rf (w8 st ks)) ((w8 st ks).map xl))with
 | some as,true=>∀ N1,st.N<=N1->BCalls P f (rsJ as rs++Rf (w8 st ks)) as (w8 st ks) N1 (QT.lam (rsJ as rs++Rf (w8 st ks)) st.bx.length λps rows N2=>N1<=N2 ->
  Ui N2 ps (YL N2 rows (K (St.put (zAd st ks (Lw ((w8 st ks).map xl) (ps.drop (GY rs))) rows N2) dst (Za (rsJ as rs) (Lw ((w8 st ks).map xl) (ps.drop (GY rs))) ks (ps.take (GY rs)))))))
 | _,_=>False
def Yu (P:Program)(rs:List Sh)(st:St)(dst:Option Nat)(x:Operand)(args:List PV)(K:St->Prop):Prop:=
 match XV (opd st.sl x)with
 | some (f,caps)=>match caps.all PV.isCap with
   | true=>SL P rs st dst f (args++caps) (C7 st.bx 200 (PV.refsL (args++caps)) []) K
   | false=>False
 | none=>False
theorem Pn {k j:Nat}:(st.kill k).bx[j]?=(st.bx[j]?).map (Bx.kill k):=by simp[St.kill]
theorem S1 {k:Nat}{B:Bx}:B.kill k=.gone↔B=.gone:=by cases B<;>simp[Bx.kill]
theorem RD {k:Nat}{B:Bx}:(B.kill k).isArr=B.isArr:=by cases B<;>rfl
theorem rS {bx:List Bx}:∀(ks:List Nat)(st:St)(j:Nat),((w9 bx ks st).bx[j]?=none↔st.bx[j]?=none)/\∀ B,st.bx[j]?=some B->∃ B',(w9 bx ks st).bx[j]?=some B'/\(B'=.gone↔B=.gone)/\B'.isArr=B.isArr
 | [],st,j=>⟨lO,λB h=>⟨B,h,lO,rfl⟩⟩
 | k::ks,st,j=>by
   simp only[w9];split
   ·obtain⟨I,J⟩:=rS ks (st.kill k) j;refine⟨by rw[I,Pn];simp,λB O=>?_⟩;obtain⟨B',U,Y,h5⟩:=J (B.kill k) (by rw[Pn,O];rfl);exact⟨B',U,Y.trans S1,h5.trans RD⟩
   ·exact rS ks st j
theorem D4 {bx:List Bx}:∀(ks:List Nat)(st:St),(w9 bx ks st).pins=st.pins
 | [],st=>rfl
 | k::ks,st=>by
   simp only[w9];split
   ·rw[D4 ks];rfl
   ·exact D4 ks st
theorem Gr {bx:List Bx}:∀(ks:List Nat)(st:St),Rel av w0 e0 pS pB a w e st->Rel av w0 e0 pS pB a w e (w9 bx ks st)
 | [],st,h=>h
 | k::ks,st,h=>by
   simp only[w9];split
   ·exact Gr ks _ (QD h (AZ k st))
   ·exact Gr ks st h
theorem Po {k:Nat}:(∀(i:Nat)(p:PV),(st.kill k).sl[i]?=some p->p=.any\/st.sl[i]?=some p)/\∀(j:Nat)(B:Bx)(r:Nat),(st.kill k).bx[j]?=some B->r∈B.refs->∃ B',st.bx[j]?=some B'/\r∈B'.refs:=by
 constructor
 ·intro i p hi;exact(AZ k st).sl i p hi
 ·intro j B r J hr;obtain⟨B',O,U⟩:=(AZ k st).bx j B J;refine⟨B',O,?_⟩;rcases U with rfl | rfl | ⟨cs,cs',rfl,rfl,h3,Y⟩
  ·simp[Bx.refs]at hr
  ·exact hr
  ·simp only[Bx.refs]at hr ⊢;obtain⟨p,hp,I⟩:=PV.refsL_mem.1 hr;obtain⟨i,hi⟩:=oQ.1 hp;rcases Y i p hi with rfl | h5
   ·simp[PV.refs]at I
   ·exact PV.refsL_mem.2 ⟨p,oA h5,I⟩
theorem Gs {bx:List Bx}:∀(ks:List Nat)(st:St),(∀(i:Nat)(p:PV),(w9 bx ks st).sl[i]?=some p->p=.any\/st.sl[i]?=some p)/\∀(j:Nat)(B:Bx)(r:Nat),(w9 bx ks st).bx[j]?=some B->r∈B.refs->∃ B',st.bx[j]?=some B'/\r∈B'.refs
 | [],st=>⟨λi p h=>.inr h,λj B r h hr=>⟨B,h,hr⟩⟩
 | k :: ks,st=>by
   simp only[w9];split
   ·obtain⟨I,J⟩:=Gs ks (st.kill k);refine⟨λi p hi=>?_,λj B r O hr=>?_⟩
    ·rcases I i p hi with h3 | h3
     ·exact .inl h3
     ·exact Po.1 i p h3
    ·obtain⟨B',h3,U⟩:=J j B r O hr;exact Po.2 j B' r h3 U
   ·exact Gs ks st
theorem Ai {bx:List Bx}:∀(ks:List Nat)(st:St),∀ k∈ks,(bx.getD k .gone).isArr=true->(∀(i:Nat)(p:PV),(w9 bx ks st).sl[i]?=some p->k∉p.refs)/\∀(j:Nat)(B:Bx),(w9 bx ks st).bx[j]?=some B->k∉B.refs
 | [],st,k,h,_=>by simp at h
 | k'::ks,st,k,h,I=>by
   simp only[w9];rcases oH.1 h with rfl | h
   ·rw[I];obtain⟨J,O⟩:=Gs (bx:=bx) ks (st.kill k);refine⟨λi p hi hc=>?_,λj B U hc=>?_⟩
    ·rcases J i p hi with rfl | h3
     ·simp[PV.refs]at hc
     ·exact Gu.1 i p h3 hc
    ·obtain⟨B',h3,Y⟩:=O j B k U hc;exact Gu.2 j B' h3 Y
   ·split
    ·exact Ai ks _ k h I
    ·exact Ai ks st k h I
theorem Gq {bx:List Bx}:∀(ks:List Nat)(st:St),(w9 bx ks st).bx.length=st.bx.length/\(w9 bx ks st).sl.length=st.sl.length
 | [],st=>⟨rfl,rfl⟩
 | k::ks,st=>by
   simp only[w9];split
   ·have:=Gq (bx:=bx) ks (st.kill k)
    simpa [St.kill]using this
   ·exact Gq ks st
theorem HV:∀(cs es:List PV),(∀ p∈es,p.refs=[])->(∀ q∈(PF cs es).1,q.refs=[]\/q∈cs)/\∀ q∈(PF cs es).2,q∈es
 | [],es,h=>⟨by simp[PF],by simp[PF]⟩
 | p::ps,es,h=>by
   simp only[PF];split
   ·cases es with
    | nil=>simp
    | cons q es=>
      obtain⟨I,J⟩:=HV ps es λx hx=>h x (by simp[hx]);refine⟨λx hx=>?_,λx hx=>by simp[J x hx]⟩;rcases oH.1 hx with rfl | hx
      ·exact .inl (h _ (by simp))
      ·exact(I x hx).imp id λO=>by simp[O]
   ·obtain⟨I,J⟩:=HV ps es h;refine⟨λx hx=>?_,J⟩;rcases oH.1 hx with rfl | hx
    ·exact .inr (by simp)
    ·exact(I x hx).imp id λO=>by simp[O]
theorem UG (B:Bx)(es:List PV)(h:∀ p∈es,p.refs=[]):(∀ j∈(Qa B es).1.refs,j∈B.refs)/\(Qa B es).1.isArr=B.isArr/\∀ q∈(Qa B es).2,q∈es:=by
 cases B with
 | var cs=>
   obtain⟨U,Y⟩:=HV cs es h;refine⟨λj O=>?_,rfl,Y⟩;simp only[Qa,Bx.refs]at O ⊢;obtain⟨q,I,J⟩:=PV.refsL_mem.1 O;rcases U q I with h3 | h3
   ·rw[h3]at J;simp at J
   ·exact PV.refsL_mem.2 ⟨q,h3,J⟩
 | vd y n=>
   simp only[Qa];split
   ·exact⟨by simp[Bx.refs],rfl,λq I=>by simp[I]⟩
   ·exact⟨by simp[Bx.refs],rfl,by simp⟩
 | arr t z y n=>
   simp only[Qa];split
   ·exact⟨by simp[Bx.refs],rfl,λq I=>by simp[I]⟩
   ·exact⟨by simp[Bx.refs],rfl,by simp⟩
 | gone=>exact⟨by simp[Qa,Bx.refs],rfl,λq I=>I⟩
theorem QZ:∀(bs:List Bx)(es:List PV),(∀ p∈es,p.refs=[])->(RY bs es).length=bs.length/\∀(j:Nat)(B':Bx),(RY bs es)[j]?=some B'->∃ B,bs[j]?=some B/\(∀ i∈B'.refs,i∈B.refs)/\B'.isArr=B.isArr
 | [],es,h=>⟨rfl,by simp[RY]⟩
 | B::bs,es,h=>by
   obtain⟨J,O,U⟩:=UG B es h;obtain⟨Y,h5⟩:=QZ bs (Qa B es).2 λp hp=>h p (U p hp);refine⟨by simp[RY,Y],λj B' I=>?_⟩;cases j with
   | zero=>simp[RY]at I;subst I;exact⟨B,rfl,J,O⟩
   | succ j=>simp only[RY,nS]at I ⊢;exact h5 j B' I
theorem LC (bs:List Bx)(es:List PV)(h:∀ p∈es,p.refs=[]):(Lw bs es).length=bs.length/\∀(j:Nat)(B':Bx),(Lw bs es)[j]?=some B'->∃ B,bs[j]?=some B/\(∀ i∈B'.refs,i∈B.refs)/\B'.isArr=B.isArr:=by
 obtain⟨h1,h2⟩:=QZ bs es h;refine⟨by simp[Lw,h1],λj B' J=>?_⟩;simp only[Lw,oG]at J;cases O:(RY bs es)[j]? with
 | none=>simp[O]at J
 | some U=>
   simp only[O,oe,nL]at J;obtain⟨B,Y,h4,h5⟩:=h2 j U O;subst J;cases U with
   | var cs=>
     refine⟨B,Y,λi hi=>h4 i ?_,h5⟩;simp only[Y8,Bx.refs]at hi ⊢;obtain⟨p,hp,I⟩:=PV.refsL_mem.1 hi;obtain⟨q,hq,rfl⟩:=oT.1 hp;refine PV.refsL_mem.2 ⟨q,hq,?_⟩;cases q<;>simp only[Y9]at I<;>try exact I
     split at I
     ·exact I
     ·simp[PV.refs]at I
   | _=>exact⟨B,Y,h4,h5⟩
theorem Di {B:Bx}:(xl B).refs=B.refs/\(xl B).isArr=B.isArr:=by
 cases B with
 | var cs=>
   refine⟨?_,rfl⟩;simp only[xl,Bx.refs]
   induction cs with
   | nil=>rfl
   | cons p cs I=>simp only[oZ,PV.refsL,I];congr 1;cases p<;>rfl
 | _=>exact⟨rfl,rfl⟩
theorem M3 {ks:List Nat}{B:Bx}:(B.ren ks).isArr=B.isArr:=by cases B<;>rfl
theorem Vt {ks:List Nat}{B:Bx}:∀ j∈(B.ren ks).refs,j<ks.length:=by
 cases B with
 | var cs=>
   intro j O;simp only[Bx.ren,Bx.refs]at O;obtain⟨p,U,I⟩:=PV.refsL_mem.1 O;obtain⟨q,Y,rfl⟩:=oT.1 U;unfold UU at I;split at I
   ·rename_i q' J;exact(wz (e:=[]) J).rf j I
   ·simp[PV.refs]at I
 | _=>simp[Bx.ren,Bx.refs]
theorem QT.app_base:∀(l:List Sh)(Q:QT l)(b:Nat)(ps:List PV)(rows:List Bx)(N:Nat),QT.app l Q b ps rows N->∀ p∈ps,∀ k∈p.refs,b<=k
 | [],Q,b,ps,rows,N,h=>by cases ps<;>cases rows<;>simp[QT.app]at h ⊢
 | s :: l,Q,b,ps,rows,N,h=>by
   by_cases hs:s=.pk
   ·subst hs;exact QT.app_base l Q b ps rows N h.2
   cases ps with
   | nil=>cases s<;>first | exact absurd rfl hs | (simp[QT.app]at h;done)
   | cons p ps=>
     have key:(∃(Q':QT l) (J:Nat) (I:List Bx),b<=J/\QT.app l Q' J ps I N)/\∀ k∈p.refs,b<=k:=by
      cases s<;>(try(exact absurd rfl hs))<;>cases p<;>(try(exact h.elim))<;>(try(simp[QT.app]at h;done))<;>first
       | exact⟨⟨_,_,_,oD _,h⟩,by simp[PV.refs]⟩
       | exact⟨⟨_,_,_,oD _,h.2⟩,by simp[PV.refs]⟩
       | skip
      all_goals
       cases rows with
       | nil=>simp[QT.app]at h
       | cons B rows=>
         cases B<;>first
          | exact⟨⟨_,b+1,_,by omega,h.2⟩,by have:=h.1.1;simp[PV.refs];omega⟩
          | (simp[QT.app]at h;done)
          | (obtain⟨_,_,_,_,_,O,_,h⟩:=h;cases O;exact⟨⟨_,_,_,Nat.le_succ b,h⟩,by simp[PV.refs]⟩)
     obtain⟨⟨Q',J,I,O,U⟩,Y⟩:=key;intro q hq k hk;rcases oH.1 hq with rfl | hq
     ·exact Y k hk
     ·exact oP O (QT.app_base l Q' J ps I N U q hq k hk)
theorem Oz {d:Nat}{e e':Env}{p:PV}(J:p.plainR=true)(I:∀ k∈p.refs,e.at (d+k)=e'.at k):(p.shift d).val1 e=p.val1 e':=by
 cases p
 case sb k z lo n c=>
  have:=I k (by simp[PV.refs])
  simp[PV.shift,PV.val1,PV.cv,this]
 case pb k z i o=>
  have:=I k (by simp[PV.refs])
  simp[PV.shift,PV.val1,PV.cv,this]
 all_goals first
  | rfl
  | simp[PV.plainR]at J
theorem Ts {d:Nat}{e e':Env}{p:PV}(J:p.plainR=true)(I:∀ k∈p.refs,e.at (d+k)=e'.at k):(p.shift d).cv e=p.cv e':=by
 cases p
 case sb k z lo n c=>have:=I k (by simp[PV.refs]);simp[PV.shift,PV.cv,this]
 case pb k z i o=>have:=I k (by simp[PV.refs]);simp[PV.shift,PV.cv,this]
 all_goals first
  | rfl
  | simp[PV.plainR]at J
theorem Ot {d:Nat}{e e':Env}{ps:List PV}{pk:Bool}(J:∀ p∈ps,p.plainR=true)(I:∀ p∈ps,∀ k∈p.refs,e.at (d+k)=e'.at k):(IL pk (ps.map (PV.shift d))).val e=Oq pk e' ps:=by
 cases pk with
 | true=>simp only[IL,Oq,PV.val,PV.val1,PV.cvs_eq,mf];congr 2;exact nH λp h=>Ts (J p h) (I p h)
 | false=>
 have key:∀ p∈ps,(p.shift d).val1 e=p.val1 e':=λp h=>Oz (J p h) (I p h);have one:∀ p,p∈ps->(p.shift d).val e=p.val1 e':=λp h=>by
  rw[<-key p h]
  have:=J p h
  cases p<;>simp[PV.plainR]at this<;>rfl
 rcases ps with _ | ⟨p,_ | ⟨q,ps⟩⟩
 ·rfl
 ·exact one p (by simp)
 ·simp only[oZ,IL,NT,PV.val,Oq,Or];rw[key p (by simp),key q (by simp),mf];congr 4;exact nH λr hr=>key r (by simp[hr])
theorem Ja {d:Nat}:∀ {es:List PV},(∀ p∈es,p.refs=[])->es.map (PV.shift d)=es
 | [],_=>rfl
 | p::es,h=>by
   rw[oZ,Ja λq I=>h q (by simp[I])];congr 1
   have:=h p (by simp)
   cases p<;>first | rfl | simp[PV.refs]at this
theorem Qm {ks:List Nat} {bx:List Bx} {live:Nat->Prop} (I:∀ b,live b->zg av pB e bx b) {p q:PV} {v:Value} (hv:ValOk av w e pB bx v p) (h:zAE ks p=some q) :
  v=q.val (Ay e ks)/\q.Ok w live/\∀ k∈q.refs,k<ks.length:=by
 have J:p.ren ks=some q->p≠.any->v=q.val (Ay e ks)/\q.Ok w live/\∀ k∈q.refs,k<ks.length:=λU h2=>by have Y:=wz (e:=e) U;refine⟨(hv.1.resolve_left h2).trans (Te U),Y.ok _ _ (PV.Ok.mono (λ_ _ _=>rfl) (oD _) (λb _=>I b) p hv.2.1),Y.rf⟩
 have O:pE p=some q->v=q.val (Ay e ks)/\q.Ok w live/\∀ k∈q.refs,k<ks.length:=λU=>by obtain⟨h2,Y,h4⟩:=vB hv U;exact⟨h2.trans (PV.val_congr q (by rw[h4];simp)),Y live I,by rw[h4];simp⟩
 unfold zAE at h;split at h
 ·exact J h (by simp)
 ·split at h
  ·exact O h
  ·rename_i hr;exact J h λhc=>by subst hc;exact hr rfl
theorem GC {ks:List Nat} {bx:List Bx} {live:Nat->Prop} (I:∀ b,live b->zg av pB e bx b):∀ {ps qs:List PV} {vs:List Value},Ru ks ps=some qs->ps.length=vs.length->(∀(i:Nat) (p:PV) (v:Value),ps[i]?=some p->vs[i]?=some v->ValOk av w e pB bx v p) ->
  qs.map (PV.val (Ay e ks))=vs/\∀ q∈qs,q.Ok w live/\∀ k∈q.refs,k<ks.length
 | [],qs,vs,h,J,hv=>by
   simp[Ru]at h;subst h;cases vs with
   | nil=>simp
   | cons=>simp at J
 | p :: ps,qs,vs,h,J,hv=>by
   cases vs with
   | nil=>simp at J
   | cons v vs=>
     simp only[Ru]at h;split at h
     ·rename_i q rs U Y;simp at h;subst h;obtain⟨g1,g2,g3⟩:=Qm I (hv 0 p v rfl rfl) U;obtain⟨g4,g5⟩:=GC I Y (by simpa using J) λi p v hp O=>hv (i+1) p v (by simpa using hp) (by simpa using O);refine⟨by simp[g1,g4],λr hr=>?_⟩;rcases oH.1 hr with rfl | hr
      ·exact⟨g2,g3⟩
      ·exact g5 r hr
     ·cases h
theorem OI (h:Rel av w0 e0 pS pB a w e st) (hpl:∀ k∈pB,k<st.bx.length) {rs:List Sh} {o:Oper} {c:Call} {x:Operand} {args:List PV} {K:St->Prop} (ho:o.op=.call c) (hc:c.callee=.value x)
  (hx:∀ t,x=.tmp t->t∉pS) (ha:args.length=c.args.size) (hav:∀(i:Nat) (p:PV) (y:Operand),args[i]?=some p->c.args[i]?=some y->ValOk av w e pB st.bx (a.eval y) p)
  {f:FuncId} {caps:List PV} (hf:XV (opd st.sl x)=some (f,caps)) (hcapall:∀ p∈caps,p.isCap=true) {ks:List Nat} (hnd:ks.Nodup) (hkpB:∀ k∈ks,k∉pB)
  (hps:∀ i,i∈pS->some i≠o.dst->i∈pS') (hs:SL P rs st o.dst f (args++caps) ks K) {next:Act->World->Prop} {Q:Exit->Act->World->Prop}
  (hn:∀ v w' e' st',K st'->(∃ nb rows N p,st'=St.put (zAd st ks nb rows N) o.dst p)->Rel av w0 e0 pS' pB (a.put o.dst v) w' e' st'->next (a.put o.dst v) w'):o.wp P a w next Q:=by
 have ox:=vu h hx;have ox:=D1 ox.valOk hf;have hxv:=ox.1.resolve_left (by simp);have hcv:a.eval x=.func (.func f) #[] (PV.cvs e caps).toArray:=hxv;have hcok:PV.OkL w (zg av pB e st.bx) caps:=by have:=ox.2.1;simpa only[PV.Ok]using this
 rw[PV.OkL_iff]at hcok;have hcrf:∀ p∈caps,∀ k∈p.refs,k∉pB/\k<st.bx.length:=fun p hp k hk=>ox.2.2 k (by simp only[PV.refs];exact PV.refsL_mem.2 ⟨p,hp,hk⟩);have hcap:∀(i:Nat) (p:PV) (v:Value),(args++caps)[i]?=some p->(c.args.toList.map a.eval++caps.map (PV.cv e))[i]?=some v->ValOk av w e pB st.bx v p:=by
  intro i p v h1 h2;by_cases hi:i<args.length
  ·rw[oO hi]at h1;have hi2:i<c.args.toList.length:=by simp;omega
   rw[oO (by simpa using hi2),oG,oF hi2]at h2;simp at h2;subst h2;exact hav i p _ h1 (by rw[o9 (by omega)])
  ·rw[oS (by omega)]at h1;rw[oS (by simp;omega),oG]at h2;have hidx:i - (c.args.toList.map a.eval).length=i - args.length:=by simp;omega
   rw[hidx,h1]at h2;simp at h2;subst h2;have hm:=oA h1;exact⟨.inr (Cq (hcapall p hm)).symm,hcok p hm,hcrf p hm⟩
 have hln:(args++caps).length=(c.args.toList.map a.eval++caps.map (PV.cv e)).length:=by simp;omega
 unfold SL at hs;split at hs
 rotate_left
 ·exact hs.elim
 rename_i as has hok;simp only[okB,oE,oa,nB,mA]at hok;obtain⟨⟨⟨hok1,hok2⟩,hok3⟩,hnr⟩:=hok;have hok2:=mq hok2;have hnr:=nO hnr;have hbox:∀ k∈ks,∃ B,st.bx[k]?=some B/\B≠.gone/\(B.isArr=true->Et st k=false):=fun k hk=>by
  have:=hok1 k hk
  split at this
  ·rename_i B hB;simp only[oE,mA,nB]at this;refine⟨B,hB,fun hc=>by subst hc;simp[Pk]at this,fun ha=>?_⟩;rcases this.2 with h1 | h1
   ·rw[ha]at h1;cases h1
   ·exact h1
  ·cases this
 have hE:(ks.map some).map (fun u=>Option.bind u e.at)=Ay e ks:=by simp[Ay]
 have hbl:(w8 st ks).length=ks.length:=by simp[w8]
 have hbg:∀(j:Nat) (B':Bx),(w8 st ks)[j]?=some B'->∃ k B,ks[j]?=some k/\st.bx[k]?=some B/\B≠.gone/\B'=B.ren ks:=fun j B' hj=>by
  simp only[w8,oG]at hj;cases hk:ks[j]? with
  | none=>simp[hk]at hj
  | some k=>simp only[hk,oe,nL]at hj;obtain⟨B,h1,h2,_⟩:=hbox k (oA hk);refine⟨k,B,rfl,h1,h2,?_⟩;rw[<-hj,oB,h1];rfl
 obtain⟨hmem,hlv,hlvs⟩:=Pv (us:=ks.map some) (nb:=w8 st ks) (av':=fun b=>av b\/∃ k,k∉ks/\Lives pB e st.bx k b) h.toMem (fun b hb=>hb.imp id fun⟨k,hk⟩=>⟨k,hk.2⟩) (by simp[w8])
  (fun i j k hi hj=>by
   simp only[oG]at hi hj;cases hi2:ks[i]? with
   | none=>simp[hi2]at hi
   | some x=>
     cases hj2:ks[j]? with
     | none=>simp[hj2]at hj
     | some y=>simp[hi2]at hi;simp[hj2]at hj;subst hi;subst hj;obtain⟨i1,i2⟩:=oC.1 hi2;obtain⟨j1,j2⟩:=oC.1 hj2;exact(List.getElem_inj hnd).1 (i2.trans j2.symm))
  (fun j B' hj=>by
   obtain⟨k,B,h1,h2,h3,rfl⟩:=hbg j B' hj;refine .inr ⟨k,B,by simp[h1],hkpB k (oA h1),h2,⟨?_⟩⟩;rw[hE];cases B with
   | var cs=>
     refine .inr (.inr ⟨cs,_,rfl,rfl,by simp,fun i q hq=>?_⟩);rw[oG]at hq;cases hci:cs[i]? with
     | none=>simp[hci]at hq
     | some p=>
       simp only[hci,oe,nL]at hq;unfold UU at hq;split at hq
       ·rename_i q' hq';subst hq;have h4:=wz (e:=e) hq';exact .inr ⟨p,rfl,h4.an.1,h4.cv,h4.ok,h4.ic,by simpa using h4.rf⟩
       ·exact .inl hq.symm
   | gone=>exact absurd rfl h3
   | vd x n=>exact .inr (.inl ⟨rfl,by simp⟩)
   | arr t z es c=>exact .inr (.inl ⟨rfl,by simp⟩))
 rw [hE]at hmem hlv hlvs;obtain⟨hargs,hargok⟩:=GC hlv has (by simp;omega) hcap;have hlt:∀ b,zg av pB e st.bx b->b<w.heap.size:=fun b hb=>hb.elim (fun hb=>by have:=h.avl.lt b hb;have:=h.size;omega) fun⟨k,hk⟩=>Lives.lt h.toMem hk;obtain⟨hcl,hA⟩:=hs w.heap.size h.hN;have hC:=hA (fun b=>av b\/∃ k,k∉ks/\Lives pB e st.bx k b) w (Ay e ks) rfl ⟨fun b hb=>hlt b (hb.imp id fun⟨k,hk⟩=>⟨k,hk.2⟩),h.glob,fun b hb=>.inl (h.avl.ga b hb),fun b hb hc=>by
  simp only[Ay,oT]at hc;obtain⟨k,g1,g2⟩:=hc;obtain⟨B,g3,g4,_⟩:=hbox k g1;exact h.avn k b ⟨hkpB k g1,g2,B,g3,g4⟩ (h.avl.ga b hb),fun x hx hc=>by
  simp only[Ay,oT]at hc;obtain⟨k,g1,g2⟩:=hc;obtain⟨B,g3,g4,_⟩:=hbox k g1;rcases h.own k x.1 ⟨hkpB k g1,g2,B,g3,g4⟩with h5 | ⟨h5,_⟩
  ·have:=h.avl.g.ltb hx;omega
  ·exact h.avl.gb x hx h5⟩ hmem (fun j b hj hb=>by
  obtain⟨k,g1,g2⟩:=hlvs j b hj;simp only[oG]at g1;cases hk:ks[j]? with
  | none=>simp[hk]at g1
  | some k2=>
    simp[hk]at g1;subst g1;rcases hb with hb | ⟨k3,g3,g4⟩
    ·exact h.avn k2 b g2 hb
    ·exact g3 (h.inj k3 k2 b g4 g2 ▸ oA hk)) (fun p hp=>by obtain⟨g1,g2⟩:=hargok p hp;exact⟨g1,by rw[hbl];exact g2⟩)
 have hrun:(execOp a.eval o).run P w=.ok (.enter f (as.map (PV.val (Ay e ks))).toArray) w:=by
  have e1:(as.map (PV.val (Ay e ks))).toArray=c.args.map a.eval++(PV.cvs e caps).toArray:=by rw[hargs,PV.cvs_eq];apply np.1;simp
  rw[e1];obtain⟨dst,op,ty,pos,after,guard⟩:=o;simp only at ho;subst ho;simp only[execOp,resolve,hc,Deferred.ofValue,hcv,invoke];simp[M5 hcl]
 unfold Oper.wp;rw[hrun,Oper.upon_enter];refine hC.mono fun en w' hen=>?_;cases en with
 | panicked=>exact hen.elim
 | outgrown=>exact hen.elim
 | returned v=>
   obtain⟨ps,es,rows,e1,hpn,hd⟩:=hen;have hb0:((w8 st ks).map xl).length=ks.length:=by simp[hbl]
   have hnr':GY rs=IJ P f (rsJ as rs++Rf (w8 st ks)) ((w8 st ks).map xl):=by rw[hnr];simp only[IJ,Kd,VK,oK,X3]
   rw[<-hnr']at hpn;have hq:=hd.q;rw[hb0]at hq;have hq0:=hq;have happ:=QT.app_lam (rsJ as rs++Rf (w8 st ks)) (st.bx.length - ks.length) ks.length _ (ps++es) rows _ (by rw[show st.bx.length - ks.length+ks.length=st.bx.length by omega];exact hq);have hplain:∀ p∈ps,p.plainR=true:=fun p hp=>QT.app_plain _ _ _ _ _ _ hq p (ol _ hp);have hbase:∀ p∈ps,∀ k∈p.refs,ks.length<=k:=fun p hp=>QT.app_base _ _ _ _ _ _ hq p (ol _ hp);obtain⟨harr,hrfs⟩:=QT.app_rows _ _ _ _ _ _ hq;have happ:=happ hd.size;rw[mF,Ja hd.ns]at happ;have e2:(ps.map (PV.shift (st.bx.length - ks.length))++es).take (GY rs)=ps.map (PV.shift (st.bx.length - ks.length)):=List.take_left' (by simp[hpn]);have e3:(ps.map (PV.shift (st.bx.length - ks.length))++es).drop (GY rs)=es:=List.drop_left' (by simp[hpn]);rw[e2,e3]at happ;have hbel:=uL (N:=w'.heap.size) (fun q hq=>by
    rcases oM.1 hq with hq | hq
    rotate_left
    ·exact hd.be q hq
    obtain⟨p,hp,rfl⟩:=oT.1 hq;have hpl:=hplain p hp;have hok:=hd.ok p hp;cases p<;>simp only[PV.shift]<;>simp only[PV.Ok]at hok
    ·exact hok.1.lt
    ·exact hok.1.1.lt) happ
   have hrowm:∀(i:Nat) (B:Bx),rows[i]?=some B->(Lw ((w8 st ks).map xl) es++rows)[ks.length+i]?=some B:=fun i B hi=>by have hl:=(LC ((w8 st ks).map xl) es hd.ns).1;rw[hb0]at hl;rw[oS (by omega),hl];simpa using hi
   have hbel2:=Ab (N:=w'.heap.size) (fun t z ds cc hm b hb=>by
    obtain⟨i,hi⟩:=oQ.1 hm
    have:=hd.m.bo _ _ (hrowm i _ hi) (by simp)
    simp only[D.foot]at hb;obtain⟨y,hy,hby⟩:=zQ.1 hb;exact(this y hy).1.lt b hby) hbel
   obtain⟨ul,ug⟩:=LC ((w8 st ks).map xl) es hd.ns;rw[hb0]at ul;have ug2:∀(j:Nat) (B':Bx),(Lw ((w8 st ks).map xl) es)[j]?=some B'->∃ k B,ks[j]?=some k/\st.bx[k]?=some B/\B'.isArr=B.isArr/\∀ i∈B'.refs,i<ks.length:=fun j B' hj=>by
    obtain⟨B1,g1,g2,g3⟩:=ug j B' hj;rw[oG]at g1;cases hb:(w8 st ks)[j]? with
    | none=>simp[hb]at g1
    | some B2=>
      simp only[hb,oe,nL]at g1;obtain⟨k,B,q1,q2,q3,rfl⟩:=hbg j B2 hb;subst g1;refine⟨k,B,q1,q2,by rw[g3,Di.2,M3],fun i hi=>?_⟩
      have:=g2 i hi
      rw[Di.1]at this;exact Vt i this
   have hkr:=Gr (bx:=st.bx) ks st h;have hlvk:∀ k b,Lives pB e (w9 st.bx ks st).bx k b↔Lives pB e st.bx k b:=fun k b=>by
    obtain⟨g1,g2⟩:=rS (bx:=st.bx) ks st k;constructor
    ·rintro⟨h1,h2,B',h3,h4⟩
     cases hB:st.bx[k]? with
     | none=>rw[g1.2 hB]at h3;cases h3
     | some B=>obtain⟨B'',q1,q2,_⟩:=g2 B hB;rw[q1]at h3;cases h3;exact⟨h1,h2,B,hB,fun hc=>h4 (q2.2 hc)⟩
    ·rintro⟨h1,h2,B,h3,h4⟩
     obtain⟨B',q1,q2,_⟩:=g2 B h3;exact⟨h1,h2,B',q1,fun hc=>h4 (q2.1 hc)⟩
   have hkb:∀(k:Nat) (B:Bx),(w9 st.bx ks st).bx[k]?=some B->∃ B0,st.bx[k]?=some B0/\B.isArr=B0.isArr/\(B=.gone↔B0=.gone):=fun k B hB=>by
    obtain⟨g1,g2⟩:=rS (bx:=st.bx) ks st k;cases hB0:st.bx[k]? with
    | none=>rw[g1.2 hB0]at hB;cases hB
    | some B0=>obtain⟨B'',q1,q2,q3⟩:=g2 B0 hB0;rw[q1]at hB;cases hB;exact⟨B0,rfl,q3,q2⟩
   have hget0:∀ k,((w9 st.bx ks st).bx.getD k .gone).isArr=(st.bx.getD k .gone).isArr:=fun k=>by
    obtain⟨g1,g2⟩:=rS (bx:=st.bx) ks st k;rw[oB,oB];cases hB0:st.bx[k]? with
    | none=>rw[g1.2 hB0]
    | some B0=>obtain⟨B'',q1,_,q3⟩:=g2 B0 hB0;rw[q1];exact q3
   have hio:Io av pB w w' e (w9 st.bx ks st).bx ks e1 (Lw ((w8 st ks).map xl) es) rows:={
    nd:=hnd
    kp:=fun k hk=>by obtain⟨B,g1,g2,_⟩:=hbox k hk;obtain⟨B',q1,q2,_⟩:=(rS (bx:=st.bx) ks st k).2 B g1;exact⟨hkpB k hk,B',q1,fun hc=>g2 (q2.1 hc)⟩
    len:=ul
    el:=by have:=hd.m.el;simp only[oK,ul]at this;omega
    m := by
      have he:(fun b=>av b\/∃ k,k∉ks/\Lives pB e (w9 st.bx ks st).bx k b)=fun b=>av b\/∃ k,k∉ks/\Lives pB e st.bx k b:=by funext b;exact propext (or_congr lO (exists_congr fun k=>and_congr lO (hlvk k b)))
      rw[he];exact hd.m
    arr:=harr
    kind:=fun j k B B' hj hB hB'=>by obtain⟨k2,B2,g1,g2,g3,_⟩:=ug2 j B' hB';rw[hj]at g1;cases g1;obtain⟨B0,q1,q2,_⟩:=hkb k B hB;rw[g2]at q1;cases q1;rw[g3,q2]
    refs:=fun B hB j hj=>by obtain⟨i,hi⟩:=oQ.1 hB;obtain⟨_,_,_,_,_,g⟩:=ug2 i B hi;exact g j hj
    fix:=fun j k B hj hB ha=>by
     obtain⟨B0,q1,q2,_⟩:=hkb k B hB;have hj0:((w8 st ks).map xl)[j]?=some (xl (B0.ren ks)):=by simp[w8,oG,hj,oB,q1]
     have:=hd.fix j _ hj0 (by rw[Di.2,M3,<-q2];exact ha)
     rw[this];have hej:(Ay e ks).at j=e.at k:=by simp[Ay,Env.at,oB,hj]
     rw[hej];have hbr:=h.br k B0 q1 (hkpB k (oA hj));rw[q2]at ha;cases B0 with
     | var cs=>obtain⟨b,_,_,g,_⟩:=hbr;rw[g];rfl
     | vd y n=>obtain⟨b,_,_,g,_⟩:=hbr;rw[g];rfl
     | arr=>cases ha
     | gone=>cases ha
    fr:=fun j b hj=>by
     rcases hd.fresh j b hj with g | ⟨g1,g2⟩
     ·exact .inl g
     ·rw[hb0]at g1;simp only[Ay,oT]at g2;obtain⟨k,g3,g4⟩:=g2;exact .inr ⟨g1,k,g3,g4⟩
    size:=hd.size
    hold:=fun b hb hnk=>hd.old b hb fun hc=>by simp only[Ay,oT]at hc;obtain⟨k,g3,g4⟩:=hc;exact hnk k g3 g4
    fz:=fun b cc t z hb hcc=>hd.fz b cc t z (hb.imp id fun⟨k,g1,g2⟩=>by simp only[Ay,oT];exact⟨k,g1,g2⟩) hcc
    ku:=hd.ku }
   have hpn2:=D4 (bx:=st.bx) ks st;obtain⟨hR,hgood⟩:=ZZ hkr hio
    (fun i p hi k hk hka=>(Ai ks st k hk (by rw[<-hget0];exact hka)).1 i p hi)
    (fun j B hj hjk k hk hka=>(Ai ks st k hk (by rw[<-hget0];exact hka)).2 j B hj)
    (fun k hk hka b hb=>by
     rw[hpn2]at hb;rw[hget0]at hka;obtain⟨B,g1,_,g3⟩:=hbox k hk;rw[oB,g1]at hka
     have:=g3 hka
     unfold Et at this;rw[hb]at this;cases this)
    (by
     rw[hpn2];refine hok3.imp (fun hq k hk hka=>?_) fun hq k hk hka=>?_
     ·rw[hget0]at hka;rcases hq k hk with g | g
      ·rw[hka]at g;cases g
      ·exact mq g
     ·rw[hget0]at hka;rcases hq k hk with g | g
      ·rw[hka]at g;cases g
      ·exact mq g)
   have hkl:=(Gq (bx:=st.bx) ks st).1;have hatr:∀ p∈ps,∀ k∈p.refs,Env.at (Gd ks e1 e++e1.drop ks.length) (st.bx.length - ks.length+k)=e1.at k:=fun p hp k hk=>by have h1:=hbase p hp k hk;rw[Env.at_app,if_neg (by simp[Gd,h.el];omega)];simp only[Gd,om,List.length_range,h.el,Env.at,oB,nU];congr 2;omega
   have hfin:ValOk av w' (Gd ks e1 e++e1.drop ks.length) pB (bxN ks ((Lw ((w8 st ks).map xl) es).map (Bx.mapR fun j=>ks.getD j 0)) 0 (w9 st.bx ks st).bx++rows) v (Za (rsJ as rs) (Lw ((w8 st ks).map xl) es) ks (ps.map (PV.shift (st.bx.length - ks.length)))):=by
    by_cases hbk:∃ j l,rsJ as rs=.bk j::l
    ·obtain⟨j,l,hj⟩:=hbk;have hv:=hd.v;rw[hj]at hv ⊢;simp only[nE,Tf]at hv;simp only[Za];cases hU:(Lw ((w8 st ks).map xl) es)[j]? with
     | none=>exact HW
     | some B=>
       rw[hU]at hv;cases B with
       | arr t z ds cc=>
         simp only at hv ⊢;have hjl:j<ks.length:=by rw[<-ul];exact(oC.1 hU).1
         have hjk:ks[j]?=some (ks.getD j 0):=by rw[oB,oF hjl];rfl
         have hmem:ks.getD j 0∈ks:=oA hjk;obtain⟨B0,g1,g2,_⟩:=hbox _ hmem;have hklt:=(oC.1 g1).1;have hatj:Env.at (Gd ks e1 e++e1.drop ks.length) (ks.getD j 0)=e1.at j:=by rw[Env.at_app,if_pos (by simp[Gd,h.el];exact hklt),Sd (by rw[h.el];exact hklt),TS hnd hjk]
         refine⟨.inr ?_,trivial,fun k hk=>?_⟩
         ·rw[hv];simp only[PV.val,PV.val1,PV.cv,hatj]
         ·simp only[PV.refs,oW]at hk;subst hk;refine⟨hkpB _ hmem,?_⟩;simp only[oK,xn,hkl];omega
       | _=>exact HW
    ·have hnb:∀ j l,rsJ as rs++Rf (w8 st ks)≠.bk j::l:=fun j l hc=>by
      cases hr:rsJ as rs with
      | nil=>rw[hr,oV]at hc;exact WC (w8 st ks) (.bk j) (by rw[hc];simp) j rfl
      | cons s l'=>rw[hr]at hc;simp only[nE,List.cons.injEq]at hc;exact hbk ⟨j,l',by rw[hr,hc.1]⟩
     have hres:Za (rsJ as rs) (Lw ((w8 st ks).map xl) es) ks (ps.map (PV.shift (st.bx.length - ks.length)))=IL (D3 (rsJ as rs)) (ps.map (PV.shift (st.bx.length - ks.length))):=by
      unfold Za;split
      ·rename_i hc;exact absurd ⟨_,_,hc⟩ hbk
      ·rfl
     have hv:=hd.v;rw[HB hnb,Kd]at hv;rw[hres];refine⟨.inr ?_,?_,?_⟩
     ·rw[hv];exact(Ot hplain hatr).symm
     ·refine UE (fun q hq=>?_) (fun hc q hq=>by obtain⟨p,hp,rfl⟩:=oT.1 hq;exact M9 (QT.app_pk (by rw[Kd];exact hc) hq0 p (ol _ hp)));obtain⟨p,hp,rfl⟩:=oT.1 hq;have h1:=hd.ok p hp;have h2:=hplain p hp;have he:(fun b=>av b\/∃ k,k∉ks/\Lives pB e (w9 st.bx ks st).bx k b)=fun b=>av b\/∃ k,k∉ks/\Lives pB e st.bx k b:=by funext b;exact propext (or_congr lO (exists_congr fun k=>and_congr lO (hlvk k b)))
      rw[he]at hgood;cases p<;>simp[PV.plainR]at h2<;>simp only[PV.shift]<;>simp only[PV.Ok]at h1 ⊢
      ·exact hgood _ h1
      ·exact⟨hgood _ h1.1,h1.2⟩
      ·exact⟨hgood _ h1.1,h1.2⟩
     ·intro k hk;obtain⟨q,hq,hkq⟩:=NU k hk;obtain⟨p,hp,rfl⟩:=oT.1 hq;obtain⟨j,hj,rfl⟩:=JZ (hplain p hp) k hkq;have h1:=(hrfs p (ol _ hp)).2.2 j hj;have h2:=hbase p hp j hj;refine⟨fun hc=>by have:=hpl _ hc;omega,?_⟩;simp only[oK,xn,hkl];omega
   exact hn v w' (Gd ks e1 e++e1.drop ks.length) _ hbel2 ⟨_,rows,_,_,rfl⟩ (vC hR hfin hps)
end Go.Proofs.YtlaniepnglheoaaGreat
