/- A call within a call is sound. -/
import Derived.Test.YtlaniepnglheoaaGreatDoorJc
set_option linter.unusedVariables false
set_option linter.unusedSimpArgs false
set_option linter.unusedSectionVars false
namespace Go.Proofs.YtlaniepnglheoaaGreatDoor
open Go
variable [Dfs] {av:Nat->Prop} {P:Program} {w0 w w':World} {e0 e:Env} {pS pS' pB:List Nat} {a:Act} {st st':St}
def tn (bs:List (Option Addr)):List Nat:=bs.filterMap λa=>a.map (·.block)
def PV.plainR:PV->Bool
 | .int ..=>true
 | .bool ..=>true
 | .str ..=>true
 | .sv ..=>true
 | .dg ..=>true
 | .sb ..=>true
 | .dc ..=>true
 | .pb ..=>true
 | _=>false
theorem QT.app_plain:∀(l:List Sh)(Q:QT l)(b:Nat)(ps:List PV)(rows:List Bx)(N:Nat),QT.app l Q b ps rows N->∀ p∈ps,p.plainR=true
 | [],Q,b,ps,rows,N,h=>by cases ps<;>cases rows<;>simp[QT.app]at h ⊢
 | s :: l,Q,b,ps,rows,N,h=>by
   by_cases hs:s=.pk
   ·subst hs;exact QT.app_plain l Q b ps rows N h.2
   cases ps with
   | nil=>cases s<;>first | exact absurd rfl hs | (simp[QT.app]at h;done)
   | cons p ps=>
     have key:(∃(J:QT l) (b':Nat) (I:List Bx),QT.app l J b' ps I N)/\p.plainR=true:=by
      cases s<;>(try(exact absurd rfl hs))<;>cases p<;>(try(exact h.elim))<;>(try(simp[QT.app]at h;done))<;>first
       | exact⟨⟨_,_,_,h⟩,rfl⟩
       | exact⟨⟨_,_,_,h.2⟩,rfl⟩
       | skip
      all_goals
       cases rows with
       | nil=>simp[QT.app]at h
       | cons B rows=>
         cases B<;>first
          | exact⟨⟨_,_,_,h.2⟩,rfl⟩
          | (simp[QT.app]at h;done)
          | (obtain⟨_,_,_,_,_,_,_,h⟩:=h;exact⟨⟨_,_,_,h⟩,rfl⟩)
     obtain⟨⟨J,b',I,O⟩,U⟩:=key;intro q hq;rcases oL.1 hq with rfl | hq
     ·exact U
     ·exact QT.app_plain l J b' ps I N O q hq
theorem Rg {cs:List PV}{ds:List D}(h:JR cs=some ds){live:Nat->Prop}(I:PV.OkL w live cs):PV.val [] (.dg cs.length (.ag ds))=PV.val e (.pg cs):=by obtain⟨_,J⟩:=sX (e:=e) h I;simp[PV.val,PV.val1,D.val,J]
theorem wQ {bx:List Bx}{v:Value}{p q:PV}(hv:ValOk av w e pB bx v p)(h:rr p=some q):v=q.val []/\(∀ live,(∀ b,live b->zY av pB e bx b)->q.Ok w live)/\q.refs=[]:=by
 have U:p≠.any:=λhc=>by subst hc;simp[rr]at h
 have O:=hv.1.resolve_left U;have I:=hv.2.1;have same:p=q->q.refs=[]->v=q.val []/\(∀ live,(∀ b,live b->zY av pB e bx b)->q.Ok w live)/\q.refs=[]:=λY hr=>by subst Y;refine⟨by rw[O];exact(PV.val_congr p (by rw[hr];simp)).symm,λlive hl=>PV.Ok.mono (λ_ _ _=>rfl) (oC _) (λb _=>hl b) p I,hr⟩
 cases p<;>simp[rr]at h
 case pg cs=>
  split at h
  ·rename_i ds J;simp at h;subst h;simp only[PV.Ok]at I;refine⟨by rw[O,Rg J I.1],λlive hl=>?_,rfl⟩;obtain⟨g1,_⟩:=sX (e:=e) J I.1;exact⟨(Good.ag λd hd=>(g1 d hd).1).mono (λ_ _ _=>rfl) (λb _=>hl b),ds,rfl,tA J,λd hd=>(g1 d hd).2⟩
  ·cases h
 all_goals(subst h;exact same rfl rfl)
theorem BZ {p:PV}(h:p.isCap=true):p.val e=p.cv e:=by cases p<;>simp[PV.isCap]at h<;>rfl
theorem L7 {bx:List Bx} (h:Mem av pB w e bx) {k z b:Nat} {B:Bx} {x:D} (hk:bx[k]?=some B) (J:k∉pB) (hc:SN B=some (z,x)) :
  ∃ b c t,e.at k=some b/\w.heap[b]?=some (.cells c t (0,0))/\Lives pB e bx k b/\Good w (zY av pB e bx) x/\eOk z x/\∀(i:Nat) (u:D),x.cells[i]?=some u->c[i]?=some u.cv:=by
 have hr:=h.br k B hk J;have ho:=h.bo k B hk J;cases B with
 | gone=>cases hc
 | arr=>cases hc
 | var cs =>
   obtain⟨b,c,t,h1,h2,h3,h4⟩:=hr;have hl:Lives pB e bx k b:=⟨J,h1,_,hk,by simp⟩
   have aa:=ho.1;refine⟨b,c,t,h1,h2,hl,?_⟩;simp only[SN]at hc;split at hc
   ·rename_i p;split at hc
    ·rename_i d hd;simp at hc;obtain⟨rfl,rfl⟩:=hc;obtain⟨g1,g2,g3,g4,_⟩:=xn (e:=e) hd (PV.OkL_iff.1 aa p (by simp));have ab:d.cells=[d]:=by cases d<;>simp[D.isCell]at g2<;>rfl
     refine⟨g1,by simpa [eOk]using g2,λi u U=>?_⟩;rw[ab]at U;cases i with
     | zero=>
       simp at U;subst U;rcases h4 0 p rfl with h5 | h5
       ·subst h5;simp[pY]at hd
       ·rw[g3];exact h5
     | succ i=>simp at U
    ·cases hc
   ·split at hc
    ·rename_i n ds hd O;simp at hc;obtain⟨rfl,rfl⟩:=hc;obtain⟨g1,g2⟩:=sX (e:=e) O aa;refine⟨Good.ag λd hd=>(g1 d hd).1,?_,λi u U=>?_⟩
     ·simp only[eOk,Nat.add_one_ne_zero,na];exact⟨ds,rfl,by rw[tA O];exact hd,λd hd=>(g1 d hd).2⟩
     ·simp only[D.cells]at U;have ac:i<ds.length:=(oD.1 U).1;have Y:i<cs.length:=by rw[<-tA O];exact ac
      have I:(ds.map D.cv)[i]?=(PV.cvs e cs)[i]?:=by rw[g2]
      rw[oF,U,PV.cvs_eq,oF,oI Y]at I;simp only[oZ,oh]at I;rcases h4 i _ (oI Y)with h5 | h5
      ·exfalso;have:∀(l:List PV) (r:List D),JR l=some r->PV.any∉l:=by
        intro l
        induction l with
        | nil=>intro r _;simp
        | cons q l ih=>
          intro r hr hm;simp only[JR]at hr;split at hr
          ·rename_i d ae h7 h8;rcases oL.1 hm with rfl | hm
           ·simp[pY]at h7
           ·exact ih _ h8 hm
          ·cases hr
       exact this cs ds O (by rw[<-h5];exact mj Y)
      ·rw[I];exact h5
    ·cases hc
 | vd y n=>
   obtain⟨b,c,t,h1,h2,h3,h4,h5⟩:=hr;refine⟨b,c,t,h1,h2,⟨J,h1,_,hk,by simp⟩,?_⟩;simp only[SN]at hc;split at hc
   ·cases hc
   ·simp at hc;obtain⟨rfl,rfl⟩:=hc;exact⟨ho,by simpa [eOk]using h4,h5⟩
def ArgOk (av:Nat->Prop)(pB:List Nat)(w:World)(e:Env)(st:St)(bs:List (Option Addr))(v:Value)(p q:PV):Prop:=
 q.val []=v/\(∀ live,(∀ b,live b->zY av pB e st.bx b/\b∉tn bs)->q.Ok w live)/\q.refs=[]/\(p.isCap=true->q.isCap=true)
theorem uk {a b:List (Option Addr)}:tn (a++b)=tn a++tn b:=by simp[tn]
theorem ArgOk.mono {bs bs':List (Option Addr)}{v:Value}{p q:PV}(h:ArgOk av pB w e st bs v p q)(O:∀ b∈tn bs,b∈tn bs'):ArgOk av pB w e st bs' v p q:=
 ⟨h.1,λlive J=>h.2.1 live λb I=>⟨(J b I).1,λhc=>(J b I).2 (O b hc)⟩,h.2.2⟩
def AS (pB:List Nat)(e:Env)(bx:List Bx)(bs:List (Option Addr)):Prop:=∀ b∈tn bs,∃ k,Lives pB e bx k b
theorem ub {bx:List Bx}{x:Option Addr}(O:∀ ad,x=some ad->zY av pB e bx ad.block):∀ {ps:List PV}{K:Prop},(∀ p∈ps,∃ v,ValOk av w e pB bx v p)->Tt x ps K->K
 | [],K,_,h=>h
 | p::ps,K,hp,h=>by
   have I:=λq hq=>hp q (nu _ hq);obtain⟨v,hv⟩:=hp p (by simp);have U:=hv.2.1;cases p<;>simp only[Tt]at h
   case sv=>refine ub O I (h λy Y ad J hm=>?_);rw[o5]at Y;subst Y;exact U.2 _ hm (O ad J)
   case dg=>refine ub O I (h λy Y ad J hm=>?_);rw[o5]at Y;subst Y;exact U.1.2 _ hm (O ad J)
   all_goals exact ub O I h
theorem qk (h:Mem av pB w e st.bx) {al:List PV} (aa:∀ p∈al,∃ v,ValOk av w e pB st.bx v p):∀(cs:List PV) (K:List D->List (Option Addr)->Prop),(∀ p∈cs,p.Ok w (zY av pB e st.bx)/\∀ k∈p.refs,k∉pB)->Ht st al cs K ->
  ∃ ds bs,K ds bs/\ds.length=cs.length/\ds.map D.cv=PV.cvs e cs/\(∀ d∈ds,d.isCell)/\(∀ live,(∀ b,live b->zY av pB e st.bx b/\b∉tn bs)->∀ d∈ds,Good w live d)/\AS pB e st.bx bs
 | [],K,_,O=>⟨[],[],O,rfl,rfl,by simp,by simp,by simp[AS,tn]⟩
 | p :: ps, K,hc,O=>by
   have ab:=λq hq=>hc q (nu _ hq);have ai:∀ d,pY p=some d->Ht st al ps (λds bs=>K (d::ds) bs)->∃ ds bs,K ds bs/\ds.length=(p::ps).length/\ds.map D.cv=PV.cvs e (p::ps)/\(∀ d∈ds,d.isCell)/\(∀ live,(∀ b,live b->zY av pB e st.bx b/\b∉tn bs)->∀ d∈ds,Good w live d)/\AS pB e st.bx bs:=λd hd O=>by
    obtain⟨g1,g2,g3,_,_⟩:=xn (w:=w) (e:=e) hd (hc p (by simp)).1;obtain⟨ds,bs,k1,k2,k3,k4,k5,k6⟩:=qk h aa ps _ ab O;refine⟨d::ds,bs,k1,by simp[k2],by simp[PV.cvs,k3,g3],λx hx=>?_,λlive hl x hx=>?_,k6⟩
    ·rcases oL.1 hx with rfl | hx
     ·exact g2
     ·exact k4 x hx
    ·rcases oL.1 hx with rfl | hx
     ·exact g1.mono (λ_ _ _=>rfl) λb _ hb=>(hl b hb).1
     ·exact k5 live hl x hx
   simp only[Ht]at O;split at O
   ·rename_i k z lo n c;split at O
    ·rename_i t z' es c' hk;cases hd:decide (z=z'/\lo=0)with
     | false=>rw[hd]at O;exact O.elim
     | true =>
       rw[hd]at O;simp at hd;obtain⟨hz,aj⟩:=hd;subst hz;subst aj;obtain⟨⟨rfl,rfl⟩,O⟩:=O;have U:=(hc (.sb k z 0 es.length c) (by simp)).2 k (by simp[PV.refs]);have hr:=h.br k _ hk U;have ac:=h.bo k _ hk U;have ak:=O ((e.at k).map λb=>⟨b,0,none⟩) (λad J d hd hb=>by
        cases I:e.at k with
        | none=>rw[I]at J;cases J
        | some b=>rw[I]at J;cases J;exact(ac d hd).2 b hb (.inr ⟨k,U,I,_,hk,by simp⟩))
       have ao:=ub (λad J=>by
        cases I:e.at k with
        | none=>rw[I]at J;cases J
        | some b=>rw[I]at J;cases J;exact .inr ⟨k,U,I,_,hk,by simp⟩) aa ak
       obtain⟨ds,bs,k1,k2,k3,k4,k5,k6⟩:=qk h aa ps _ ab ao;refine⟨_,_,k1,by simp[k2],?_,λx hx=>?_,λlive Y x hx=>?_,λb hb=>?_⟩
       ·simp only[nH,PV.cvs,k3];congr 1;cases I:e.at k<;>simp[PV.cv,D.cv,I]
       ·rcases oL.1 hx with rfl | hx
        ·simp[D.isCell]
        ·exact k4 x hx
       ·rcases oL.1 hx with rfl | hx
        ·have ae:∀ x∈es,Good w live x:=λx hx=>(ac x hx).mono (λ_ _ _=>rfl) (λb _ hb=>(Y b hb).1);rcases hr with⟨g1,g2,g3⟩ | ⟨b,cc,g1,g2,g3,g4,g5,g6,g7⟩
         ·subst g2;subst g3;rw[g1];exact BX
         ·rw[g1];refine⟨.sl (λ_=>rfl) g4 g6 (λx hx=>(ae x hx).1) (.inr ⟨cc,t,z00,g2,λi u hu=>by simpa using g7 i u hu⟩),λj hj ah=>?_⟩;simp only[oZ,D.foot]at hj;split at hj
          ·simp at hj
          ·rcases oL.1 hj with rfl | hj
           ·exact(Y _ ah).2 (by simp[tn,g1])
           ·obtain⟨x,hx,aq⟩:=zJ.1 hj;exact(ae x hx).2 j aq ah
        ·exact k5 live (λb hb=>⟨(Y b hb).1,λhc=>(Y b hb).2 (by rw[show(((e.at k).map λb=>(⟨b,0,none⟩:Addr))::bs)=[((e.at k).map λb=>(⟨b,0,none⟩:Addr))]++bs from rfl,uk];exact nO _ hc)⟩) x hx
       ·rw[show(((e.at k).map λb=>(⟨b,0,none⟩:Addr))::bs)=[((e.at k).map λb=>(⟨b,0,none⟩:Addr))]++bs from rfl,uk]at hb;rcases oM.1 hb with hb | hb
        ·cases I:e.at k with
         | none=>simp[tn,I]at hb
         | some b'=>simp[tn,I]at hb;subst hb;exact⟨k,U,I,_,hk,by simp⟩
        ·exact k6 b hb
    ·exact O.elim
   ·split at O
    ·rename_i d hd;exact ai d hd O
    ·exact O.elim
mutual
theorem OP (h:Mem av pB w e st.bx) {al:List PV} (ab:∀ p∈al,∃ v,ValOk av w e pB st.bx v p):∀(p:PV) (v:Value) (K:PV->List (Option Addr)->Prop),ValOk av w e pB st.bx v p->KO st al p K->∃ q bs,K q bs/\ArgOk av pB w e st bs v p q/\AS pB e st.bx bs
 | .sb k z lo n c,v,K,J,I=>by
   simp only[KO]at I
   split at I
   ·rename_i t z' es c' hk
    cases hd:decide (z=z'/\lo=0)with
    | false=>rw[hd]at I;exact I.elim
    | true=>
      rw[hd]at I
      simp at hd
      obtain⟨hz,aw⟩:=hd
      subst hz;subst aw
      obtain⟨⟨rfl,rfl⟩,I⟩:=I
      have ac:=(J.2.2 k (by simp[PV.refs])).1
      have hr:=h.br k _ hk ac
      have aa:=h.bo k _ hk ac
      have ae:=J.1.resolve_left (by simp)
      have ax:=I ((e.at k).map λb=>⟨b,0,none⟩) (λad O d hd hb=>by
       cases U:e.at k with
       | none=>rw[U]at O;cases O
       | some b=>
         rw[U]at O;cases O
         exact(aa d hd).2 b hb (.inr ⟨k,ac,U,_,hk,by simp⟩))
      refine⟨_,_,ub (λad O=>?_) ab ax,⟨?_,λlive Y=>?_,rfl,λ_=>rfl⟩,λb hb=>?_⟩
      ·cases U:e.at k with
       | none=>rw[U]at O;cases O
       | some b=>
         rw[U]at O;cases O
         exact .inr ⟨k,ac,U,_,hk,by simp⟩
      ·rw[ae]
       cases U:e.at k<;>simp[PV.val,PV.val1,PV.cv,U]
      ·have ak:∀ x∈es,Good w live x:=λx hx=>(aa x hx).mono (λ_ _ _=>rfl) (λb _ hb=>(Y b hb).1)
       rcases hr with⟨g1,g2,g3⟩ | ⟨b,cc,g1,g2,g3,g4,g5,g6,g7⟩
       ·subst g2;subst g3
        rw[g1]
        exact BX
       ·rw[g1]
        refine⟨.sl (λ_=>rfl) g4 g6 (λx hx=>(ak x hx).1) (.inr ⟨cc,t,z00,g2,λi u hu=>by simpa using g7 i u hu⟩),λj hj ao=>?_⟩
        simp only[oZ,D.foot]at hj
        split at hj
        ·simp at hj
        ·rcases oL.1 hj with rfl | hj
         ·exact(Y _ ao).2 (by simp[tn,g1])
         ·obtain⟨x,hx,ay⟩:=zJ.1 hj
          exact(ak x hx).2 j ay ao
      ·cases U:e.at k with
       | none=>simp[tn,U]at hb
       | some b'=>
         simp[tn,U]at hb;subst hb
         exact⟨k,ac,U,_,hk,by simp⟩
   ·exact I.elim
 | .pb k z i o,v,K,J,I=>by
   simp only[KO]at I
   split at I
   ·rename_i B hk
    split at I
    ·rename_i z x hd hx
     simp at hd
     obtain⟨rfl,rfl⟩:=hd
     have ac:=(J.2.2 k (by simp[PV.refs])).1
     have ae:=J.1.resolve_left (by simp)
     obtain⟨b,c,t,g1,g2,g3,g4,g5,g6⟩:=L7 (b:=0) h hk ac hx
     refine⟨_,_,ub (λad O=>by cases O;exact .inr ⟨k,g3⟩) ab (I ⟨b,0,none⟩ (λad O d hd hb=>by cases O;simp at hd;subst hd;exact g4.2 _ hb (.inr ⟨k,g3⟩))),⟨?_,λlive Y=>⟨?_,g5,rfl,.inr ⟨c,t,z00,g2,λi u hu=>by simpa using g6 i u hu⟩,λhl=>(Y _ hl).2 (by simp[tn]),Lives.lt h g3⟩,rfl,λ_=>rfl⟩,λb' hb=>?_⟩
     ·rw[ae];simp[PV.val,PV.val1,PV.cv,g1]
     ·exact g4.mono (λ_ _ _=>rfl) λb _ hb=>(Y b hb).1
     ·simp[tn]at hb;subst hb;exact⟨k,g3⟩
    ·exact I.elim
   ·exact I.elim
 | .fn f caps,v,K,J,I=>by
   simp only[KO]at I
   split at I
   ·rename_i ah
    rw[oc]at ah
    have ae:=J.1.resolve_left (by simp)
    have aa:=J.2.1
    simp only[PV.Ok,PV.OkL_iff]at aa
    obtain⟨as,bs,h1,h2,h3,h4⟩:=AV h ab caps (caps.map (PV.cv e)) _ (by simp) (λi p v hp ai=>by
     rw[oF,hp]at ai
     simp at ai;subst ai
     have hm:=oB hp
     exact⟨.inr (BZ (ah p hm)).symm,aa p hm,λk hk=>J.2.2 k (by simp only[PV.refs];exact PV.refsL_mem.2 ⟨p,hm,hk⟩)⟩) I
    have aq:PV.cvs [] as=PV.cvs e caps:=by
     rw[PV.cvs_eq,PV.cvs_eq,<-h2]
     refine nC λq hq=>?_
     obtain⟨i,hi⟩:=oS.1 hq
     obtain⟨p,hp,ho⟩:=h3 i q hi
     exact(BZ (ho.2.2.2 (ah p (oB hp)))).symm
    refine⟨_,_,h1,⟨?_,λlive Y=>?_,?_,λ_=>rfl⟩,h4⟩
    ·rw[ae]
     show(PV.fn f as).cv []=(PV.fn f caps).cv e
     simp only[PV.cv,aq]
    ·simp only[PV.Ok,PV.OkL_iff]
     intro q hq
     obtain⟨i,hi⟩:=oS.1 hq
     obtain⟨p,hp,ho⟩:=h3 i q hi
     exact ho.2.1 live Y
    ·simp only[PV.refs]
     refine nW.2 λk hk=>?_
     obtain⟨q,hq,au⟩:=PV.refsL_mem.1 hk
     obtain⟨i,hi⟩:=oS.1 hq
     obtain⟨p,hp,ho⟩:=h3 i q hi
     rw[ho.2.2.1]at au;simp at au
   ·exact I.elim
 | .any,v,K,J,I=>by simp[KO,rr]at I
 | .int ..,v,K,J,I=>by simp[KO,rr]at I;exact⟨_,_,I,⟨(J.1.resolve_left (by simp)).symm,λ_ _=>trivial,rfl,λ_=>rfl⟩,by simp[AS,tn]⟩
 | .bool ..,v,K,J,I=>by simp[KO,rr]at I;exact⟨_,_,I,⟨(J.1.resolve_left (by simp)).symm,λ_ _=>trivial,rfl,λ_=>rfl⟩,by simp[AS,tn]⟩
 | .str ..,v,K,J,I=>by simp[KO,rr]at I;exact⟨_,_,I,⟨(J.1.resolve_left (by simp)).symm,λ_ _=>trivial,rfl,λ_=>rfl⟩,by simp[AS,tn]⟩
 | .tp ..,v,K,J,I=>by simp[KO,rr]at I
 | .d ..,v,K,J,I=>by simp[KO,rr]at I
 | .lit x,v,K,J,I=>by
   have I:K (.lit x) []:=by simpa [KO,rr]using I
   obtain⟨g1,g2,g3⟩:=wQ J (q:=.lit x) rfl
   exact⟨_,_,I,⟨g1.symm,λlive hl=>g2 live λb hb=>(hl b hb).1,g3,λ_=>rfl⟩,by simp[AS,tn]⟩
 | .sv a z es c,v,K,J,I=>by
   have I:K (.sv a z es c) []:=by simpa [KO,rr]using I
   obtain⟨g1,g2,g3⟩:=wQ J (q:=.sv a z es c) rfl
   exact⟨_,_,I,⟨g1.symm,λlive hl=>g2 live λb hb=>(hl b hb).1,g3,λ_=>rfl⟩,by simp[AS,tn]⟩
 | .dg n x,v,K,J,I=>by
   have I:K (.dg n x) []:=by simpa [KO,rr]using I
   obtain⟨g1,g2,g3⟩:=wQ J (q:=.dg n x) rfl
   exact⟨_,_,I,⟨g1.symm,λlive hl=>g2 live λb hb=>(hl b hb).1,g3,id⟩,by simp[AS,tn]⟩
 | .dc x,v,K,J,I=>by
   have I:K (.dc x) []:=by simpa [KO,rr]using I
   obtain⟨g1,g2,g3⟩:=wQ J (q:=.dc x) rfl
   exact⟨_,_,I,⟨g1.symm,λlive hl=>g2 live λb hb=>(hl b hb).1,g3,λ_=>rfl⟩,by simp[AS,tn]⟩
 | .pd ad z x,v,K,J,I=>by
   have I:K (.pd ad z x) []:=by simpa [KO,rr]using I
   obtain⟨g1,g2,g3⟩:=wQ J (q:=.pd ad z x) rfl
   exact⟨_,_,I,⟨g1.symm,λlive hl=>g2 live λb hb=>(hl b hb).1,g3,λ_=>rfl⟩,by simp[AS,tn]⟩
 | .pg cs,v,K,J,I=>by
   simp only[KO]at I
   have ae:=J.1.resolve_left (by simp)
   have aa:=J.2.1
   simp only[PV.Ok]at aa
   obtain⟨aj,ba⟩:=aa
   rw[PV.OkL_iff]at aj
   cases hn:JR cs with
   | some ds=>
     rw[hn]at I
     obtain⟨g1,g2,g3⟩:=wQ J (q:=.dg cs.length (.ag ds)) (by simp[rr,hn])
     exact⟨_,_,I,⟨g1.symm,λlive hl=>g2 live λb hb=>(hl b hb).1,g3,λhc=>by simp[PV.isCap]at hc⟩,by simp[AS,tn]⟩
   | none=>
     rw[hn]at I
     obtain⟨ds,bs,k1,k2,k3,k4,k5,k6⟩:=qk h ab cs _ (λp hp=>⟨aj p hp,λk hk=>(J.2.2 k (by simp only[PV.refs];exact PV.refsL_mem.2 ⟨p,hp,hk⟩)).1⟩) I
     refine⟨_,_,k1,⟨?_,λlive Y=>⟨⟨.ag λx hx=>(k5 live Y x hx).1,λb hb hl=>?_⟩,ds,rfl,k2,k4⟩,rfl,λhc=>by simp[PV.isCap]at hc⟩,k6⟩
     ·rw[ae]
      simp only[PV.val,PV.val1,D.val,k3]
     ·simp only[D.foot]at hb
      obtain⟨x,hx,az⟩:=zJ.1 hb
      exact(k5 live Y x hx).2 b az hl
theorem AV (h:Mem av pB w e st.bx) {al:List PV} (ab:∀ p∈al,∃ v,ValOk av w e pB st.bx v p):∀(ps:List PV) (vs:List Value) (K:List PV->List (Option Addr)->Prop),ps.length=vs.length->(∀(i:Nat) (p:PV) (v:Value),ps[i]?=some p->vs[i]?=some v->ValOk av w e pB st.bx v p)->PT st al ps K ->
  ∃ as bs,K as bs/\as.map (PV.val [])=vs/\(∀(i:Nat) (q:PV),as[i]?=some q->∃ p,ps[i]?=some p/\ArgOk av pB w e st bs (q.val []) p q)/\AS pB e st.bx bs
 | [],vs,K,hl,_,I=>by
   cases vs with
   | nil=>exact⟨[],[],I,rfl,by simp,by simp[AS,tn]⟩
   | cons=>simp at hl
 | p :: ps,vs,K,hl,J,I=>by
   cases vs with
   | nil=>simp at hl
   | cons v vs=>
     simp only[PT]at I
     obtain⟨q,b1,h1,h2,a6⟩:=OP h ab p v _ (J 0 p v rfl rfl) I
     obtain⟨qs,b2,h3,h4,h5,a7⟩:=AV h ab ps vs _ (by simpa using hl) (λi p v hp ai=>J (i+1) p v (by simpa using hp) (by simpa using ai)) h1
     refine⟨q::qs,b1++b2,h3,by simp[h2.1,h4],λi r hr=>?_,λb hb=>?_⟩
     ·cases i with
      | zero=>
        simp at hr;subst hr
        refine⟨p,rfl,?_⟩
        have:=h2.mono (bs':=b1++b2) λb hb=>by rw[uk];exact oq _ hb
        exact⟨rfl,this.2⟩
      | succ i=>
        obtain⟨p',a8,ho⟩:=h5 i r (by simpa using hr)
        exact⟨p',by simpa using a8,ho.mono λb hb=>by rw[uk];exact nO _ hb⟩
     ·rw[uk]at hb
      rcases oM.1 hb with hb | hb
      ·exact a6 b hb
      ·exact a7 b hb
end
theorem Cu {p:PV}{f:FuncId}{caps:List PV}{bx:List Bx}{v:Value}(I:ValOk av w e pB bx v p)(h:Uu p=some (f,caps)):ValOk av w e pB bx v (.fn f caps):=by
 unfold Uu at h;split at h
 ·cases h;exact I
 ·rename_i g ds;cases h;exact Hf I
 ·cases h
theorem NY {bs:List (Option Addr)}{d:D}(h:Off bs d):∀ b∈tn bs,b∉d.foot:=by
 intro b J;simp only[tn,nf]at J;obtain⟨x,O,I⟩:=J;cases x with
 | none=>simp at I
 | some ad=>simp at I;subst I;exact h _ O ad rfl
def PV.offB (b:Nat):PV->Prop
 | .sv a z es c=>b∉(D.sl a z es c).foot
 | .dg _ x=>b∉x.foot
 | .dc x=>b∉x.foot
 | _=>True
theorem Hz {bs:List (Option Addr)}:∀ {ps:List PV}{K:Prop},Tu bs ps K->K/\∀ b∈tn bs,∀ p∈ps,p.offB b
 | [],K,h=>⟨h,by simp⟩
 | p::ps,K,h=>by
   have step:(∀ b∈tn bs,p.offB b)->Tu bs ps K->K/\∀ b∈tn bs,∀ q∈p::ps,q.offB b:=λJ O=>by
    obtain⟨U,Y⟩:=Hz O;refine⟨U,λb I q hq=>?_⟩;rcases oL.1 hq with rfl | hq
    ·exact J b I
    ·exact Y b I q hq
   cases p<;>simp only[Tu]at h
   case sv=>exact step (NY h.1) h.2
   case dg=>exact step (NY h.1) h.2
   case dc=>exact step (NY h.1) h.2
   all_goals exact step (λ_ _=>trivial) h
theorem H1 {bs:List (Option Addr)}:∀ {rows:List Bx}{K:Prop},XJ bs rows K->K/\∀ b∈tn bs,∀ B∈rows,B.offB b
 | [],K,h=>⟨h,by simp⟩
 | B::rows,K,h=>by
   cases B<;>simp only[XJ]at h
   obtain⟨J,O⟩:=H1 h.2;refine⟨J,λb I B hB=>?_⟩;rcases oL.1 hB with rfl | hB
   ·have:=NY h.1 b I
    simpa [D.foot,Bx.offB]using this
   ·exact O b I B hB
theorem Ow {bs:List (Option Addr)}{ps:List PV}{rows:List Bx}{K:Prop}(h:Xn bs ps rows K):K/\∀ b∈tn bs,(∀ p∈ps,p.offB b)/\∀ B∈rows,B.offB b:=by
 cases bs with
 | nil=>exact⟨h,by simp[tn]⟩
 | cons b bs=>simp only[Xn]at h;obtain⟨J,O⟩:=Hz h;obtain⟨U,Y⟩:=H1 J;exact⟨U,λb I=>⟨O b I,Y b I⟩⟩
theorem vW {N:Nat}:∀ {ps:List PV}{K:Prop},(∀ p∈ps,match p with | .sv a z es c=>Bel N (.sl a z es c) | .dg _ x=>Bel N x | _=>True)->R9 N ps K->K
 | [],K,_,h=>h
 | p::ps,K,O,h=>by
   have J:=O p (by simp);have I:=λq U=>O q (nu _ U);cases p<;>simp only[R9]at h J
   case sv=>exact vW I (h J)
   case dg=>exact vW I (h J)
   all_goals exact vW I h
theorem pD {N:Nat}:∀ {rows:List Bx}{K:Prop},(∀ t z es c,Bx.arr t z es c∈rows->Bel N (.ag es))->Vs N rows K->K
 | [],K,_,h=>h
 | B::rows,K,J,h=>by
   have I:=λt z es c O=>J t z es c (nu _ O);cases B<;>simp only[Vs]at h
   case arr t z es c=>exact pD I (h (J t z es c (by simp)))
   all_goals exact pD I h
theorem K3 {f:FuncId}(h:wL P f=true)(args:Array Value)(w:World):(callFunc f args).run P w=.ok (.enter f args) w:=by
 unfold wL at h;cases I:P.funcs[f]? with
 | none=>simp[I]at h
 | some fn=>
   simp only[I,oK,bne_iff_ne,ne_eq]at h;obtain⟨O,U⟩:=h;cases J:fn.body with
   | none=>simp[J]at U
   | some c=>simp[callFunc,I,O,J]
theorem PV.shift_val1 {d:Nat}{e e':Env}(I:∀ k,Env.at (e++e') (d+k)=e'.at k){p:PV}(J:p.plainR=true):(p.shift d).val1 (e++e')=p.val1 e':=by cases p<;>simp[PV.plainR]at J<;>simp[PV.shift,PV.val1,PV.cv,I]
theorem PV.shift_cv {d:Nat}{e e':Env}(I:∀ k,Env.at (e++e') (d+k)=e'.at k){p:PV}(J:p.plainR=true):(p.shift d).cv (e++e')=p.cv e':=by cases p<;>simp[PV.plainR]at J<;>simp[PV.shift,PV.cv,I]
theorem O6 {d:Nat}{e e':Env}(I:∀ k,Env.at (e++e') (d+k)=e'.at k){ps:List PV}(J:∀ p∈ps,p.plainR=true){pk:Bool}:(G5 pk (ps.map (PV.shift d))).val (e++e')=O5 pk e' ps:=by
 cases pk with
 | true=>simp only[G5,O5,PV.val,PV.val1,PV.cvs_eq,mL];congr 2;exact nC λp h=>PV.shift_cv I (J p h)
 | false=>
 have key:∀ p∈ps,(p.shift d).val1 (e++e')=p.val1 e':=λp h=>PV.shift_val1 I (J p h);have one:∀ p,p∈ps->(p.shift d).val (e++e')=p.val1 e':=λp h=>by
  rw[<-key p h]
  have:=J p h
  cases p<;>simp[PV.plainR]at this<;>rfl
 rcases ps with _ | ⟨p,_ | ⟨q,ps⟩⟩
 ·rfl
 ·exact one p (by simp)
 ·simp only[nH,G5,LN,PV.val,O5,RK];rw[key p (by simp),key q (by simp),mL];congr 4;exact nC λr O=>key r (by simp[O])
theorem H9 {d:Nat}{p:PV}(I:p.plainR=true):∀ k∈(p.shift d).refs,∃ j∈p.refs,k=d+j:=by cases p<;>simp[PV.plainR]at I<;>simp[PV.shift,PV.refs]
theorem LO {pk:Bool}{ps:List PV}:∀ k∈(G5 pk ps).refs,∃ p∈ps,k∈p.refs:=by
 intro k I;cases pk with
 | true=>simp only[G5,PV.refs]at I;exact PV.refsL_mem.1 I
 | false=>
 rcases ps with _ | ⟨p,_ | ⟨q,ps⟩⟩
 ·simp[G5,LN,PV.refs,PV.refsL]at I
 ·exact⟨p,by simp,I⟩
 ·simp only[G5,LN,PV.refs]at I;exact PV.refsL_mem.1 I
theorem Rj {live:Nat->Prop}{pk:Bool}{ps:List PV}(h:∀ p∈ps,p.Ok w live)(hc:pk=true->∀ p∈ps,p.isC):(G5 pk ps).Ok w live:=by
 cases pk with
 | true=>simp only[G5,PV.Ok];exact⟨PV.OkL_iff.2 h,hc rfl⟩
 | false=>
 rcases ps with _ | ⟨p,_ | ⟨q,ps⟩⟩
 ·simp[G5,LN,PV.Ok,PV.OkL]
 ·exact h p (by simp)
 ·simp only[G5,LN,PV.Ok];exact PV.OkL_iff.2 h
theorem K7 {d:Nat}{p:PV}(h:p.isC):(p.shift d).isC:=by cases p<;>exact h
theorem QT.app_pk {l:List Sh}{Q:QT l}{b:Nat}{ps:List PV}{rows:List Bx}{N:Nat}(I:Dz l=true)(h:QT.app l Q b ps rows N):∀ p∈ps,p.isC:=by
 cases l with
 | nil=>simp[Dz]at I
 | cons s l=>cases s<;>simp[Dz]at I;exact QT.app_cells l Q b ps rows N h.1 h.2
theorem PY {N:Nat}{bs:List (Option Addr)}{K:Prop}(h:XV N bs K)(I:vN N bs):K:=by
 unfold XV at h;split at h
 ·exact h
 ·exact h I
def BkR (as J:List PV)(p q:PV):Prop:=q=p\/∃(j:Nat) (a:Option Addr) (z:Nat) (es:List D) (c k z' lo n I:Nat),p=PV.dc (.sl a z es c)/\as[j]?=some (PV.sv a z es c)/\J[j]?=some (PV.sb k z' lo n I)/\q=PV.sb k z' lo n I
theorem E0 {as J:List PV}:∀(l:List Sh)(ps:List PV)(K:List PV->Prop),bkP as J l ps K->∃ qs:List PV,K qs/\qs.length=ps.length/\∀(i:Nat)(q:PV),qs[i]?=some q->∃ p:PV,ps[i]?=some p/\BkR as J p q
 | [],ps,K,h=>⟨ps,h,rfl,λi q hq=>⟨q,hq,.inl rfl⟩⟩
 | s :: l,ps,K,h=>by
   have I:∀(p q:PV) (ps:List PV),BkR as J p q->bkP as J l ps (λqs=>K (q::qs)) ->
     ∃ qs:List PV,K qs/\qs.length=(p::ps).length/\∀(i:Nat) (q:PV),qs[i]?=some q->∃ Y:PV,(p::ps)[i]?=some Y/\BkR as J Y q:=λp q ps O hb=>by
    obtain⟨qs,g1,g2,g3⟩:=E0 l ps _ hb;refine⟨q::qs,g1,by simp[g2],λi r U=>?_⟩;cases i with
    | zero=>simp at U;subst U;exact⟨p,rfl,O⟩
    | succ i=>exact g3 i r (by simpa using U)
   have nil:K []->∃ qs:List PV,K qs/\qs.length=([]:List PV).length/\∀(i:Nat) (q:PV),qs[i]?=some q->∃ p:PV,([]:List PV)[i]?=some p/\BkR as J p q:=λh=>⟨[],h,rfl,by simp⟩
   cases s with
   | pk=>exact E0 l ps K h
   | bk j=>
     cases ps with
     | nil=>exact nil h
     | cons p ps=>
       simp only[bkP]at h;split at h
       ·rename_i x a z es c k z' lo n c' h1 h2;exact I _ _ ps (.inr ⟨j,a,z,es,c,k,z',lo,n,c',by rw[h.1],h1,h2,rfl⟩) h.2
       ·exact I _ _ ps (.inl rfl) h
   | _=>
     cases ps with
     | nil=>exact nil h
     | cons p ps=>exact I p p ps (.inl rfl) h
theorem TS {E:Env}{pk:Bool}{ps qs:List PV}(U:qs.length=ps.length)(h:∀(i:Nat)(q p:PV),qs[i]?=some q->ps[i]?=some p->q.cv E=p.cv E/\q.val1 E=p.val1 E/\q.val E=p.val E):(G5 pk qs).val E=(G5 pk ps).val E:=by
 have O:∀(F:PV->Value),(∀(i:Nat) (q p:PV),qs[i]?=some q->ps[i]?=some p->F q=F p)->qs.map F=ps.map F:=λF Y=>by
  apply nJ;intro i;rw[oF,oF];by_cases hi:i<ps.length
  ·rw[oI hi,oI (by omega:i<qs.length)];simp only[oZ,oh];exact Y i _ _ (oI _) (oI _)
  ·rw[ob (by omega),ob (by omega)]
 cases pk with
 | true=>simp only[G5,PV.val,PV.val1,PV.cvs_eq];rw[O _ λi q p I J=>(h i q p I J).1]
 | false=>
   have h1:=O _ λi q p I J=>(h i q p I J).2.1;rcases ps with _ | ⟨p,_ | ⟨p2,ps⟩⟩<;>rcases qs with _ | ⟨q,_ | ⟨q2,qs⟩⟩<;>simp at U
   ·rfl
   ·exact(h 0 q p rfl rfl).2.2
   ·simp only[G5,LN,PV.val];rw[h1]
theorem L5 (h:Rel av w0 e0 pS pB a w e st) (aw:∀ k∈pB,k<st.bx.length) {sh:FuncId->List Sh} {o:Oper} {c:Call} {x:Operand} {args:List PV} {K:St->Prop} (ho:o.op=.call c) (hc:c.callee=.value x)
  (hx:∀ t,x=.tmp t->t∉pS) (ha:args.length=c.args.size) (bz:∀(i:Nat) (p:PV) (y:Operand),args[i]?=some p->c.args[i]?=some y->ValOk av w e pB st.bx (a.eval y) p)
  (b3:∀ i,i∈pS->some i≠o.dst->i∈pS') (hs:Ui P sh st o.dst x args K) {next:Act->World->Prop} {Q:Exit->Act->World->Prop}
  (hn:∀ v w' e' st',K st'->(∃ rows p N,st'=St.put { st with bx:=st.bx++rows,N:=N } o.dst p)->Rel av w0 e0 pS' pB (a.put o.dst v) w' e' st'->next (a.put o.dst v) w'):o.wp P a w next Q:=by
 have ox:=vC h hx;unfold Ui at hs;split at hs
 rotate_left
 ·exact hs.elim
 rename_i f caps hf;split at hs
 rotate_left
 ·exact hs.elim
 rename_i Y;rw[oc]at Y;have ox:=Cu ox.valOk hf;have b7:=ox.1.resolve_left (by simp);have b8:a.eval x=.func (.func f) #[] (PV.cvs e caps).toArray:=b7;have al:PV.OkL w (zY av pB e st.bx) caps:=by have:=ox.2.1;simpa only[PV.Ok]using this
 rw[PV.OkL_iff]at al;have a6:∀ p∈caps,∀ k∈p.refs,k∉pB/\k<st.bx.length:=λp U k hk=>ox.2.2 k (by simp only[PV.refs];exact PV.refsL_mem.2 ⟨p,U,hk⟩);have ae:∀(i:Nat) (p:PV) (v:Value),(args++caps)[i]?=some p->(c.args.toList.map a.eval++caps.map (PV.cv e))[i]?=some v->ValOk av w e pB st.bx v p:=by
  intro i p v h1 h2;by_cases hi:i<args.length
  ·rw[oQ hi]at h1;have a7:i<c.args.toList.length:=by simp;omega
   rw[oQ (by simpa using a7),oF,oI a7]at h2;simp at h2;subst h2;exact bz i p _ h1 (by rw[ou (by omega)])
  ·rw[oT (by omega)]at h1;rw[oT (by simp;omega),oF]at h2;have a8:i - (c.args.toList.map a.eval).length=i - args.length:=by simp;omega
   rw[a8,h1]at h2;simp at h2;subst h2;have hm:=oB h1;exact⟨.inr (BZ (Y p hm)).symm,al p hm,a6 p hm⟩
 have ba:(args++caps).length=(c.args.toList.map a.eval++caps.map (PV.cv e)).length:=by simp;omega
 have ai:∀ p∈args++caps,∃ v,ValOk av w e pB st.bx v p:=λp U=>by obtain⟨i,hi⟩:=oS.1 U;have ah:=(oD.1 hi).1;exact⟨_,ae i p _ hi (oI (by rw[<-ba];exact ah))⟩
 have bb:=ai;obtain⟨as,bs,hK,bc,hq,ab⟩:=AV h.toMem ai (args++caps) (c.args.toList.map a.eval++caps.map (PV.cv e)) _ (by simp;omega) ae hs;obtain⟨b9,hA⟩:=PY (hK w.heap.size h.hN) λb J ad ca=>by obtain⟨k,hk⟩:=ab ad.block (by simp only[tn,nf];exact⟨b,J,by simp[ca]⟩);exact Lives.lt h.toMem hk
 have ah:∀ b,zY av pB e st.bx b->b<w.heap.size:=λb J=>J.elim (λJ=>by have:=h.avl.lt b J;have:=h.size;omega) λ⟨k,hk⟩=>Lives.lt h.toMem hk;have hC:=hA (λb=>zY av pB e st.bx b/\b∉tn bs) w rfl ⟨λb J=>ah b J.1,h.glob,λb J=>⟨.inl (h.avl.ga b J),λhc=>by obtain⟨k,hk⟩:=ab b hc;exact h.avn k b hk (h.avl.ga b J)⟩,λb J=>by simp,λx hx=>by simp⟩ λp U=>by obtain⟨i,hi⟩:=oS.1 U;obtain⟨p',_,ho⟩:=hq i p hi;exact⟨ho.2.1 _ λb J=>J,ho.2.2.1⟩
 have bd:(execOp a.eval o).run P w=.ok (.enter f (as.map (PV.val [])).toArray) w:=by
  have e1:(as.map (PV.val [])).toArray=c.args.map a.eval++(PV.cvs e caps).toArray:=by rw[bc,PV.cvs_eq];apply nZ.1;simp
  rw[e1];obtain⟨dst,op,ty,pos,after,guard⟩:=o;simp only at ho;subst ho;simp only[execOp,resolve,hc,Deferred.ofValue,b8,invoke];simp[K3 b9]
 unfold Oper.wp;rw[bd,Oper.upon_enter];refine hC.mono λen w' ax=>?_;cases en with
 | panicked=>exact ax.elim
 | outgrown=>exact ax.elim
 | returned v=>
   obtain⟨ps,rows,e',hd⟩:=ax;have bg:=QT.app_lam (sh f) st.bx.length 0 _ ps rows _ hd.q;have I:=QT.app_plain _ _ _ _ _ _ hd.q;obtain⟨bh,bi⟩:=QT.app_rows _ _ _ _ _ _ hd.q;obtain⟨qs,cd,ce,bj⟩:=E0 _ _ _ (bg hd.size);obtain⟨hB,ao⟩:=Ow cd;have cp:∀(P:PV->Prop),(∀ p∈ps,P (p.shift st.bx.length))->∀ q∈ps.map (PV.shift st.bx.length),P q:=λP hP q hq=>by obtain⟨p,U,rfl⟩:=oU.1 hq;exact hP p U
   have aj:∀ q∈qs,(∃ p∈ps,q=p.shift st.bx.length)\/∃ k z' lo n c',q=.sb k z' lo n c'/\k∉pB/\k<st.bx.length:=λq hq=>by
    obtain⟨i,hi⟩:=oS.1 hq;obtain⟨p',cf,h2⟩:=bj i q hi;rcases h2 with rfl | ⟨j,a,z,es,c,k,z',lo,n,c',_,_,ai,rfl⟩
    ·obtain⟨p,U,rfl⟩:=oU.1 (oB cf);exact .inl ⟨p,U,rfl⟩
    ·obtain⟨v,hv⟩:=bb _ (oB ai);exact .inr ⟨k,z',lo,n,c',rfl,hv.2.2 k (by simp[PV.refs])⟩
   have ab:=vW (N:=w'.heap.size) (λq hq=>by
    rcases aj q hq with⟨p,U,rfl⟩ | ⟨k,z',lo,n,c',rfl,_⟩
    ·have aw:=I p U;have O:=hd.ok p U;cases p<;>simp only[PV.shift]<;>simp only[PV.Ok]at O
     ·exact O.1.lt
     ·exact O.1.1.lt
    ·trivial) hB
   have ay:=pD (N:=w'.heap.size) (λt z es cc hm b J=>by
    obtain⟨i,hi⟩:=oS.1 hm
    have:=hd.m.bo i _ hi (by simp)
    simp only[D.foot]at J;obtain⟨y,hy,cg⟩:=zJ.1 J;exact(this y hy).1.lt b cg) ab
   have bm:∀ b,zY av pB e st.bx b->(zY av pB e st.bx b/\b∉tn bs)\/b∈tn bs:=λb J=>by
    by_cases bn:b∈tn bs
    ·exact .inr bn
    ·exact .inl ⟨J,bn⟩
   obtain⟨hR,aa⟩:=VQ h aw bm hd.size hd.old hd.m bh hd.fresh (λb J=>(ao b J).2) hd.fz hd.ku;have bp:∀ k,Env.at (e++e') (st.bx.length+k)=e'.at k:=λk=>by rw[Env.at_app,if_neg (by rw[h.el];omega)];congr 1;rw[h.el];omega
   refine hn v w' (e++e') _ ay ⟨rows,_,_,rfl⟩ (xm hR ⟨.inr ?_,?_,?_⟩ b3)
   ·rw[hd.v,<-O6 bp I];refine(TS ce λi q p' ch cj=>?_).symm;obtain⟨cq,aq,h2⟩:=bj i q ch;rw[cj]at aq;cases aq;rcases h2 with rfl | ⟨j,a0,z,es,c0,k,z',lo,n,c',rfl,bq,au,rfl⟩
    ·exact⟨rfl,rfl,rfl⟩
    ·have ak:∃ vj,(c.args.toList.map a.eval++caps.map (PV.cv e))[j]?=some vj:=⟨_,oI (by rw[<-ba];exact(oD.1 au).1)⟩
     obtain⟨vj,ak⟩:=ak;have bt:=ae j _ _ au ak;have ck:vj=(PV.sv a0 z es c0).val []:=by have h5:=oY (λl=>l[j]?) bc;simp only[oF,bq,oZ]at h5;rw[ak]at h5;exact(oX h5).symm
     have ah:=(bt.2.2 k (by simp[PV.refs])).2;have bv:Env.at (e++e') k=e.at k:=by rw[Env.at_app,if_pos (by rw[h.el];exact ah)]
     have cm:=bt.1.resolve_left (by simp);have e2:(PV.sb k z' lo n c').cv (e++e')=(PV.sb k z' lo n c').cv e:=by simp only[PV.cv,bv]
     have e3:(PV.sb k z' lo n c').cv e=(D.sl a0 z es c0).cv:=by
      have h6:(PV.sb k z' lo n c').val e=(PV.sv a0 z es c0).val []:=by rw[<-cm,ck]
      exact h6
     exact⟨e2.trans e3,e2.trans e3,e2.trans e3⟩
   ·refine Rj (λq hq=>?_) (λcn q hq=>?_)
    ·rcases aj q hq with⟨p,U,rfl⟩ | ⟨k,z',lo,n,c',rfl,_⟩
     ·have bw:=I p U;have O:=hd.ok p U;have ac:∀ b∈tn bs,(p.shift st.bx.length).offB b:=λb J=>(ao b J).1 _ hq;cases p<;>simp[PV.plainR]at bw<;>simp only[PV.shift,PV.Ok,PV.offB]at O ac ⊢
      ·exact aa _ O ac
      ·exact⟨aa _ O.1 ac,O.2⟩
      ·exact⟨aa _ O.1 ac,O.2⟩
     ·trivial
    ·rcases aj q hq with⟨p,U,rfl⟩ | ⟨k,z',lo,n,c',rfl,_⟩
     ·exact K7 (QT.app_pk cn hd.q p U)
     ·trivial
   ·intro k hk;obtain⟨q,co,az⟩:=LO k hk;rcases aj q co with⟨p,U,rfl⟩ | ⟨k',z',lo,n,c',rfl,h1,h2⟩
    ·obtain⟨j,hj,rfl⟩:=H9 (I p U) k az;have cr:=(bi p U).2.2 j hj;refine⟨λhc=>by have:=aw _ hc;omega,by simp;omega⟩
    ·simp[PV.refs]at az;subst az;exact⟨h1,by simp;omega⟩
variable {av:Nat->Prop} {P:Program} {w0 w w':World} {e0 e:Env} {pS pS' pB pB':List Nat} {a:Act} {st st':St}
def Cm:PV->Option Sh
 | .int k _=>some (.int k)
 | .bool _=>some .bool
 | .str _=>some .str
 | .sv _ z _ _=>some (.sl z)
 | _=>none
def Vk:List PV->List Sh
 | []=>[]
 | p::ps=>match Cm p with
   | some s=>s::Vk ps
   | none=>Vk ps
def Rw:List PV->List PV
 | []=>[]
 | p::ps=>match Cm p with
   | some _=>p::Rw ps
   | none=>Rw ps
def Vj:Bx->List Sh
 | .var cs=>Vk cs
 | .vd _ n=>[.ag n]
 | .arr _ z _ _=>[.sl z]
 | .gone=>[]
def PJ:Bx->List PV
 | .var cs=>Rw cs
 | .vd x n=>[.dg n x]
 | .arr _ z es c=>[.sv none z es c]
 | .gone=>[]
def PE (bx:List Bx):List Sh:=bx.flatMap Vj
def GV (bx:List Bx):List PV:=bx.flatMap PJ
def Mo:List PV->List PV->List PV × List PV
 | [],es=>([],es)
 | p :: ps,es=>match Cm p with
   | some _=>match es with
     | q::es=>(q::(Mo ps es).1,(Mo ps es).2)
     | []=>([],[])
   | none=>(p::(Mo ps es).1,(Mo ps es).2)
def OE:Bx->List PV->Bx × List PV
 | .var cs,es=>(.var (Mo cs es).1,(Mo cs es).2)
 | .vd y n,es=>match es with
   | .dg _ x::es=>(.vd x n,es)
   | _=>(.vd y n,[])
 | .arr t z y n,es=>match es with
   | .sv _ _ ds c::es=>(.arr t z ds c,es)
   | _=>(.arr t z y n,[])
 | .gone,es=>(.gone,es)
def PA:List Bx->List PV->List Bx
 | [],_=>[]
 | B::bs,es=>(OE B es).1::PA bs (OE B es).2
def WZ (bs:List Bx):PV->PV
 | .sb k z lo n c=>match bs[k]? with
   | some (.arr _ _ es I)=>.sb k z lo es.length I
   | _=>.any
 | p=>p
def WY (bs:List Bx):Bx->Bx
 | .var cs=>.var (cs.map (WZ bs))
 | B=>B
def KC (bx:List Bx)(es:List PV):List Bx:=(PA bx es).map (WY (PA bx es))
def Vr (N:Nat)(p:PV):Prop:=match p with | .sv a z es c=>Bel N (.sl a z es c) | .dg _ x=>Bel N x | _=>True
theorem PZ {live:Nat->Prop}{p:PV}(h:p.Ok w live):Vr w.heap.size p:=by
 cases p<;>simp only[PV.Ok]at h<;>simp only[Vr]
 ·exact h.1.lt
 ·exact h.1.1.lt
theorem J9:∀ {cs:List PV}{p:PV},p∈Rw cs->p∈cs
 | q::cs,p,h=>by
   simp only[Rw]at h;split at h
   ·rcases oL.1 h with rfl | h
    ·simp
    ·simp[J9 h]
   ·simp[J9 h]
theorem Ta {live:Nat->Prop}{B:Bx}(h:B.Ok w live):∀ p∈PJ B,Vr w.heap.size p:=by
 intro p I;cases B with
 | var cs=>simp only[PJ]at I;exact PZ (PV.OkL_iff.1 h.1 p (J9 I))
 | vd x n=>simp[PJ]at I;subst I;exact Good.lt h
 | arr t z es c=>simp[PJ]at I;subst I;intro b O;simp only[D.foot]at O;obtain⟨y,U,J⟩:=zJ.1 O;exact(h y U).1.lt b J
 | gone=>simp[PJ]at I
theorem OI {pB:List Nat}{bx:List Bx}(h:Mem av pB w e bx)(J:pB=[]){bs:List Bx}(hs:∀ B∈bs,B∈bx):∀ p∈GV bs,Vr w.heap.size p:=by intro p I;simp only[GV,mG]at I;obtain⟨B,O,I⟩:=I;obtain⟨k,U⟩:=oS.1 (hs B O);exact Ta (h.bo k B U (by simp[J])) p I
def RL (full:List Sh)(U:List Bx)(e:Env)(ps:List PV):Value:=match full with
 | .bk j::_=>match U[j]? with
   | some (.arr _ z es c)=>(PV.sb j z 0 es.length c).cv e
   | _=>undef
 | _=>O5 (Dz full) e ps
theorem Fr {full:List Sh}{U:List Bx}{e:Env}{ps:List PV}(h:∀ j l,full≠.bk j::l):RL full U e ps=O5 (Dz full) e ps:=by
 unfold RL;split
 ·exact absurd rfl (h _ _)
 ·rfl
structure DoneB (full:List Sh) (Q:QT full) (av:Nat->Prop) (w0:World) (E:Env) (bx:List Bx) (v:Value) (w:World) (ps es:List PV) (rows:List Bx) (e:Env):Prop where
 q:QT.app full Q bx.length (ps++es) rows w.heap.size
 v:v=RL full (KC bx es) e ps
 m:Mem av [] w e (KC bx es++rows)
 ok:∀ p∈ps,p.Ok w (zY av [] e (KC bx es++rows))
 fix:∀(k:Nat) (B:Bx),bx[k]?=some B->B.isArr=false->e.at k=some ((E.at k).getD 0)
 fresh:∀(k b:Nat),e.at k=some b->w0.heap.size<=b\/(k<bx.length/\some b∈E)
 size:w0.heap.size<=w.heap.size
 old:∀ b,b<w0.heap.size->some b∉E->w.heap[b]?=w0.heap[b]?
 fz:∀(b:Nat) (c:Array Value) (t:TypeId) (z:Nat × Nat),(w0.heap.size<=b\/some b∈E)->w.heap[b]?=some (.cells c t z)->Fz z
 ku:KU w0 w
 ns:∀ p∈es,p.refs=[]
 be:∀ p∈es,Vr w.heap.size p
def V3 (full:List Sh)(Q:QT full)(I:Nat)(av:Nat->Prop)(w0:World)(E:Env)(bx:List Bx):Ending->World->Prop
 | .returned v,w=>∃ ps es rows e,ps.length=I/\DoneB full Q av w0 E bx v w ps es rows e
 | _,_=>False
def YZ (P:Program)(f:FuncId):Nat:=match P.funcs[f]? with
 | some fn=>fn.resultTypes.size
 | none=>0
def Fe (P:Program)(f:FuncId)(full:List Sh)(bx:List Bx):Nat:=match Dz full with
 | true=>full.length - 1 - (PE bx).length
 | false=>YZ P f
def WI:PV->PV
 | .int k _=>.int k 0
 | .bool _=>.bool false
 | .str _=>.str ⟨#[]⟩
 | .sv _ z _ _=>.sv none z [] 0
 | .sb k z lo _ _=>.sb k z lo 0 0
 | p=>p
def xW:Bx->Bx
 | .var cs=>.var (cs.map WI)
 | .vd _ n=>.vd default n
 | .arr t z _ _=>.arr t z [] 0
 | .gone=>.gone
structure BCalls (P:Program) (f:FuncId) (full:List Sh) (args:List PV) (bx:List Bx) (N:Nat) (Q:QT full):Prop where
 c:wL P f=true
 h : ∀(av:Nat->Prop) (w0:World) (E:Env),w0.heap.size=N->Avl av w0 E->Mem av [] w0 E bx->(∀ k b,Lives [] E bx k b->¬av b) ->
   (∀ p∈args,p.Ok w0 (zY av [] E bx)/\∀ k∈p.refs,k<bx.length)->Calls P f (args.map (PV.val E)).toArray w0 (V3 full Q (Fe P f full (bx.map xW)) av w0 E (bx.map xW))
structure BPick (e ne:Env) (m:Nat) (B B':Bx):Prop where
 h : B'=.gone\/(B'=B/\∀ cs,B≠.var cs)\/∃ cs cs',B=.var cs/\B'=.var cs'/\cs'.length=cs.length/\∀(i:Nat) (q:PV),cs'[i]?=some q->q=.any \/
   ∃ p,cs[i]?=some p/\(p=.any->q=.any)/\p.cv e=q.cv ne/\(∀ w live,p.Ok w live->q.Ok w live)/\(p.isC->q.isC)/\∀ r∈q.refs,r<m
theorem NR {us:List (Option Nat)} {nb:List Bx} {av':Nat->Prop} {bx:List Bx} (h:Mem av pB w e bx) (ai:∀ b,av' b->zY av pB e bx b) (hl:nb.length=us.length)
  (aj:∀(i j k:Nat),us[i]?=some (some k)->us[j]?=some (some k)->i=j)
  (hB:∀(j:Nat) (B':Bx),nb[j]?=some B'->(us[j]?=some none/\∃ t z,B'=.arr t z [] 0)\/∃ k B,us[j]?=some (some k)/\k∉pB/\bx[k]?=some B/\BPick e (us.map (·.bind e.at)) us.length B B') :
  Mem av' [] w (us.map (·.bind e.at)) nb/\(∀ b,zY av' [] (us.map (·.bind e.at)) nb b->zY av pB e bx b)/\∀ j b,Lives [] (us.map (·.bind e.at)) nb j b->∃ k,us[j]?=some (some k)/\Lives pB e bx k b:=by
 have ab:∀(j:Nat) (u:Option Nat),us[j]?=some u->Env.at (us.map (·.bind e.at)) j=u.bind e.at:=λj u hj=>by simp[Env.at,oA,hj]
 have J:∀ j b,Lives [] (us.map (·.bind e.at)) nb j b->∃ k,us[j]?=some (some k)/\Lives pB e bx k b:=λj b ⟨_,h2,B',h3,h4⟩=>by
  rcases hB j B' h3 with⟨Y,_⟩ | ⟨k,B,Y,h6,h7,h8⟩
  ·rw[ab j _ Y]at h2;cases h2
  ·rw[ab j _ Y]at h2;refine⟨k,Y,h6,h2,B,h7,λhg=>h4 ?_⟩;subst hg;rcases h8.h with h9 | ⟨h9,_⟩ | ⟨cs,_,h9,_⟩
   ·exact h9
   ·exact h9
   ·cases h9
 have aa:∀ b,zY av' [] (us.map (·.bind e.at)) nb b->zY av pB e bx b:=λb hb=>hb.elim (ai b) λ⟨j,hj⟩=>by obtain⟨k,_,h2⟩:=J j b hj;exact .inr ⟨k,h2⟩
 refine⟨{
  el:=by simp[hl]
  br:=λj B' hj _=>?_
  bo:=λj B' hj _=>?_
  bf:=λj B' hj _ i hi=>?_
  inj:=λi j b hi hj=>?_ },aa,J⟩
 ·rcases hB j B' hj with⟨Y,t,z,rfl⟩ | ⟨k,B,Y,h6,h7,h8⟩
  ·rw[ab j _ Y];exact .inl ⟨rfl,rfl,rfl⟩
  ·rw[ab j _ Y];have h9:=h.br k B h7 h6;rcases h8.h with O | ⟨rfl,O⟩ | ⟨cs,cs',rfl,rfl,ac,U⟩
   ·subst O;exact True.intro
   ·refine h9.congr (λ_ _=>rfl) λi hi=>?_;cases B' with
    | var cs=>exact absurd rfl (O cs)
    | _=>simp[Bx.refs]at hi
   ·obtain⟨b,c,t,g1,g2,g3,g4⟩:=h9;refine⟨b,c,t,g1,g2,g3.trans ac.symm,λi q hq=>?_⟩;rcases U i q hq with I | ⟨p,hp,I,ae,_⟩
    ·exact .inl I
    ·rcases g4 i p hp with h15 | h15
     ·exact .inl (I h15)
     ·exact .inr (by rw[<-ae];exact h15)
 ·rcases hB j B' hj with⟨Y,t,z,rfl⟩ | ⟨k,B,Y,h6,h7,h8⟩
  ·intro x hx;simp at hx
  ·have h9:=(h.bo k B h7 h6).mono (w':=w) (live':=zY av' [] (us.map (·.bind e.at)) nb) (λ_ _ _=>rfl) (oC _) λb _=>aa b;rcases h8.h with O | ⟨rfl,_⟩ | ⟨cs,cs',rfl,rfl,ac,U⟩
   ·subst O;exact True.intro
   ·exact h9
   ·obtain⟨g1,g2⟩:=h9;rw[PV.OkL_iff]at g1;refine⟨PV.OkL_iff.2 λq hq=>?_,λq hq=>?_⟩
    ·obtain⟨i,hi⟩:=oS.1 hq;rcases U i q hi with I | ⟨p,hp,_,_,I,_⟩
     ·subst I;trivial
     ·exact I _ _ (g1 p (oB hp))
    ·obtain⟨i,hi⟩:=oS.1 hq;rcases U i q hi with I | ⟨p,hp,ae,_,_,I,_⟩
     ·exact .inl I
     ·rcases g2 p (oB hp)with h15 | h15
      ·exact .inl (ae h15)
      ·exact .inr (I h15)
 ·refine⟨by simp,?_⟩;rw[hl];rcases hB j B' hj with⟨Y,t,z,rfl⟩ | ⟨k,B,Y,h6,h7,h8⟩
  ·simp[Bx.refs]at hi
  ·rcases h8.h with O | ⟨rfl,O⟩ | ⟨cs,cs',rfl,rfl,ac,U⟩
   ·subst O;simp[Bx.refs]at hi
   ·cases B' with
    | var cs=>exact absurd rfl (O cs)
    | _=>simp[Bx.refs]at hi
   ·simp only[Bx.refs]at hi;obtain⟨q,hq,ah⟩:=PV.refsL_mem.1 hi;obtain⟨n,hn⟩:=oS.1 hq;rcases U n q hn with I | ⟨p,hp,_,_,_,_,I⟩
    ·subst I;simp[PV.refs]at ah
    ·simpa using I i ah
 ·obtain⟨k,h1,h2⟩:=J i b hi;obtain⟨l,h3,h4⟩:=J j b hj;have ak:=h.inj k l b h2 h4;subst ak;exact aj i j k h1 h3
mutual
def PV.mapR (g:Nat->Nat):PV->PV
 | .pb k z i o=>.pb (g k) z i o
 | .sb k z lo n c=>.sb (g k) z lo n c
 | .fn f caps=>.fn f (PV.mapRL g caps)
 | .pg cs=>.pg (PV.mapRL g cs)
 | .tp cs=>.tp (PV.mapRL g cs)
 | p=>p
def PV.mapRL (g:Nat->Nat):List PV->List PV
 | []=>[]
 | p::ps=>PV.mapR g p::PV.mapRL g ps
end
mutual
theorem PV.mapR_refs (g:Nat->Nat):∀ p:PV,(p.mapR g).refs=p.refs.map g
 | .pb ..=>rfl
 | .sb ..=>rfl
 | .fn f caps=>by simp only[PV.mapR,PV.refs];exact PV.mapRL_refs g caps
 | .pg cs=>by simp only[PV.mapR,PV.refs];exact PV.mapRL_refs g cs
 | .tp cs=>by simp only[PV.mapR,PV.refs];exact PV.mapRL_refs g cs
 | .any=>rfl
 | .int ..=>rfl
 | .bool ..=>rfl
 | .str ..=>rfl
 | .lit ..=>rfl
 | .sv ..=>rfl
 | .d ..=>rfl
 | .dc ..=>rfl
 | .dg ..=>rfl
 | .pd ..=>rfl
theorem PV.mapRL_refs (g:Nat->Nat):∀ ps:List PV,PV.refsL (PV.mapRL g ps)=(PV.refsL ps).map g
 | []=>rfl
 | p::ps=>by simp only[PV.mapRL,PV.refsL,PV.mapR_refs g p,PV.mapRL_refs g ps,mr]
end
mutual
theorem PV.mapR_cv {g:Nat->Nat} {e e':Env}:∀ p:PV,(∀ k∈p.refs,e'.at (g k)=e.at k)->(p.mapR g).cv e'=p.cv e
 | .pb k z i o,h=>by simp only[PV.mapR,PV.cv,h k (by simp[PV.refs])]
 | .sb k z lo n c,h=>by simp only[PV.mapR,PV.cv,h k (by simp[PV.refs])]
 | .fn f caps,h=>by simp only[PV.mapR,PV.cv,PV.mapRL_cvs caps h]
 | .pg cs,h=>rfl
 | .tp cs,h=>rfl
 | .any,h=>rfl
 | .int ..,h=>rfl
 | .bool ..,h=>rfl
 | .str ..,h=>rfl
 | .lit ..,h=>rfl
 | .sv ..,h=>rfl
 | .d ..,h=>rfl
 | .dc ..,h=>rfl
 | .dg ..,h=>rfl
 | .pd ..,h=>rfl
theorem PV.mapRL_cvs {g:Nat->Nat} {e e':Env}:∀ ps:List PV,(∀ k∈PV.refsL ps,e'.at (g k)=e.at k)->PV.cvs e' (PV.mapRL g ps)=PV.cvs e ps
 | [],h=>rfl
 | p::ps,h=>by
   simp only[PV.mapRL,PV.cvs,PV.mapR_cv p λk I=>h k (by simp only[PV.refsL];exact oq _ I),PV.mapRL_cvs ps λk I=>h k (by simp only[PV.refsL];exact nO _ I)]
end
theorem PV.mapR_isC {g:Nat->Nat}{p:PV}(h:p.isC):(p.mapR g).isC:=by cases p<;>exact h
theorem PV.mapRL_mem {g:Nat->Nat}{q:PV}:∀ {ps:List PV},q∈PV.mapRL g ps->∃ p∈ps,q=p.mapR g
 | p::ps,h=>by
   simp only[PV.mapRL]at h;rcases oL.1 h with h | h
   ·exact⟨p,by simp,h⟩
   ·obtain⟨r,I,J⟩:=PV.mapRL_mem h;exact⟨r,by simp[I],J⟩
mutual
theorem PV.mapR_ok {g:Nat->Nat} {w:World} {live:Nat->Prop}:∀ p:PV,p.Ok w live->(p.mapR g).Ok w live
 | .fn f caps,h=>by simp only[PV.mapR,PV.Ok]at h ⊢;exact PV.mapRL_ok caps h
 | .pg cs,h=>by
   simp only[PV.mapR,PV.Ok]at h ⊢
   exact⟨PV.mapRL_ok cs h.1,λq I=>by obtain⟨p,J,rfl⟩:=PV.mapRL_mem I;exact PV.mapR_isC (h.2 p J)⟩
 | .tp cs,h=>by simp only[PV.mapR,PV.Ok]at h ⊢;exact PV.mapRL_ok cs h
 | .pb ..,h=>trivial
 | .sb ..,h=>trivial
 | .any,h=>h
 | .int ..,h=>h
 | .bool ..,h=>h
 | .str ..,h=>h
 | .lit ..,h=>h
 | .sv ..,h=>h
 | .d ..,h=>h
 | .dc ..,h=>h
 | .dg ..,h=>h
 | .pd ..,h=>h
theorem PV.mapRL_ok {g:Nat->Nat} {w:World} {live:Nat->Prop}:∀ ps:List PV,PV.OkL w live ps->PV.OkL w live (PV.mapRL g ps)
 | [],h=>trivial
 | p::ps,h=>⟨PV.mapR_ok p h.1,PV.mapRL_ok ps h.2⟩
end
def Bx.mapR (g:Nat->Nat):Bx->Bx
 | .var cs=>.var (cs.map (PV.mapR g))
 | B=>B
theorem Qu:∀ {ks:List Nat}{j k:Nat},ks.Nodup->ks[j]?=some k->pos ks k=some j
 | x::xs,0,k,_,h=>by simp at h;subst h;simp[pos]
 | x::xs,j+1,k,J,h=>by obtain⟨O,U⟩:=nw.1 J;simp only[nj]at h;have I:¬x=k:=λhc=>O (hc ▸ oB h);simp[pos,I,Qu U h]
theorem S5 {ks:List Nat}{k:Nat}(h:pos ks k=none):k∉ks:=by
 induction ks with
 | nil=>simp
 | cons x xs J=>
   simp only[pos]at h;split at h
   ·cases h
   ·rename_i I;split at h
    ·cases h
    ·rename_i O;simp at I;simp only[oL,not_or];exact⟨λhc=>I hc.symm,J O⟩
def bxN (ks:List Nat)(nb:List Bx):Nat->List Bx->List Bx
 | _,[]=>[]
 | i,B::bs=>(match pos ks i with
   | some j=>nb.getD j .gone
   | none=>B)::bxN ks nb (i+1) bs
theorem Ls {ks:List Nat}{nb:List Bx}:∀(bs:List Bx)(i k:Nat),(bxN ks nb i bs)[k]?=(bs[k]?).map λB=>match pos ks (i+k)with
  | some j=>nb.getD j .gone
  | none=>B
 | [],i,k=>rfl
 | B::bs,i,0=>by simp[bxN]
 | B::bs,i,k+1=>by simp only[bxN,nj];rw[Ls bs (i+1) k,show i+1+k=i+(k+1) by omega]
theorem xa {ks:List Nat}{nb:List Bx}:∀(bs:List Bx)(i:Nat),(bxN ks nb i bs).length=bs.length
 | [],i=>rfl
 | B::bs,i=>by simp[bxN,xa bs]
def FL (ks:List Nat)(e1 e:Env):Env:=(List.range e.length).map λk=>match pos ks k with
 | some j=>e1.at j
 | none=>e.at k
theorem QB {ks:List Nat}{e1 e:Env}{k:Nat}(h:k<e.length):(FL ks e1 e).at k=match pos ks k with
  | some j=>e1.at j
  | none=>e.at k:=by
 simp[FL,Env.at,oA,h]
structure Io (av:Nat->Prop) (pB:List Nat) (w w':World) (e:Env) (bx:List Bx) (ks:List Nat) (e1:Env) (nb rows:List Bx):Prop where
 nd:ks.Nodup
 kp:∀ k∈ks,k∉pB/\∃ B,bx[k]?=some B/\B≠.gone
 len:nb.length=ks.length
 el:ks.length<=e1.length
 m:Mem (fun b=>av b\/∃ k,k∉ks/\Lives pB e bx k b) [] w' e1 (nb++rows)
 arr:∀ B∈rows,B.row
 kind:∀(j k:Nat) (B B':Bx),ks[j]?=some k->bx[k]?=some B->nb[j]?=some B'->B'.isArr=B.isArr
 refs:∀ B∈nb,∀ j∈B.refs,j<ks.length
 fix:∀(j k:Nat) (B:Bx),ks[j]?=some k->bx[k]?=some B->B.isArr=false->e1.at j=e.at k
 fr:∀ j b,e1.at j=some b->w.heap.size<=b\/(j<ks.length/\∃ k∈ks,e.at k=some b)
 size:w.heap.size<=w'.heap.size
 hold:∀ b,b<w.heap.size->(∀ k∈ks,e.at k≠some b)->w'.heap[b]?=w.heap[b]?
 fz:∀(b:Nat) (c:Array Value) (t:TypeId) (z:Nat × Nat),(w.heap.size<=b\/∃ k∈ks,e.at k=some b)->w'.heap[b]?=some (.cells c t z)->Fz z
 ku:KU w w'
theorem W1 (h:Rel av w0 e0 pS pB a w e st) {ks:List Nat} {e1:Env} {nb rows:List Bx} (io:Io av pB w w' e st.bx ks e1 nb rows)
  (hS:∀(i:Nat) (p:PV),st.sl[i]?=some p->∀ k∈ks,(st.bx.getD k .gone).isArr=true->k∉p.refs)
  (bz:∀(j:Nat) (B:Bx),st.bx[j]?=some B->j∉ks->∀ k∈ks,(st.bx.getD k .gone).isArr=true->k∉B.refs)
  (bh:∀ k∈ks,(st.bx.getD k .gone).isArr=true->∀ b,st.pins[k]?≠some (some b))
  (bi:(∀ k∈ks,(st.bx.getD k .gone).isArr=true->st.pins.length<=k)\/∀ k∈ks,(st.bx.getD k .gone).isArr=true->k<st.pins.length) :
  Rel av w0 e0 pS pB a w' (FL ks e1 e++e1.drop ks.length) { st with bx:=bxN ks (nb.map (Bx.mapR λj=>ks.getD j 0)) 0 st.bx++rows,N:=w'.heap.size } /\
  ∀ d:D,Good w' (zY (λb=>av b\/∃ k,k∉ks/\Lives pB e st.bx k b) [] e1 (nb++rows)) d->Good w' (zY av pB (FL ks e1 e++e1.drop ks.length) (bxN ks (nb.map (Bx.mapR λj=>ks.getD j 0)) 0 st.bx++rows)) d:=by
 have az:(FL ks e1 e).length=st.bx.length:=by simp[FL,h.el]
 have a8:∀ k,k<st.bx.length->Env.at (FL ks e1 e++e1.drop ks.length) k=match pos ks k with
  | some j=>e1.at j
  | none=>e.at k:=λk J=>by rw[Env.at_app,if_pos (by rw[az];exact J),QB (by rw[h.el];exact J)]
 have ba:∀ i,Env.at (FL ks e1 e++e1.drop ks.length) (st.bx.length+i)=e1.at (ks.length+i):=λi=>by rw[Env.at_app,if_neg (by rw[az];omega),az];simp[Env.at,oA]
 have bj:∀ k∈ks,k<st.bx.length:=λk J=>by obtain⟨_,B,h1,_⟩:=io.kp k J;exact(oD.1 h1).1
 have bm:∀ j k,ks[j]?=some k->pos ks k=some j:=λj k Y=>Qu io.nd Y;have ak:∀ j k,ks[j]?=some k->Env.at (FL ks e1 e++e1.drop ks.length) k=e1.at j:=λj k Y=>by rw[a8 k (bj k (oB Y)),bm j k Y]
 have aq:∀ k,k<st.bx.length->k∉ks->Env.at (FL ks e1 e++e1.drop ks.length) k=e.at k:=λk J hn=>by
  rw[a8 k J];cases hp:pos ks k with
  | none=>rfl
  | some j=>exact absurd (oB (pR hp)) hn
 have ae:∀ k b,k∈ks->e.at k=some b->Lives pB e st.bx k b:=λk b J hb=>by obtain⟨h1,B,h2,h3⟩:=io.kp k J;exact⟨h1,hb,B,h2,h3⟩
 have al:∀(k:Nat) (B':Bx),(bxN ks (nb.map (Bx.mapR λj=>ks.getD j 0)) 0 st.bx++rows)[k]?=some B' ->
   (k∉ks/\st.bx[k]?=some B')\/(∃(j:Nat) (B:Bx),ks[j]?=some k/\nb[j]?=some B/\B'=B.mapR λj=>ks.getD j 0)\/∃ i,k=st.bx.length+i/\rows[i]?=some B':=λk B' J=>by
  by_cases ah:k<st.bx.length
  ·rw[oQ (by rw[xa];exact ah),Ls,oI ah]at J;simp only[oZ,nG,oh]at J;cases hp:pos ks k with
   | none=>rw[hp]at J;exact .inl ⟨S5 hp,by rw[oI ah];exact oY some J⟩
   | some j=>
     rw[hp]at J;have Y:=pR hp;have a6:j<nb.length:=by rw[io.len];exact(oD.1 Y).1
     refine .inr (.inl ⟨j,nb[j],Y,oI a6,?_⟩);have b3:(nb.map (Bx.mapR λj=>ks.getD j 0)).getD j .gone=B':=J;rw[<-b3,oA,oF,oI a6];rfl
  ·rw[oT (by rw[xa];omega),xa]at J;exact .inr (.inr ⟨k - st.bx.length,by omega,J⟩)
 have b7:∀(B:Bx),Bx.mapR (λj=>ks.getD j 0) B≠Bx.gone->B≠Bx.gone:=λB hB hc=>hB (by rw[hc];rfl);have O:∀ k b,Lives pB (FL ks e1 e++e1.drop ks.length) (bxN ks (nb.map (Bx.mapR λj=>ks.getD j 0)) 0 st.bx++rows) k b ->
   (k∉ks/\Lives pB e st.bx k b)\/(∃ j,ks[j]?=some k/\Lives [] e1 (nb++rows) j b)\/∃ i,k=st.bx.length+i/\Lives [] e1 (nb++rows) (ks.length+i) b:=λk b ⟨h1,h2,B',h3,h4⟩=>by
  rcases al k B' h3 with⟨U,I⟩ | ⟨j,B,U,I,g3⟩ | ⟨i,rfl,I⟩
  ·rw[aq k (oD.1 I).1 U]at h2;exact .inl ⟨U,h1,h2,B',I,h4⟩
  ·rw[ak j k U]at h2;have a6:j<nb.length:=(oD.1 I).1;exact .inr (.inl ⟨j,U,by simp,h2,B,by rw[oQ a6];exact I,b7 B (g3 ▸ h4)⟩)
  ·rw[ba]at h2;exact .inr (.inr ⟨i,rfl,by simp,h2,B',by rw[oT (by rw[io.len];omega),io.len];simpa using I,h4⟩)
 have aa:∀ j b,Lives [] e1 (nb++rows) j b->w.heap.size<=b\/(j<ks.length/\∃ k∈ks,e.at k=some b):=λj b Y=>io.fr j b Y.2.1;have au:∀ b,b<w.heap.size->zY av pB (FL ks e1 e++e1.drop ks.length) (bxN ks (nb.map (Bx.mapR λj=>ks.getD j 0)) 0 st.bx++rows) b->zY av pB e st.bx b:=λb hb hl=>hl.elim .inl λ⟨k,J⟩=>by
  rcases O k b J with⟨_,g⟩ | ⟨j,_,g⟩ | ⟨i,_,g⟩
  ·exact .inr ⟨k,g⟩
  ·rcases aa j b g with I | ⟨_,k2,I,g3⟩
   ·omega
   ·exact .inr ⟨k2,ae k2 b I g3⟩
  ·rcases aa _ b g with I | ⟨I,_⟩<;>omega
 have ac:∀ b,zY av pB (FL ks e1 e++e1.drop ks.length) (bxN ks (nb.map (Bx.mapR λj=>ks.getD j 0)) 0 st.bx++rows) b->zY (λb=>av b\/∃ k,k∉ks/\Lives pB e st.bx k b) [] e1 (nb++rows) b:=λb hl=>by
  rcases hl with hl | ⟨k,J⟩
  ·exact .inl (.inl hl)
  rcases O k b J with⟨U,g⟩ | ⟨j,_,g⟩ | ⟨i,_,g⟩
  ·exact .inl (.inr ⟨k,U,g⟩)
  ·exact .inr ⟨j,g⟩
  ·exact .inr ⟨_,g⟩
 have aw:∀ b,b<w.heap.size->¬zY av pB e st.bx b->w'.heap[b]?=w.heap[b]?:=λb hb hn=>io.hold b hb λk J hc=>hn (.inr ⟨k,ae k b J hc⟩);have bc:∀ d:D,Good w' (zY (λb=>av b\/∃ k,k∉ks/\Lives pB e st.bx k b) [] e1 (nb++rows)) d->Good w' (zY av pB (FL ks e1 e++e1.drop ks.length) (bxN ks (nb.map (Bx.mapR λj=>ks.getD j 0)) 0 st.bx++rows)) d:=
  λd hd=>hd.mono (λ_ _ _=>rfl) λb _ hb=>ac b hb
 have ai:∀(R:List Nat),(∀ k∈R,k<st.bx.length)->(∀ k∈ks,(st.bx.getD k .gone).isArr=true->k∉R)->∀ k∈R,Env.at (FL ks e1 e++e1.drop ks.length) k=e.at k:=λR b8 b9 k J=>by
  by_cases ao:k∈ks
  ·obtain⟨j,Y⟩:=oS.1 ao;obtain⟨_,B,U,_⟩:=io.kp k ao;rw[ak j k Y];refine io.fix j k B Y U ?_;cases hb:B.isArr with
   | false=>rfl
   | true=>exact absurd J (b9 k ao (by rw[oA,U];exact hb))
  ·exact aq k (b8 k J) ao
 have bn:∀ q:PV,(∀ j∈q.refs,j<ks.length)->∀ k∈q.refs,Env.at (FL ks e1 e++e1.drop ks.length) (ks.getD k 0)=e1.at k:=λq hq k J=>by have ah:=hq k J;refine ak k _ ?_;rw[oA,oI ah];rfl
 have bd:∀(j:Nat) (B:Bx),st.bx[j]?=some B->j∉pB->j∉ks->∀ b,e.at j=some b->B≠.gone->w'.heap[b]?=w.heap[b]?:=λj B Y hn ca b hb hg=>by
  have hl:Lives pB e st.bx j b:=⟨hn,hb,B,Y,hg⟩
  exact io.hold b (Lives.lt h.toMem hl) λk J hc=>ca (h.inj j k b hl (ae k b J hc) ▸ J)
 have aj:∀(i:Nat) (B:Bx),rows[i]?=some B->(nb++rows)[ks.length+i]?=some B/\B.refs=[]:=λi B hi=>by exact⟨by rw[oT (by rw[io.len];omega),io.len];simpa using hi,(io.arr B (oB hi)).sp.2⟩
 have ax:∀(j:Nat) (B:Bx),nb[j]?=some B->(nb++rows)[j]?=some B:=λj B Y=>by rw[oQ (oD.1 Y).1];exact Y
 refine⟨?_,bc⟩
 exact {
  el:=by
   simp only[oH,az,xa,mW]
   have:=io.m.el
   simp only[oH,io.len]at this;omega
  br := λk B' J hn=>by
   rcases al k B' J with⟨U,I⟩ | ⟨j,B,U,I,rfl⟩ | ⟨i,rfl,I⟩
   ·rw[aq k (oD.1 I).1 U];by_cases hg:B'=.gone
    ·subst hg;exact True.intro
    ·refine(h.br k B' I hn).congr (λb hb=>bd k B' I hn U b hb hg) λi hi=>?_;exact ai B'.refs (λk J=>(h.bf _ B' I hn k J).2) (λk2 ab ha=>bz k B' I U k2 ab ha) i hi
   ·rw [ak j k U];have h1:=io.m.br j B (ax j B I) (by simp);have h2:=io.refs B (oB I);cases B with
    | var cs=>
      obtain⟨b,c,t,q1,q2,q3,q4⟩:=h1;refine⟨b,c,t,q1,q2,by simpa using q3,λi p hp=>?_⟩;rw[oF]at hp;cases a7:cs[i]? with
      | none=>simp[a7]at hp
      | some q=>
        simp only[a7,oZ,oh]at hp;subst hp;have hr:∀ j∈q.refs,j<ks.length:=λj Y=>h2 j (by simp only[Bx.refs];exact PV.refsL_mem.2 ⟨q,oB a7,Y⟩);rcases q4 i q a7 with q5 | q5
        ·subst q5;exact .inl rfl
        ·exact .inr (by rw[PV.mapR_cv q (bn q hr)];exact q5)
    | vd x n=>exact h1
    | arr t z es c=>exact h1
    | gone=>exact True.intro
   ·rw[ba];obtain⟨q1,q2⟩:=aj i B' I;exact(io.m.br _ B' q1 (by simp)).congr (λ_ _=>rfl) λj Y=>by rw[q2]at Y;simp at Y
  bo:=λk B' J hn=>by
   rcases al k B' J with⟨U,I⟩ | ⟨j,B,U,I,rfl⟩ | ⟨i,rfl,I⟩
   ·exact(h.bo k B' I hn).mono aw io.size au
   ·have h1:=(io.m.bo j B (ax j B I) (by simp)).mono (w':=w') (λ_ _ _=>rfl) (oC _) λb _=>ac b;cases B with
    | var cs=>
      obtain⟨q1,q2⟩:=h1;rw[PV.OkL_iff]at q1;refine⟨PV.OkL_iff.2 λp hp=>?_,λp hp=>?_⟩
      ·obtain⟨q,hq,rfl⟩:=oU.1 hp;exact PV.mapR_ok q (q1 q hq)
      ·obtain⟨q,hq,rfl⟩:=oU.1 hp;rcases q2 q hq with q3 | q3
       ·subst q3;exact .inl rfl
       ·exact .inr (PV.mapR_isC q3)
    | vd x n=>exact h1
    | arr t z es c=>exact h1
    | gone=>exact True.intro
   ·exact(io.m.bo _ B' (aj i B' I).1 (by simp)).mono (λ_ _ _=>rfl) (oC _) λb _=>ac b
  bf:=λk B' J hn i hi=>by
   simp only[oH,xa];rcases al k B' J with⟨U,I⟩ | ⟨j,B,U,I,rfl⟩ | ⟨i,rfl,I⟩
   ·have:=h.bf k B' I hn i hi;exact⟨this.1,by omega⟩
   ·cases B with
    | var cs=>
      simp only[Bx.mapR,Bx.refs]at hi;obtain⟨p,hp,bp⟩:=PV.refsL_mem.1 hi;obtain⟨q,hq,rfl⟩:=oU.1 hp;rw[PV.mapR_refs]at bp;obtain⟨r,hr,rfl⟩:=oU.1 bp;have bq:=io.refs _ (oB I) r (by simp only[Bx.refs];exact PV.refsL_mem.2 ⟨q,hq,hr⟩);have bb:ks.getD r 0∈ks:=by rw[oA,oI bq];exact mj bq
      exact⟨(io.kp _ bb).1,by have:=bj _ bb;omega⟩
    | vd x n=>simp[Bx.mapR,Bx.refs]at hi
    | arr t z es c=>simp[Bx.mapR,Bx.refs]at hi
    | gone=>simp[Bx.mapR,Bx.refs]at hi
   ·rw[(aj _ B' I).2]at hi;simp at hi
  inj:=λi j b hi Y=>by
   have key:∀ k j,k∉ks->Lives pB e st.bx k b->¬Lives [] e1 (nb++rows) j b:=λk j J h1 h2=>by
    rcases aa j b h2 with h3 | ⟨_,k2,h3,h4⟩
    ·have:=Lives.lt h.toMem h1;omega
    ·exact J (h.inj k k2 b h1 (ae k2 b h3 h4) ▸ h3)
   rcases O i b hi with⟨U,I⟩ | ⟨i1,U,I⟩ | ⟨i1,U,I⟩
   ·rcases O j b Y with⟨q1,q2⟩ | ⟨j1,q1,q2⟩ | ⟨j1,q1,q2⟩
    ·exact h.inj i j b I q2
    ·exact absurd q2 (key i j1 U I)
    ·exact absurd q2 (key i _ U I)
   ·rcases O j b Y with⟨q1,q2⟩ | ⟨j1,q1,q2⟩ | ⟨j1,q1,q2⟩
    ·exact absurd I (key j i1 q1 q2)
    ·have:=io.m.inj i1 j1 b I q2
     subst this;rw[U]at q1;exact oX q1
    ·have:=io.m.inj _ _ b I q2
     have:=(oD.1 U).1
     omega
   ·rcases O j b Y with⟨q1,q2⟩ | ⟨j1,q1,q2⟩ | ⟨j1,q1,q2⟩
    ·exact absurd I (key j _ q1 q2)
    ·have:=io.m.inj _ _ b I q2
     have:=(oD.1 q1).1
     omega
    ·have:=io.m.inj _ _ b I q2
     omega
  ku:=h.ku.trans io.ku
  size:=oR h.size io.size
  old:=λb hb hn=>by
   refine(io.hold b (o6 hb h.size) λk J hc=>?_).trans (h.old b hb hn);rcases h.own k b (ae k b J hc)with h1 | h1
   ·omega
   ·exact hn h1.1
  fz := λb c t z hb hc=>by
   by_cases ah:b<w.heap.size
   ·by_cases J:∃ k∈ks,e.at k=some b
    ·exact io.fz b c t z (.inr J) hc
    ·rw[io.hold b ah λk ab cc=>J ⟨k,ab,cc⟩]at hc;exact h.fz b c t z hb hc
   ·exact io.fz b c t z (.inl (by omega)) hc
  nd:=h.nd
  sz:=h.sz
  hN:=oC _
  hs:=λi p hi hn=>by
   rcases h.hs i p hi hn with h1 | h1
   ·exact .inl h1
   ·refine .inr (h1.trans (PV.val_congr p λk J=>?_).symm);exact ai p.refs (λk J=>(h.sr i p hi hn k J).2) (λk2 ab ha=>hS i p hi k2 ab ha) k J
  so:=λi p hi hn=>PV.Ok.mono aw io.size au p (h.so i p hi hn)
  sr:=λi p hi hn k J=>by have:=h.sr i p hi hn k J;exact⟨this.1,by simp only[oH,xa];omega⟩
  own := λk b J=>by
   show _\/(_/\k<st.pins.length);rcases O k b J with⟨_,g⟩ | ⟨j,U,g⟩ | ⟨i,_,g⟩
   ·exact h.own k b g
   ·rcases aa j b g with I | ⟨_,k2,I,g3⟩
    ·have:=h.size;exact .inl (by omega)
    ·obtain⟨_,B,q1,q2⟩:=io.kp k (oB U);obtain⟨_,B2,q3,q4⟩:=io.kp k2 I;cases hb:B.isArr with
     | false=>have q5:=io.fix j k B U q1 hb;rw[g.2.1]at q5;exact h.own k b (ae k b (oB U) q5.symm)
     | true=>
       obtain⟨j2,g4⟩:=oS.1 I;have cd:(st.bx.getD k .gone).isArr=true:=by rw[oA,q1];exact hb
       cases ay:B2.isArr with
       | false=>
         have q5:=io.fix j2 k2 B2 g4 q3 ay;have ce:j2<nb.length:=by rw[io.len];exact(oD.1 g4).1
         have bt:nb[j2]?=some nb[j2]:=oI ce;have ab:=io.kind j2 k2 B2 _ g4 q3 bt;have cf:Lives [] e1 (nb++rows) j2 b:=⟨by simp,q5.trans g3,_,ax j2 _ bt,λhc=>by rw[hc,ay]at ab;cases ab⟩
         have:=io.m.inj j j2 b g cf
         subst this;rw[U]at g4;cases g4;rw[q1]at q3;cases q3;rw[hb]at ay;cases ay
       | true=>
         have bv:(st.bx.getD k2 .gone).isArr=true:=by rw[oA,q3];exact ay
         rcases h.own k2 b (ae k2 b I g3)with q5 | ⟨q5,q6⟩
         ·exact .inl q5
         ·rcases bi with q7 | q7
          ·have:=q7 k2 I bv;omega
          ·exact .inr ⟨q5,q7 k (oB U) cd⟩
   ·rcases aa _ b g with I | ⟨I,_⟩
    ·have:=h.size;exact .inl (by omega)
    ·omega
  avl:=h.avl
  avn:=λk b J bg=>by
   have ah:b<w.heap.size:=o6 (h.avl.lt b bg) h.size;rcases O k b J with⟨_,g⟩ | ⟨j,U,g⟩ | ⟨i,_,g⟩
   ·exact h.avn k b g bg
   ·rcases aa j b g with I | ⟨_,k2,I,g3⟩
    ·omega
    ·exact h.avn k2 b (ae k2 b I g3) bg
   ·rcases aa _ b g with I | ⟨I,_⟩<;>omega
  pin:=λk b hb=>by
   have bw:st.pins[k]?=some (some b):=hb;obtain⟨h1,h2⟩:=h.pin k b bw;refine⟨?_,h2⟩;have J:k<st.bx.length:=by rw[<-h.el];exact lN λhc=>by rw[Env.at_ge hc]at h1;cases h1
   rw[<-h1];exact ai [k] (λi hi=>by simp at hi;subst hi;exact J) (λk2 ab ha hc=>by simp at hc;subst hc;exact bh k2 ab ha b bw) k (by simp)
  pit:=h.pit }
variable {av:Nat->Prop} {P:Program} {w0 w w':World} {e0 e:Env} {pS pS' pB pB':List Nat} {a:Act} {st st':St}
def XU (ks:List Nat)(p:PV):Option PV:=match p with
 | .fn f caps=>(PV.fn f caps).ren ks
 | p=>match p.refs with
   | []=>rr p
   | _=>p.ren ks
def PS (ks:List Nat):List PV->Option (List PV)
 | []=>some []
 | p::ps=>match XU ks p,PS ks ps with
   | some q,some qs=>some (q::qs)
   | _,_=>none
def NK:Bx->Bool
 | .gone=>true
 | _=>false
def okB (st:St)(ks:List Nat):Bool:=
 (ks.all fun k=>match st.bx[k]? with
  | some B=>!NK B&&(!B.isArr||!pinned st k)
  | none=>false)&&Nat.ble ks.length st.bx.length &&
 ((ks.all fun k=>!(st.bx.getD k .gone).isArr||Nat.ble st.pins.length k)||ks.all fun k=>!(st.bx.getD k .gone).isArr||Nat.blt k st.pins.length)
def wP (bx:List Bx):List Nat->St->St
 | [],st=>st
 | k::ks,st=>match(bx.getD k .gone).isArr with
   | true=>wP bx ks (st.kill k)
   | false=>wP bx ks st
def wO (st:St)(ks:List Nat):List Bx:=ks.map λk=>(st.bx.getD k .gone).ren ks
def Xj (st:St)(ks:List Nat)(nb rows:List Bx)(N:Nat):St:=
 { wP st.bx ks st with bx:=bxN ks (nb.map (Bx.mapR λj=>ks.getD j 0)) 0 (wP st.bx ks st).bx++rows,N:=N }
def jOf:List PV->Nat
 | .sb k _ _ _ _::_=>k
 | _=>0
def rsJ (as:List PV):List Sh->List Sh
 | .bk _::l=>.bk (jOf as)::l
 | l=>l
def W2 (rs:List Sh)(U:List Bx)(ks:List Nat)(ps:List PV):PV:=match rs with
 | .bk j::_=>match U[j]? with
   | some (.arr _ z es c)=>.sb (ks.getD j 0) z 0 es.length c
   | _=>.any
 | _=>G5 (Dz rs) ps
def FF (rs:List Sh):Nat:=match Dz rs with
 | true=>rs.length - 1
 | false=>rs.length
theorem KA:∀(cs:List PV)(s:Sh),s∈Vk cs->∀ j,s≠.bk j
 | p::cs,s,h,j=>by
   simp only[Vk]at h;split at h
   ·rename_i s' hs;rcases oL.1 h with rfl | h
    ·cases p<;>simp[Cm]at hs<;>subst hs<;>simp
    ·exact KA cs s h j
   ·exact KA cs s h j
theorem Tb (bx:List Bx)(s:Sh)(h:s∈PE bx):∀ j,s≠.bk j:=by
 simp only[PE,mG]at h;obtain⟨B,_,h⟩:=h;cases B with
 | var cs=>exact KA cs s h
 | vd x n=>simp[Vj]at h;subst h;simp
 | arr t z es c=>simp[Vj]at h;subst h;simp
 | gone=>simp[Vj]at h
theorem KB:∀(cs:List PV)(s:Sh),s∈Vk cs->s≠.pk
 | p::cs,s,h=>by
   simp only[Vk]at h;split at h
   ·rename_i s' hs;rcases oL.1 h with rfl | h
    ·cases p<;>simp[Cm]at hs<;>subst hs<;>simp
    ·exact KB cs s h
   ·exact KB cs s h
theorem Tc (bx:List Bx)(s:Sh)(h:s∈PE bx):s≠.pk:=by
 simp only[PE,mG]at h;obtain⟨B,_,h⟩:=h;cases B with
 | var cs=>exact KB cs s h
 | vd x n=>simp[Vj]at h;subst h;simp
 | arr t z es c=>simp[Vj]at h;subst h;simp
 | gone=>simp[Vj]at h
theorem I5 (l:List Sh)(bx:List Bx):Dz (l++PE bx)=Dz l:=by
 cases l with
 | cons s l=>cases s<;>rfl
 | nil=>
   rw[oa];cases h:PE bx with
   | nil=>rfl
   | cons s l=>have:=Tc bx s (by rw[h];simp);cases s<;>first | rfl | exact absurd rfl this
theorem Sd (as:List PV)(rs:List Sh):Dz (rsJ as rs)=Dz rs:=by unfold rsJ;split<;>rfl
theorem VX (as:List PV)(rs:List Sh):(rsJ as rs).length=rs.length:=by unfold rsJ;split<;>simp
def Pz (P:Program)(rs:List Sh)(st:St)(dst:Option Nat)(f:FuncId)(I:List PV)(ks:List Nat)(K:St->Prop):Prop:=
 match PS ks I,okB st ks&&Nat.beq (FF rs) (Fe P f (rs++PE (wO st ks)) ((wO st ks).map xW))with
 | some as,true=>∀ N1,st.N<=N1->BCalls P f (rsJ as rs++PE (wO st ks)) as (wO st ks) N1 (QT.lam (rsJ as rs++PE (wO st ks)) st.bx.length λps rows N2=>N1<=N2 ->
  R9 N2 ps (Vs N2 rows (K (St.put (Xj st ks (KC ((wO st ks).map xW) (ps.drop (FF rs))) rows N2) dst (W2 (rsJ as rs) (KC ((wO st ks).map xW) (ps.drop (FF rs))) ks (ps.take (FF rs)))))))
 | _,_=>False
def WN (P:Program)(rs:List Sh)(st:St)(dst:Option Nat)(x:Operand)(args:List PV)(K:St->Prop):Prop:=
 match Uu (opd st.sl x)with
 | some (f,caps)=>match caps.all PV.isCap with
   | true=>Pz P rs st dst f (args++caps) (Bm st.bx 200 (PV.refsL (args++caps)) []) K
   | false=>False
 | none=>False
theorem NL {k j:Nat}:(st.kill k).bx[j]?=(st.bx[j]?).map (Bx.kill k):=by simp[St.kill]
theorem QW {k:Nat}{B:Bx}:B.kill k=.gone↔B=.gone:=by cases B<;>simp[Bx.kill]
theorem On {k:Nat}{B:Bx}:(B.kill k).isArr=B.isArr:=by cases B<;>rfl
theorem sM {bx:List Bx}:∀(ks:List Nat)(st:St)(j:Nat),((wP bx ks st).bx[j]?=none↔st.bx[j]?=none)/\∀ B,st.bx[j]?=some B->∃ B',(wP bx ks st).bx[j]?=some B'/\(B'=.gone↔B=.gone)/\B'.isArr=B.isArr
 | [],st,j=>⟨lF,λB h=>⟨B,h,lF,rfl⟩⟩
 | k::ks,st,j=>by
   simp only[wP];split
   ·obtain⟨I,J⟩:=sM ks (st.kill k) j;refine⟨by rw[I,NL];simp,λB O=>?_⟩;obtain⟨B',U,Y,h5⟩:=J (B.kill k) (by rw[NL,O];rfl);exact⟨B',U,Y.trans QW,h5.trans On⟩
   ·exact sM ks st j
theorem Cv {bx:List Bx}:∀(ks:List Nat)(st:St),(wP bx ks st).pins=st.pins
 | [],st=>rfl
 | k::ks,st=>by
   simp only[wP];split
   ·rw[Cv ks];rfl
   ·exact Cv ks st
theorem FW {bx:List Bx}:∀(ks:List Nat)(st:St),Rel av w0 e0 pS pB a w e st->Rel av w0 e0 pS pB a w e (wP bx ks st)
 | [],st,h=>h
 | k::ks,st,h=>by
   simp only[wP];split
   ·exact FW ks _ (Nq h (pC k st))
   ·exact FW ks st h
theorem NM {k:Nat}:(∀(i:Nat)(p:PV),(st.kill k).sl[i]?=some p->p=.any\/st.sl[i]?=some p)/\∀(j:Nat)(B:Bx)(r:Nat),(st.kill k).bx[j]?=some B->r∈B.refs->∃ B',st.bx[j]?=some B'/\r∈B'.refs:=by
 constructor
 ·intro i p hi;exact(pC k st).sl i p hi
 ·intro j B r O J;obtain⟨B',U,Y⟩:=(pC k st).bx j B O;refine⟨B',U,?_⟩;rcases Y with rfl | rfl | ⟨cs,cs',rfl,rfl,h3,h4⟩
  ·simp[Bx.refs]at J
  ·exact J
  ·simp only[Bx.refs]at J ⊢;obtain⟨p,hp,I⟩:=PV.refsL_mem.1 J;obtain⟨i,hi⟩:=oS.1 hp;rcases h4 i p hi with rfl | h5
   ·simp[PV.refs]at I
   ·exact PV.refsL_mem.2 ⟨p,oB h5,I⟩
theorem FX {bx:List Bx}:∀(ks:List Nat)(st:St),(∀(i:Nat)(p:PV),(wP bx ks st).sl[i]?=some p->p=.any\/st.sl[i]?=some p)/\∀(j:Nat)(B:Bx)(r:Nat),(wP bx ks st).bx[j]?=some B->r∈B.refs->∃ B',st.bx[j]?=some B'/\r∈B'.refs
 | [],st=>⟨λi p h=>.inr h,λj B r h I=>⟨B,h,I⟩⟩
 | k :: ks,st=>by
   simp only[wP];split
   ·obtain⟨J,O⟩:=FX ks (st.kill k);refine⟨λi p hi=>?_,λj B r U I=>?_⟩
    ·rcases J i p hi with h3 | h3
     ·exact .inl h3
     ·exact NM.1 i p h3
    ·obtain⟨B',h3,Y⟩:=O j B r U I;exact NM.2 j B' r h3 Y
   ·exact FX ks st
theorem pL {bx:List Bx}:∀(ks:List Nat)(st:St),∀ k∈ks,(bx.getD k .gone).isArr=true->(∀(i:Nat)(p:PV),(wP bx ks st).sl[i]?=some p->k∉p.refs)/\∀(j:Nat)(B:Bx),(wP bx ks st).bx[j]?=some B->k∉B.refs
 | [],st,k,h,_=>by simp at h
 | k'::ks,st,k,h,I=>by
   simp only[wP];rcases oL.1 h with rfl | h
   ·rw[I];obtain⟨J,O⟩:=FX (bx:=bx) ks (st.kill k);refine⟨λi p hi hc=>?_,λj B U hc=>?_⟩
    ·rcases J i p hi with rfl | h3
     ·simp[PV.refs]at hc
     ·exact FZ.1 i p h3 hc
    ·obtain⟨B',h3,Y⟩:=O j B k U hc;exact FZ.2 j B' h3 Y
   ·split
    ·exact pL ks _ k h I
    ·exact pL ks st k h I
theorem FV {bx:List Bx}:∀(ks:List Nat)(st:St),(wP bx ks st).bx.length=st.bx.length/\(wP bx ks st).sl.length=st.sl.length
 | [],st=>⟨rfl,rfl⟩
 | k::ks,st=>by
   simp only[wP];split
   ·have:=FV (bx:=bx) ks (st.kill k)
    simpa [St.kill]using this
   ·exact FV ks st
theorem GB:∀(cs es:List PV),(∀ p∈es,p.refs=[])->(∀ q∈(Mo cs es).1,q.refs=[]\/q∈cs)/\∀ q∈(Mo cs es).2,q∈es
 | [],es,h=>⟨by simp[Mo],by simp[Mo]⟩
 | p::ps,es,h=>by
   simp only[Mo];split
   ·cases es with
    | nil=>simp
    | cons q es=>
      obtain⟨I,J⟩:=GB ps es λx hx=>h x (by simp[hx]);refine⟨λx hx=>?_,λx hx=>by simp[J x hx]⟩;rcases oL.1 hx with rfl | hx
      ·exact .inl (h _ (by simp))
      ·exact(I x hx).imp id λO=>by simp[O]
   ·obtain⟨I,J⟩:=GB ps es h;refine⟨λx hx=>?_,J⟩;rcases oL.1 hx with rfl | hx
    ·exact .inr (by simp)
    ·exact(I x hx).imp id λO=>by simp[O]
theorem Rl (B:Bx)(es:List PV)(h:∀ p∈es,p.refs=[]):(∀ j∈(OE B es).1.refs,j∈B.refs)/\(OE B es).1.isArr=B.isArr/\∀ q∈(OE B es).2,q∈es:=by
 cases B with
 | var cs=>
   obtain⟨U,Y⟩:=GB cs es h;refine⟨λj O=>?_,rfl,Y⟩;simp only[OE,Bx.refs]at O ⊢;obtain⟨q,I,J⟩:=PV.refsL_mem.1 O;rcases U q I with h3 | h3
   ·rw[h3]at J;simp at J
   ·exact PV.refsL_mem.2 ⟨q,h3,J⟩
 | vd y n=>
   simp only[OE];split
   ·exact⟨by simp[Bx.refs],rfl,λq I=>by simp[I]⟩
   ·exact⟨by simp[Bx.refs],rfl,by simp⟩
 | arr t z y n=>
   simp only[OE];split
   ·exact⟨by simp[Bx.refs],rfl,λq I=>by simp[I]⟩
   ·exact⟨by simp[Bx.refs],rfl,by simp⟩
 | gone=>exact⟨by simp[OE,Bx.refs],rfl,λq I=>I⟩
theorem OD:∀(bs:List Bx)(es:List PV),(∀ p∈es,p.refs=[])->(PA bs es).length=bs.length/\∀(j:Nat)(B':Bx),(PA bs es)[j]?=some B'->∃ B,bs[j]?=some B/\(∀ i∈B'.refs,i∈B.refs)/\B'.isArr=B.isArr
 | [],es,h=>⟨rfl,by simp[PA]⟩
 | B::bs,es,h=>by
   obtain⟨J,O,U⟩:=Rl B es h;obtain⟨Y,h5⟩:=OD bs (OE B es).2 λp hp=>h p (U p hp);refine⟨by simp[PA,Y],λj B' I=>?_⟩;cases j with
   | zero=>simp[PA]at I;subst I;exact⟨B,rfl,J,O⟩
   | succ j=>simp only[PA,nj]at I ⊢;exact h5 j B' I
theorem JV (bs:List Bx)(es:List PV)(h:∀ p∈es,p.refs=[]):(KC bs es).length=bs.length/\∀(j:Nat)(B':Bx),(KC bs es)[j]?=some B'->∃ B,bs[j]?=some B/\(∀ i∈B'.refs,i∈B.refs)/\B'.isArr=B.isArr:=by
 obtain⟨h1,h2⟩:=OD bs es h;refine⟨by simp[KC,h1],λj B' J=>?_⟩;simp only[KC,oF]at J;cases O:(PA bs es)[j]? with
 | none=>simp[O]at J
 | some U=>
   simp only[O,oZ,oh]at J;obtain⟨B,Y,h4,h5⟩:=h2 j U O;subst J;cases U with
   | var cs=>
     refine⟨B,Y,λi hi=>h4 i ?_,h5⟩;simp only[WY,Bx.refs]at hi ⊢;obtain⟨p,hp,I⟩:=PV.refsL_mem.1 hi;obtain⟨q,hq,rfl⟩:=oU.1 hp;refine PV.refsL_mem.2 ⟨q,hq,?_⟩;cases q<;>simp only[WZ]at I<;>try exact I
     split at I
     ·exact I
     ·simp[PV.refs]at I
   | _=>exact⟨B,Y,h4,h5⟩
theorem CX {B:Bx}:(xW B).refs=B.refs/\(xW B).isArr=B.isArr:=by
 cases B with
 | var cs=>
   refine⟨?_,rfl⟩;simp only[xW,Bx.refs]
   induction cs with
   | nil=>rfl
   | cons p cs I=>simp only[nH,PV.refsL,I];congr 1;cases p<;>rfl
 | _=>exact⟨rfl,rfl⟩
theorem K1 {ks:List Nat}{B:Bx}:(B.ren ks).isArr=B.isArr:=by cases B<;>rfl
theorem TE {ks:List Nat}{B:Bx}:∀ j∈(B.ren ks).refs,j<ks.length:=by
 cases B with
 | var cs=>
   intro j O;simp only[Bx.ren,Bx.refs]at O;obtain⟨p,U,I⟩:=PV.refsL_mem.1 O;obtain⟨q,Y,rfl⟩:=oU.1 U;unfold Rz at I;split at I
   ·rename_i q' J;exact(wM (e:=[]) J).rf j I
   ·simp[PV.refs]at I
 | _=>simp[Bx.ren,Bx.refs]
theorem QT.app_base:∀(l:List Sh)(Q:QT l)(b:Nat)(ps:List PV)(rows:List Bx)(N:Nat),QT.app l Q b ps rows N->∀ p∈ps,∀ k∈p.refs,b<=k
 | [],Q,b,ps,rows,N,h=>by cases ps<;>cases rows<;>simp[QT.app]at h ⊢
 | s :: l,Q,b,ps,rows,N,h=>by
   by_cases hs:s=.pk
   ·subst hs;exact QT.app_base l Q b ps rows N h.2
   cases ps with
   | nil=>cases s<;>first | exact absurd rfl hs | (simp[QT.app]at h;done)
   | cons p ps=>
     have key:(∃(J:QT l) (b':Nat) (I:List Bx),b<=b'/\QT.app l J b' ps I N)/\∀ k∈p.refs,b<=k:=by
      cases s<;>(try(exact absurd rfl hs))<;>cases p<;>(try(exact h.elim))<;>(try(simp[QT.app]at h;done))<;>first
       | exact⟨⟨_,_,_,oC _,h⟩,by simp[PV.refs]⟩
       | exact⟨⟨_,_,_,oC _,h.2⟩,by simp[PV.refs]⟩
       | skip
      all_goals
       cases rows with
       | nil=>simp[QT.app]at h
       | cons B rows=>
         cases B<;>first
          | exact⟨⟨_,b+1,_,by omega,h.2⟩,by have:=h.1.1;simp[PV.refs];omega⟩
          | (simp[QT.app]at h;done)
          | (obtain⟨_,_,_,_,_,O,_,h⟩:=h;cases O;exact⟨⟨_,_,_,Nat.le_succ b,h⟩,by simp[PV.refs]⟩)
     obtain⟨⟨J,b',I,O,Y⟩,hp⟩:=key;intro q hq k U;rcases oL.1 hq with rfl | hq
     ·exact hp k U
     ·exact oR O (QT.app_base l J b' ps I N Y q hq k U)
theorem Mg {d:Nat}{e e':Env}{p:PV}(J:p.plainR=true)(I:∀ k∈p.refs,e.at (d+k)=e'.at k):(p.shift d).val1 e=p.val1 e':=by
 cases p
 case sb k z lo n c=>
  have:=I k (by simp[PV.refs])
  simp[PV.shift,PV.val1,PV.cv,this]
 case pb k z i o=>
  have:=I k (by simp[PV.refs])
  simp[PV.shift,PV.val1,PV.cv,this]
 all_goals first
  | rfl
  | simp[PV.plainR]at J
theorem RV {d:Nat}{e e':Env}{p:PV}(J:p.plainR=true)(I:∀ k∈p.refs,e.at (d+k)=e'.at k):(p.shift d).cv e=p.cv e':=by
 cases p
 case sb k z lo n c=>have:=I k (by simp[PV.refs]);simp[PV.shift,PV.cv,this]
 case pb k z i o=>have:=I k (by simp[PV.refs]);simp[PV.shift,PV.cv,this]
 all_goals first
  | rfl
  | simp[PV.plainR]at J
theorem Mb {d:Nat}{e e':Env}{ps:List PV}{pk:Bool}(J:∀ p∈ps,p.plainR=true)(I:∀ p∈ps,∀ k∈p.refs,e.at (d+k)=e'.at k):(G5 pk (ps.map (PV.shift d))).val e=O5 pk e' ps:=by
 cases pk with
 | true=>simp only[G5,O5,PV.val,PV.val1,PV.cvs_eq,mL];congr 2;exact nC λp h=>RV (J p h) (I p h)
 | false=>
 have key:∀ p∈ps,(p.shift d).val1 e=p.val1 e':=λp h=>Mg (J p h) (I p h);have one:∀ p,p∈ps->(p.shift d).val e=p.val1 e':=λp h=>by
  rw[<-key p h]
  have:=J p h
  cases p<;>simp[PV.plainR]at this<;>rfl
 rcases ps with _ | ⟨p,_ | ⟨q,ps⟩⟩
 ·rfl
 ·exact one p (by simp)
 ·simp only[nH,G5,LN,PV.val,O5,RK];rw[key p (by simp),key q (by simp),mL];congr 4;exact nC λr O=>key r (by simp[O])
theorem IA {d:Nat}:∀ {es:List PV},(∀ p∈es,p.refs=[])->es.map (PV.shift d)=es
 | [],_=>rfl
 | p::es,h=>by
   rw[nH,IA λq I=>h q (by simp[I])];congr 1
   have:=h p (by simp)
   cases p<;>first | rfl | simp[PV.refs]at this
theorem OQ {ks:List Nat} {bx:List Bx} {live:Nat->Prop} (I:∀ b,live b->zY av pB e bx b) {p q:PV} {v:Value} (hv:ValOk av w e pB bx v p) (h:XU ks p=some q) :
  v=q.val (pj e ks)/\q.Ok w live/\∀ k∈q.refs,k<ks.length:=by
 have J:p.ren ks=some q->p≠.any->v=q.val (pj e ks)/\q.Ok w live/\∀ k∈q.refs,k<ks.length:=λU h2=>by have Y:=wM (e:=e) U;refine⟨(hv.1.resolve_left h2).trans (RJ U),Y.ok _ _ (PV.Ok.mono (λ_ _ _=>rfl) (oC _) (λb _=>I b) p hv.2.1),Y.rf⟩
 have O:rr p=some q->v=q.val (pj e ks)/\q.Ok w live/\∀ k∈q.refs,k<ks.length:=λU=>by obtain⟨h2,Y,h4⟩:=wQ hv U;exact⟨h2.trans (PV.val_congr q (by rw[h4];simp)),Y live I,by rw[h4];simp⟩
 unfold XU at h;split at h
 ·exact J h (by simp)
 ·split at h
  ·exact O h
  ·rename_i hr;exact J h λhc=>by subst hc;exact hr rfl
theorem Ez {ks:List Nat} {bx:List Bx} {live:Nat->Prop} (I:∀ b,live b->zY av pB e bx b):∀ {ps qs:List PV} {vs:List Value},PS ks ps=some qs->ps.length=vs.length->(∀(i:Nat) (p:PV) (v:Value),ps[i]?=some p->vs[i]?=some v->ValOk av w e pB bx v p) ->
  qs.map (PV.val (pj e ks))=vs/\∀ q∈qs,q.Ok w live/\∀ k∈q.refs,k<ks.length
 | [],qs,vs,h,J,O=>by
   simp[PS]at h;subst h;cases vs with
   | nil=>simp
   | cons=>simp at J
 | p :: ps,qs,vs,h,J,O=>by
   cases vs with
   | nil=>simp at J
   | cons v vs=>
     simp only[PS]at h;split at h
     ·rename_i q rs Y h2;simp at h;subst h;obtain⟨g1,g2,g3⟩:=OQ I (O 0 p v rfl rfl) Y;obtain⟨g4,g5⟩:=Ez I h2 (by simpa using J) λi p v hp U=>O (i+1) p v (by simpa using hp) (by simpa using U);refine⟨by simp[g1,g4],λr hr=>?_⟩;rcases oL.1 hr with rfl | hr
      ·exact⟨g2,g3⟩
      ·exact g5 r hr
     ·cases h
theorem L4 (h:Rel av w0 e0 pS pB a w e st) (hpl:∀ k∈pB,k<st.bx.length) {rs:List Sh} {o:Oper} {c:Call} {x:Operand} {args:List PV} {K:St->Prop} (ho:o.op=.call c) (hc:c.callee=.value x)
  (hx:∀ t,x=.tmp t->t∉pS) (ha:args.length=c.args.size) (hav:∀(i:Nat) (p:PV) (y:Operand),args[i]?=some p->c.args[i]?=some y->ValOk av w e pB st.bx (a.eval y) p)
  {f:FuncId} {caps:List PV} (hf:Uu (opd st.sl x)=some (f,caps)) (hcapall:∀ p∈caps,p.isCap=true) {ks:List Nat} (hnd:ks.Nodup) (hkpB:∀ k∈ks,k∉pB)
  (hps:∀ i,i∈pS->some i≠o.dst->i∈pS') (hs:Pz P rs st o.dst f (args++caps) ks K) {next:Act->World->Prop} {Q:Exit->Act->World->Prop}
  (hn:∀ v w' e' st',K st'->(∃ nb rows N p,st'=St.put (Xj st ks nb rows N) o.dst p)->Rel av w0 e0 pS' pB (a.put o.dst v) w' e' st'->next (a.put o.dst v) w'):o.wp P a w next Q:=by
 have ox:=vC h hx;have ox:=Cu ox.valOk hf;have hxv:=ox.1.resolve_left (by simp);have hcv:a.eval x=.func (.func f) #[] (PV.cvs e caps).toArray:=hxv;have hcok:PV.OkL w (zY av pB e st.bx) caps:=by have:=ox.2.1;simpa only[PV.Ok]using this
 rw[PV.OkL_iff]at hcok;have hcrf:∀ p∈caps,∀ k∈p.refs,k∉pB/\k<st.bx.length:=fun p hp k hk=>ox.2.2 k (by simp only[PV.refs];exact PV.refsL_mem.2 ⟨p,hp,hk⟩);have hcap:∀(i:Nat) (p:PV) (v:Value),(args++caps)[i]?=some p->(c.args.toList.map a.eval++caps.map (PV.cv e))[i]?=some v->ValOk av w e pB st.bx v p:=by
  intro i p v h1 h2;by_cases hi:i<args.length
  ·rw[oQ hi]at h1;have hi2:i<c.args.toList.length:=by simp;omega
   rw[oQ (by simpa using hi2),oF,oI hi2]at h2;simp at h2;subst h2;exact hav i p _ h1 (by rw[ou (by omega)])
  ·rw[oT (by omega)]at h1;rw[oT (by simp;omega),oF]at h2;have hidx:i - (c.args.toList.map a.eval).length=i - args.length:=by simp;omega
   rw[hidx,h1]at h2;simp at h2;subst h2;have hm:=oB h1;exact⟨.inr (BZ (hcapall p hm)).symm,hcok p hm,hcrf p hm⟩
 have hln:(args++caps).length=(c.args.toList.map a.eval++caps.map (PV.cv e)).length:=by simp;omega
 unfold Pz at hs;split at hs
 rotate_left
 ·exact hs.elim
 rename_i as has hok;simp only[okB,oK,oc,ny,nK]at hok;obtain⟨⟨⟨hok1,hok2⟩,hok3⟩,hnr⟩:=hok;have hok2:=me hok2;have hnr:=nI hnr;have hbox:∀ k∈ks,∃ B,st.bx[k]?=some B/\B≠.gone/\(B.isArr=true->pinned st k=false):=fun k hk=>by
  have:=hok1 k hk
  split at this
  ·rename_i B hB;simp only[oK,nK,ny]at this;refine⟨B,hB,fun hc=>by subst hc;simp[NK]at this,fun ha=>?_⟩;rcases this.2 with h1 | h1
   ·rw[ha]at h1;cases h1
   ·exact h1
  ·cases this
 have hE:(ks.map some).map (fun u=>Option.bind u e.at)=pj e ks:=by simp[pj]
 have hbl:(wO st ks).length=ks.length:=by simp[wO]
 have hbg:∀(j:Nat) (B':Bx),(wO st ks)[j]?=some B'->∃ k B,ks[j]?=some k/\st.bx[k]?=some B/\B≠.gone/\B'=B.ren ks:=fun j B' hj=>by
  simp only[wO,oF]at hj;cases hk:ks[j]? with
  | none=>simp[hk]at hj
  | some k=>simp only[hk,oZ,oh]at hj;obtain⟨B,h1,h2,_⟩:=hbox k (oB hk);refine⟨k,B,rfl,h1,h2,?_⟩;rw[<-hj,oA,h1];rfl
 obtain⟨hmem,hlv,hlvs⟩:=NR (us:=ks.map some) (nb:=wO st ks) (av':=fun b=>av b\/∃ k,k∉ks/\Lives pB e st.bx k b) h.toMem (fun b hb=>hb.imp id fun⟨k,hk⟩=>⟨k,hk.2⟩) (by simp[wO])
  (fun i j k hi hj=>by
   simp only[oF]at hi hj;cases hi2:ks[i]? with
   | none=>simp[hi2]at hi
   | some x=>
     cases hj2:ks[j]? with
     | none=>simp[hj2]at hj
     | some y=>simp[hi2]at hi;simp[hj2]at hj;subst hi;subst hj;obtain⟨i1,i2⟩:=oD.1 hi2;obtain⟨j1,j2⟩:=oD.1 hj2;exact(List.getElem_inj hnd).1 (i2.trans j2.symm))
  (fun j B' hj=>by
   obtain⟨k,B,h1,h2,h3,rfl⟩:=hbg j B' hj;refine .inr ⟨k,B,by simp[h1],hkpB k (oB h1),h2,⟨?_⟩⟩;rw[hE];cases B with
   | var cs=>
     refine .inr (.inr ⟨cs,_,rfl,rfl,by simp,fun i q hq=>?_⟩);rw[oF]at hq;cases hci:cs[i]? with
     | none=>simp[hci]at hq
     | some p=>
       simp only[hci,oZ,oh]at hq;unfold Rz at hq;split at hq
       ·rename_i q' hq';subst hq;have h4:=wM (e:=e) hq';exact .inr ⟨p,rfl,h4.an.1,h4.cv,h4.ok,h4.ic,by simpa using h4.rf⟩
       ·exact .inl hq.symm
   | gone=>exact absurd rfl h3
   | vd x n=>exact .inr (.inl ⟨rfl,by simp⟩)
   | arr t z es c=>exact .inr (.inl ⟨rfl,by simp⟩))
 rw [hE]at hmem hlv hlvs;obtain⟨hargs,hargok⟩:=Ez hlv has (by simp;omega) hcap;have hlt:∀ b,zY av pB e st.bx b->b<w.heap.size:=fun b hb=>hb.elim (fun hb=>by have:=h.avl.lt b hb;have:=h.size;omega) fun⟨k,hk⟩=>Lives.lt h.toMem hk;obtain⟨hcl,hA⟩:=hs w.heap.size h.hN;have hC:=hA (fun b=>av b\/∃ k,k∉ks/\Lives pB e st.bx k b) w (pj e ks) rfl ⟨fun b hb=>hlt b (hb.imp id fun⟨k,hk⟩=>⟨k,hk.2⟩),h.glob,fun b hb=>.inl (h.avl.ga b hb),fun b hb hc=>by
  simp only[pj,oU]at hc;obtain⟨k,g1,g2⟩:=hc;obtain⟨B,g3,g4,_⟩:=hbox k g1;exact h.avn k b ⟨hkpB k g1,g2,B,g3,g4⟩ (h.avl.ga b hb),fun x hx hc=>by
  simp only[pj,oU]at hc;obtain⟨k,g1,g2⟩:=hc;obtain⟨B,g3,g4,_⟩:=hbox k g1;rcases h.own k x.1 ⟨hkpB k g1,g2,B,g3,g4⟩with h5 | ⟨h5,_⟩
  ·have:=h.avl.g.ltb hx;omega
  ·exact h.avl.gb x hx h5⟩ hmem (fun j b hj hb=>by
  obtain⟨k,g1,g2⟩:=hlvs j b hj;simp only[oF]at g1;cases hk:ks[j]? with
  | none=>simp[hk]at g1
  | some k2=>
    simp[hk]at g1;subst g1;rcases hb with hb | ⟨k3,g3,g4⟩
    ·exact h.avn k2 b g2 hb
    ·exact g3 (h.inj k3 k2 b g4 g2 ▸ oB hk)) (fun p hp=>by obtain⟨g1,g2⟩:=hargok p hp;exact⟨g1,by rw[hbl];exact g2⟩)
 have hrun:(execOp a.eval o).run P w=.ok (.enter f (as.map (PV.val (pj e ks))).toArray) w:=by
  have e1:(as.map (PV.val (pj e ks))).toArray=c.args.map a.eval++(PV.cvs e caps).toArray:=by rw[hargs,PV.cvs_eq];apply nZ.1;simp
  rw[e1];obtain⟨dst,op,ty,pos,after,guard⟩:=o;simp only at ho;subst ho;simp only[execOp,resolve,hc,Deferred.ofValue,hcv,invoke];simp[K3 hcl]
 unfold Oper.wp;rw[hrun,Oper.upon_enter];refine hC.mono fun en w' hen=>?_;cases en with
 | panicked=>exact hen.elim
 | outgrown=>exact hen.elim
 | returned v=>
   obtain⟨ps,es,rows,e1,hpn,hd⟩:=hen;have hb0:((wO st ks).map xW).length=ks.length:=by simp[hbl]
   have hnr':FF rs=Fe P f (rsJ as rs++PE (wO st ks)) ((wO st ks).map xW):=by rw[hnr];simp only[Fe,I5,Sd,oH,VX]
   rw[<-hnr']at hpn;have hq:=hd.q;rw[hb0]at hq;have hq0:=hq;have happ:=QT.app_lam (rsJ as rs++PE (wO st ks)) (st.bx.length - ks.length) ks.length _ (ps++es) rows _ (by rw[show st.bx.length - ks.length+ks.length=st.bx.length by omega];exact hq);have hplain:∀ p∈ps,p.plainR=true:=fun p hp=>QT.app_plain _ _ _ _ _ _ hq p (oq _ hp);have hbase:∀ p∈ps,∀ k∈p.refs,ks.length<=k:=fun p hp=>QT.app_base _ _ _ _ _ _ hq p (oq _ hp);obtain⟨harr,hrfs⟩:=QT.app_rows _ _ _ _ _ _ hq;have happ:=happ hd.size;rw[mr,IA hd.ns]at happ;have e2:(ps.map (PV.shift (st.bx.length - ks.length))++es).take (FF rs)=ps.map (PV.shift (st.bx.length - ks.length)):=List.take_left' (by simp[hpn]);have e3:(ps.map (PV.shift (st.bx.length - ks.length))++es).drop (FF rs)=es:=List.drop_left' (by simp[hpn]);rw[e2,e3]at happ;have hbel:=vW (N:=w'.heap.size) (fun q hq=>by
    rcases oM.1 hq with hq | hq
    rotate_left
    ·exact hd.be q hq
    obtain⟨p,hp,rfl⟩:=oU.1 hq;have hpl:=hplain p hp;have hok:=hd.ok p hp;cases p<;>simp only[PV.shift]<;>simp only[PV.Ok]at hok
    ·exact hok.1.lt
    ·exact hok.1.1.lt) happ
   have hrowm:∀(i:Nat) (B:Bx),rows[i]?=some B->(KC ((wO st ks).map xW) es++rows)[ks.length+i]?=some B:=fun i B hi=>by have hl:=(JV ((wO st ks).map xW) es hd.ns).1;rw[hb0]at hl;rw[oT (by omega),hl];simpa using hi
   have hbel2:=pD (N:=w'.heap.size) (fun t z ds cc hm b hb=>by
    obtain⟨i,hi⟩:=oS.1 hm
    have:=hd.m.bo _ _ (hrowm i _ hi) (by simp)
    simp only[D.foot]at hb;obtain⟨y,hy,hby⟩:=zJ.1 hb;exact(this y hy).1.lt b hby) hbel
   obtain⟨ul,ug⟩:=JV ((wO st ks).map xW) es hd.ns;rw[hb0]at ul;have ug2:∀(j:Nat) (B':Bx),(KC ((wO st ks).map xW) es)[j]?=some B'->∃ k B,ks[j]?=some k/\st.bx[k]?=some B/\B'.isArr=B.isArr/\∀ i∈B'.refs,i<ks.length:=fun j B' hj=>by
    obtain⟨B1,g1,g2,g3⟩:=ug j B' hj;rw[oF]at g1;cases hb:(wO st ks)[j]? with
    | none=>simp[hb]at g1
    | some B2=>
      simp only[hb,oZ,oh]at g1;obtain⟨k,B,q1,q2,q3,rfl⟩:=hbg j B2 hb;subst g1;refine⟨k,B,q1,q2,by rw[g3,CX.2,K1],fun i hi=>?_⟩
      have:=g2 i hi
      rw[CX.1]at this;exact TE i this
   have hkr:=FW (bx:=st.bx) ks st h;have hlvk:∀ k b,Lives pB e (wP st.bx ks st).bx k b↔Lives pB e st.bx k b:=fun k b=>by
    obtain⟨g1,g2⟩:=sM (bx:=st.bx) ks st k;constructor
    ·rintro⟨h1,h2,B',h3,h4⟩
     cases hB:st.bx[k]? with
     | none=>rw[g1.2 hB]at h3;cases h3
     | some B=>obtain⟨B'',q1,q2,_⟩:=g2 B hB;rw[q1]at h3;cases h3;exact⟨h1,h2,B,hB,fun hc=>h4 (q2.2 hc)⟩
    ·rintro⟨h1,h2,B,h3,h4⟩
     obtain⟨B',q1,q2,_⟩:=g2 B h3;exact⟨h1,h2,B',q1,fun hc=>h4 (q2.1 hc)⟩
   have hkb:∀(k:Nat) (B:Bx),(wP st.bx ks st).bx[k]?=some B->∃ B0,st.bx[k]?=some B0/\B.isArr=B0.isArr/\(B=.gone↔B0=.gone):=fun k B hB=>by
    obtain⟨g1,g2⟩:=sM (bx:=st.bx) ks st k;cases hB0:st.bx[k]? with
    | none=>rw[g1.2 hB0]at hB;cases hB
    | some B0=>obtain⟨B'',q1,q2,q3⟩:=g2 B0 hB0;rw[q1]at hB;cases hB;exact⟨B0,rfl,q3,q2⟩
   have hget0:∀ k,((wP st.bx ks st).bx.getD k .gone).isArr=(st.bx.getD k .gone).isArr:=fun k=>by
    obtain⟨g1,g2⟩:=sM (bx:=st.bx) ks st k;rw[oA,oA];cases hB0:st.bx[k]? with
    | none=>rw[g1.2 hB0]
    | some B0=>obtain⟨B'',q1,_,q3⟩:=g2 B0 hB0;rw[q1];exact q3
   have hio:Io av pB w w' e (wP st.bx ks st).bx ks e1 (KC ((wO st ks).map xW) es) rows:={
    nd:=hnd
    kp:=fun k hk=>by obtain⟨B,g1,g2,_⟩:=hbox k hk;obtain⟨B',q1,q2,_⟩:=(sM (bx:=st.bx) ks st k).2 B g1;exact⟨hkpB k hk,B',q1,fun hc=>g2 (q2.1 hc)⟩
    len:=ul
    el:=by have:=hd.m.el;simp only[oH,ul]at this;omega
    m := by
      have he:(fun b=>av b\/∃ k,k∉ks/\Lives pB e (wP st.bx ks st).bx k b)=fun b=>av b\/∃ k,k∉ks/\Lives pB e st.bx k b:=by funext b;exact propext (or_congr lF (exists_congr fun k=>and_congr lF (hlvk k b)))
      rw[he];exact hd.m
    arr:=harr
    kind:=fun j k B B' hj hB hB'=>by obtain⟨k2,B2,g1,g2,g3,_⟩:=ug2 j B' hB';rw[hj]at g1;cases g1;obtain⟨B0,q1,q2,_⟩:=hkb k B hB;rw[g2]at q1;cases q1;rw[g3,q2]
    refs:=fun B hB j hj=>by obtain⟨i,hi⟩:=oS.1 hB;obtain⟨_,_,_,_,_,g⟩:=ug2 i B hi;exact g j hj
    fix:=fun j k B hj hB ha=>by
     obtain⟨B0,q1,q2,_⟩:=hkb k B hB;have hj0:((wO st ks).map xW)[j]?=some (xW (B0.ren ks)):=by simp[wO,oF,hj,oA,q1]
     have:=hd.fix j _ hj0 (by rw[CX.2,K1,<-q2];exact ha)
     rw[this];have hej:(pj e ks).at j=e.at k:=by simp[pj,Env.at,oA,hj]
     rw[hej];have hbr:=h.br k B0 q1 (hkpB k (oB hj));rw[q2]at ha;cases B0 with
     | var cs=>obtain⟨b,_,_,g,_⟩:=hbr;rw[g];rfl
     | vd y n=>obtain⟨b,_,_,g,_⟩:=hbr;rw[g];rfl
     | arr=>cases ha
     | gone=>cases ha
    fr:=fun j b hj=>by
     rcases hd.fresh j b hj with g | ⟨g1,g2⟩
     ·exact .inl g
     ·rw[hb0]at g1;simp only[pj,oU]at g2;obtain⟨k,g3,g4⟩:=g2;exact .inr ⟨g1,k,g3,g4⟩
    size:=hd.size
    hold:=fun b hb hnk=>hd.old b hb fun hc=>by simp only[pj,oU]at hc;obtain⟨k,g3,g4⟩:=hc;exact hnk k g3 g4
    fz:=fun b cc t z hb hcc=>hd.fz b cc t z (hb.imp id fun⟨k,g1,g2⟩=>by simp only[pj,oU];exact⟨k,g1,g2⟩) hcc
    ku:=hd.ku }
   have hpn2:=Cv (bx:=st.bx) ks st;obtain⟨hR,hgood⟩:=W1 hkr hio
    (fun i p hi k hk hka=>(pL ks st k hk (by rw[<-hget0];exact hka)).1 i p hi)
    (fun j B hj hjk k hk hka=>(pL ks st k hk (by rw[<-hget0];exact hka)).2 j B hj)
    (fun k hk hka b hb=>by
     rw[hpn2]at hb;rw[hget0]at hka;obtain⟨B,g1,_,g3⟩:=hbox k hk;rw[oA,g1]at hka
     have:=g3 hka
     unfold pinned at this;rw[hb]at this;cases this)
    (by
     rw[hpn2];refine hok3.imp (fun hq k hk hka=>?_) fun hq k hk hka=>?_
     ·rw[hget0]at hka;rcases hq k hk with g | g
      ·rw[hka]at g;cases g
      ·exact me g
     ·rw[hget0]at hka;rcases hq k hk with g | g
      ·rw[hka]at g;cases g
      ·exact me g)
   have hkl:=(FV (bx:=st.bx) ks st).1;have hatr:∀ p∈ps,∀ k∈p.refs,Env.at (FL ks e1 e++e1.drop ks.length) (st.bx.length - ks.length+k)=e1.at k:=fun p hp k hk=>by have h1:=hbase p hp k hk;rw[Env.at_app,if_neg (by simp[FL,h.el];omega)];simp only[FL,nF,List.length_range,h.el,Env.at,oA,nQ];congr 2;omega
   have hfin:ValOk av w' (FL ks e1 e++e1.drop ks.length) pB (bxN ks ((KC ((wO st ks).map xW) es).map (Bx.mapR fun j=>ks.getD j 0)) 0 (wP st.bx ks st).bx++rows) v (W2 (rsJ as rs) (KC ((wO st ks).map xW) es) ks (ps.map (PV.shift (st.bx.length - ks.length)))):=by
    by_cases hbk:∃ j l,rsJ as rs=.bk j::l
    ·obtain⟨j,l,hj⟩:=hbk;have hv:=hd.v;rw[hj]at hv ⊢;simp only[o3,RL]at hv;simp only[W2];cases hU:(KC ((wO st ks).map xW) es)[j]? with
     | none=>exact Bw
     | some B=>
       rw[hU]at hv;cases B with
       | arr t z ds cc=>
         simp only at hv ⊢;have hjl:j<ks.length:=by rw[<-ul];exact(oD.1 hU).1
         have hjk:ks[j]?=some (ks.getD j 0):=by rw[oA,oI hjl];rfl
         have hmem:ks.getD j 0∈ks:=oB hjk;obtain⟨B0,g1,g2,_⟩:=hbox _ hmem;have hklt:=(oD.1 g1).1;have hatj:Env.at (FL ks e1 e++e1.drop ks.length) (ks.getD j 0)=e1.at j:=by rw[Env.at_app,if_pos (by simp[FL,h.el];exact hklt),QB (by rw[h.el];exact hklt),Qu hnd hjk]
         refine⟨.inr ?_,trivial,fun k hk=>?_⟩
         ·rw[hv];simp only[PV.val,PV.val1,PV.cv,hatj]
         ·simp only[PV.refs,o5]at hk;subst hk;refine⟨hkpB _ hmem,?_⟩;simp only[oH,xa,hkl];omega
       | _=>exact Bw
    ·have hnb:∀ j l,rsJ as rs++PE (wO st ks)≠.bk j::l:=fun j l hc=>by
      cases hr:rsJ as rs with
      | nil=>rw[hr,oa]at hc;exact Tb (wO st ks) (.bk j) (by rw[hc];simp) j rfl
      | cons s l'=>rw[hr]at hc;simp only[o3,List.cons.injEq]at hc;exact hbk ⟨j,l',by rw[hr,hc.1]⟩
     have hres:W2 (rsJ as rs) (KC ((wO st ks).map xW) es) ks (ps.map (PV.shift (st.bx.length - ks.length)))=G5 (Dz (rsJ as rs)) (ps.map (PV.shift (st.bx.length - ks.length))):=by
      unfold W2;split
      ·rename_i hc;exact absurd ⟨_,_,hc⟩ hbk
      ·rfl
     have hv:=hd.v;rw[Fr hnb,I5]at hv;rw[hres];refine⟨.inr ?_,?_,?_⟩
     ·rw[hv];exact(Mb hplain hatr).symm
     ·refine Rj (fun q hq=>?_) (fun hc q hq=>by obtain⟨p,hp,rfl⟩:=oU.1 hq;exact K7 (QT.app_pk (by rw[I5];exact hc) hq0 p (oq _ hp)));obtain⟨p,hp,rfl⟩:=oU.1 hq;have h1:=hd.ok p hp;have h2:=hplain p hp;have he:(fun b=>av b\/∃ k,k∉ks/\Lives pB e (wP st.bx ks st).bx k b)=fun b=>av b\/∃ k,k∉ks/\Lives pB e st.bx k b:=by funext b;exact propext (or_congr lF (exists_congr fun k=>and_congr lF (hlvk k b)))
      rw[he]at hgood;cases p<;>simp[PV.plainR]at h2<;>simp only[PV.shift]<;>simp only[PV.Ok]at h1 ⊢
      ·exact hgood _ h1
      ·exact⟨hgood _ h1.1,h1.2⟩
      ·exact⟨hgood _ h1.1,h1.2⟩
     ·intro k hk;obtain⟨q,hq,hkq⟩:=LO k hk;obtain⟨p,hp,rfl⟩:=oU.1 hq;obtain⟨j,hj,rfl⟩:=H9 (hplain p hp) k hkq;have h1:=(hrfs p (oq _ hp)).2.2 j hj;have h2:=hbase p hp j hj;refine⟨fun hc=>by have:=hpl _ hc;omega,?_⟩;simp only[oH,xa,hkl];omega
   exact hn v w' (FL ks e1 e++e1.drop ks.length) _ hbel2 ⟨_,rows,_,_,rfl⟩ (xm hR hfin hps)
end Go.Proofs.YtlaniepnglheoaaGreatDoor
