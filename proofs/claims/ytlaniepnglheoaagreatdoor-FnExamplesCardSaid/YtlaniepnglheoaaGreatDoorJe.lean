/- A call within a call is sound. -/
import Derived.Test.YtlaniepnglheoaaGreatDoorJc
set_option linter.unusedVariables false
set_option linter.unusedSimpArgs false
set_option linter.unusedSectionVars false
namespace Go.Proofs.YtlaniepnglheoaaGreatDoor
open Go
variable [Dfs] {av:Nat->Prop} {P:Program} {w0 w w':World} {e0 e:Env} {pS pS' pB:aI} {a:Act} {st st':St}
def sq (bs:List (aH)):aI:=bs.filterMap λa=>a.map (·.block)
def PV.plainR:PV->Bool
 | .int ..=>true
 | .bool ..=>true
 | .str ..=>true
 | .sv ..=>true
 | .dg ..=>true
 | .sb ..=>true
 | .dc ..=>true
 | .pb ..=>true
 | _=>false
theorem QT.app_plain:∀(l:List Sh)(Q:QT l)(b:Nat)(ps:aN)(rows:aO)(N:Nat),QT.app l Q b ps rows N->∀ p∈ps,p.plainR=true
 | [],Q,b,ps,rows,N,h=>by cases ps<;>cases rows<;>simp[QT.app]at h ⊢
 | s :: l,Q,b,ps,rows,N,h=>by
   by_cases hs:s=.pk
   ·subst hs;exact QT.app_plain l Q b ps rows N h.2
   cases ps with
   | nil=>cases s<;>first | exact absurd rfl hs | (simp[QT.app]at h;done)
   | cons p ps=>
     have key:(∃(J:QT l) (b':Nat) (I:aO),QT.app l J b' ps I N)/\p.plainR=true:=by
      cases s<;>(try(exact absurd rfl hs))<;>cases p<;>(try(exact h.elim))<;>(try(simp[QT.app]at h;done))<;>first
       | exact⟨⟨_,_,_,h⟩,rfl⟩
       | exact⟨⟨_,_,_,h.2⟩,rfl⟩
       | skip
      all_goals
       cases rows with
       | nil=>simp[QT.app]at h
       | cons B rows=>
         cases B<;>first
          | exact⟨⟨_,_,_,h.2⟩,rfl⟩
          | (simp[QT.app]at h;done)
          | (obtain⟨_,_,_,_,_,_,_,h⟩:=h;exact⟨⟨_,_,_,h⟩,rfl⟩)
     obtain⟨⟨J,b',I,O⟩,U⟩:=key;intro q hq;rcases oK.1 hq with rfl | hq
     ·exact U
     ·exact QT.app_plain l J b' ps I N O q hq
theorem UT {cs ds}(h:LO cs=some ds){live}(I:PV.OkL w live cs):PV.val [] (.dg cs.length (.ag ds))=PV.val e (.pg cs):=by obtain⟨_,J⟩:=rg (e:=e) h I;simp[PV.val,PV.val1,D.val,J]
theorem wv {bx v p q}(hv:ValOk av w e pB bx v p)(h:qr p=some q):v=q.val []/\(∀ live,(∀ b,live b->za av pB e bx b)->q.Ok w live)/\q.refs=[]:=by
 have U:p≠.any:=λhc=>by subst hc;simp[qr]at h
 have O:=hv.1.resolve_left U;have I:=hv.2.1;have same:p=q->q.refs=[]->v=q.val []/\(∀ live,(∀ b,live b->za av pB e bx b)->q.Ok w live)/\q.refs=[]:=λY hr=>by subst Y;refine⟨by rw[O];exact(PV.val_congr p (by rw[hr];simp)).symm,λlive hl=>PV.Ok.mono (λ_ _ _=>rfl) (oC _) (λb _=>hl b) p I,hr⟩
 cases p<;>simp[qr]at h
 case pg cs=>
  split at h
  ·rename_i ds J;simp at h;subst h;simp only[PV.Ok]at I;refine⟨by rw[O,UT J I.1],λlive hl=>?_,rfl⟩;obtain⟨g1,_⟩:=rg (e:=e) J I.1;exact⟨(Good.ag λd hd=>(g1 d hd).1).mono (λ_ _ _=>rfl) (λb _=>hl b),ds,rfl,t7 J,λd hd=>(g1 d hd).2⟩
  ·cases h
 all_goals(subst h;exact same rfl rfl)
theorem Cl {p:PV}(h:p.isCap=true):p.val e=p.cv e:=by cases p<;>simp[PV.isCap]at h<;>rfl
theorem OX {bx}(h:Mem av pB w e bx){k z b:Nat}{B x}(hk:bx[k]?=some B)(J:k∉pB)(hc:VE B=some (z,x)) :
  ∃ b c t,e.at k=some b/\w.heap[b]?=some (.cells c t (0,0))/\Lives pB e bx k b/\Good w (za av pB e bx) x/\eOk z x/\∀(i:Nat) (u:D),x.cells[i]?=some u->c[i]?=some u.cv:=by
 have hr:=h.br k B hk J;have ho:=h.bo k B hk J;cases B with
 | gone=>cases hc
 | arr=>cases hc
 | var cs =>
   obtain⟨b,c,t,h1,h2,h3,h4⟩:=hr;have hl:Lives pB e bx k b:=⟨J,h1,_,hk,aB⟩
   have aa:=ho.1;refine⟨b,c,t,h1,h2,hl,?_⟩;simp only[VE]at hc;split at hc
   ·rename_i p;split at hc
    ·rename_i d hd;simp at hc;obtain⟨rfl,rfl⟩:=hc;obtain⟨g1,g2,g3,g4,_⟩:=wF (e:=e) hd (PV.OkL_iff.1 aa p aB);have ab:d.cells=[d]:=by cases d<;>simp[D.isCell]at g2<;>rfl
     refine⟨g1,by simpa [eOk]using g2,λi u U=>?_⟩;rw[ab]at U;cases i with
     | zero=>
       simp at U;subst U;rcases h4 0 p rfl with h5 | h5
       ·subst h5;simp[Aq]at hd
       ·rw[g3];exact h5
     | succ i=>simp at U
    ·cases hc
   ·split at hc
    ·rename_i n ds hd O;simp at hc;obtain⟨rfl,rfl⟩:=hc;obtain⟨g1,g2⟩:=rg (e:=e) O aa;refine⟨Good.ag λd hd=>(g1 d hd).1,?_,λi u U=>?_⟩
     ·simp only[eOk,Nat.add_one_ne_zero,ni];exact⟨ds,rfl,by rw[t7 O];exact hd,λd hd=>(g1 d hd).2⟩
     ·simp only[D.cells]at U;have ac:i<ds.length:=(oD.1 U).1;have Y:i<cs.length:=by rw[<-t7 O];exact ac
      have I:(ds.map D.cv)[i]?=(PV.cvs e cs)[i]?:=by rw[g2]
      rw[oF,U,PV.cvs_eq,oF,oH Y]at I;simp only[oX,od]at I;rcases h4 i _ (oH Y)with h5 | h5
      ·exfalso;have:∀(l:aN) (r:aM),LO l=some r->PV.any∉l:=by
        intro l
        induction l with
        | nil=>intro r _;simp
        | cons q l ih=>
          intro r hr hm;simp only[LO]at hr;split at hr
          ·rename_i d ae h7 h8;rcases oK.1 hm with rfl | hm
           ·simp[Aq]at h7
           ·exact ih _ h8 hm
          ·cases hr
       exact this cs ds O (by rw[<-h5];exact mN Y)
      ·rw[I];exact h5
    ·cases hc
 | vd y n=>
   obtain⟨b,c,t,h1,h2,h3,h4,h5⟩:=hr;refine⟨b,c,t,h1,h2,⟨J,h1,_,hk,aB⟩,?_⟩;simp only[VE]at hc;split at hc
   ·cases hc
   ·simp at hc;obtain⟨rfl,rfl⟩:=hc;exact⟨ho,by simpa [eOk]using h4,h5⟩
def ArgOk (av:Nat->Prop)(pB:aI)(w:World)(e:Env)(st:St)(bs:List (aH))(v:Value)(p q:PV):Prop:=
 q.val []=v/\(∀ live,(∀ b,live b->za av pB e st.bx b/\b∉sq bs)->q.Ok w live)/\q.refs=[]/\(p.isCap=true->q.isCap=true)
theorem tV {a b}:sq (a++b)=sq a++sq b:=by simp[sq]
theorem ArgOk.mono {bs bs' v p q}(h:ArgOk av pB w e st bs v p q)(hb:∀ b∈sq bs,b∈sq bs'):ArgOk av pB w e st bs' v p q:=
 ⟨h.1,λlive hl=>h.2.1 live λb I=>⟨(hl b I).1,λhc=>(hl b I).2 (hb b hc)⟩,h.2.2⟩
def Bb pB e bx bs:=∀ b∈sq bs,∃ k,Lives pB e bx k b
theorem tL {bx x}(hb:∀ ad,x=some ad->za av pB e bx ad.block):∀ {ps:aN}{K:Prop},(∀ p∈ps,∃ v,ValOk av w e pB bx v p)->Wu x ps K->K
 | [],K,_,h=>h
 | p::ps,K,hp,h=>by
   have I:=λq hq=>hp q (nj _ hq);obtain⟨v,hv⟩:=hp p aB;have O:=hv.2.1;cases p<;>simp only[Wu]at h
   case sv=>refine tL hb I (h λy U ad J Y=>?_);rw[oi]at U;subst U;exact O.2 _ Y (hb ad J)
   case dg=>refine tL hb I (h λy U ad J Y=>?_);rw[oi]at U;subst U;exact O.1.2 _ Y (hb ad J)
   all_goals exact tL hb I h
theorem pz (h:Mem av pB w e st.bx){al}(aa:∀ p∈al,∃ v,ValOk av w e pB st.bx v p):∀(cs:aN) (K:aM->List (aH)->Prop),(∀ p∈cs,p.Ok w (za av pB e st.bx)/\∀ k∈p.refs,k∉pB)->Jj st al cs K ->
  ∃ ds bs,K ds bs/\ds.length=cs.length/\ds.map D.cv=PV.cvs e cs/\(∀ d∈ds,d.isCell)/\(∀ live,(∀ b,live b->za av pB e st.bx b/\b∉sq bs)->∀ d∈ds,Good w live d)/\Bb pB e st.bx bs
 | [],K,_,O=>⟨[],[],O,rfl,rfl,aB,aB,by simp[Bb,sq]⟩
 | p :: ps, K,hc,O=>by
   have ab:=λq hq=>hc q (nj _ hq);have ai:∀ d,Aq p=some d->Jj st al ps (λds bs=>K (d::ds) bs)->∃ ds bs,K ds bs/\ds.length=(p::ps).length/\ds.map D.cv=PV.cvs e (p::ps)/\(∀ d∈ds,d.isCell)/\(∀ live,(∀ b,live b->za av pB e st.bx b/\b∉sq bs)->∀ d∈ds,Good w live d)/\Bb pB e st.bx bs:=λd hd O=>by
    obtain⟨g1,g2,g3,_,_⟩:=wF (w:=w) (e:=e) hd (hc p aB).1;obtain⟨ds,bs,k1,k2,k3,k4,k5,k6⟩:=pz h aa ps _ ab O;refine⟨d::ds,bs,k1,by simp[k2],by simp[PV.cvs,k3,g3],λx hx=>?_,λlive hl x hx=>?_,k6⟩
    ·rcases oK.1 hx with rfl | hx
     ·exact g2
     ·exact k4 x hx
    ·rcases oK.1 hx with rfl | hx
     ·exact g1.mono (λ_ _ _=>rfl) λb _ hb=>(hl b hb).1
     ·exact k5 live hl x hx
   simp only[Jj]at O;split at O
   ·rename_i k z lo n c;split at O
    ·rename_i t z' es c' hk;cases hd:decide (z=z'/\lo=0)with
     | false=>rw[hd]at O;exact O.elim
     | true =>
       rw[hd]at O;simp at hd;obtain⟨hz,aj⟩:=hd;subst hz;subst aj;obtain⟨⟨rfl,rfl⟩,O⟩:=O;have U:=(hc (.sb k z 0 es.length c) aB).2 k (by simp[PV.refs]);have hr:=h.br k _ hk U;have ac:=h.bo k _ hk U;have ak:=O ((e.at k).map λb=>⟨b,0,none⟩) (λad J d hd hb=>by
        cases I:e.at k with
        | none=>rw[I]at J;cases J
        | some b=>rw[I]at J;cases J;exact(ac d hd).2 b hb (.inr ⟨k,U,I,_,hk,aB⟩))
       have ao:=tL (λad J=>by
        cases I:e.at k with
        | none=>rw[I]at J;cases J
        | some b=>rw[I]at J;cases J;exact .inr ⟨k,U,I,_,hk,aB⟩) aa ak
       obtain⟨ds,bs,k1,k2,k3,k4,k5,k6⟩:=pz h aa ps _ ab ao;refine⟨_,_,k1,by simp[k2],?_,λx hx=>?_,λlive Y x hx=>?_,λb hb=>?_⟩
       ·simp only[o9,PV.cvs,k3];congr 1;cases I:e.at k<;>simp[PV.cv,D.cv,I]
       ·rcases oK.1 hx with rfl | hx
        ·simp[D.isCell]
        ·exact k4 x hx
       ·rcases oK.1 hx with rfl | hx
        ·have ae:∀ x∈es,Good w live x:=λx hx=>(ac x hx).mono (λ_ _ _=>rfl) (λb _ hb=>(Y b hb).1);rcases hr with⟨g1,g2,g3⟩ | ⟨b,cc,g1,g2,g3,g4,g5,g6,g7⟩
         ·subst g2;subst g3;rw[g1];exact Cj
         ·rw[g1];refine⟨.sl (λ_=>rfl) g4 g6 (λx hx=>(ae x hx).1) (.inr ⟨cc,t,z00,g2,λi u hu=>by simpa using g7 i u hu⟩),λj hj ah=>?_⟩;simp only[oX,D.foot]at hj;split at hj
          ·simp at hj
          ·rcases oK.1 hj with rfl | hj
           ·exact(Y _ ah).2 (by simp[sq,g1])
           ·obtain⟨x,hx,aq⟩:=zJ.1 hj;exact(ae x hx).2 j aq ah
        ·exact k5 live (λb hb=>⟨(Y b hb).1,λhc=>(Y b hb).2 (by rw[show(((e.at k).map λb=>(⟨b,0,none⟩:Addr))::bs)=[((e.at k).map λb=>(⟨b,0,none⟩:Addr))]++bs from rfl,tV];exact nS _ hc)⟩) x hx
       ·rw[show(((e.at k).map λb=>(⟨b,0,none⟩:Addr))::bs)=[((e.at k).map λb=>(⟨b,0,none⟩:Addr))]++bs from rfl,tV]at hb;rcases oM.1 hb with hb | hb
        ·cases I:e.at k with
         | none=>simp[sq,I]at hb
         | some b'=>simp[sq,I]at hb;subst hb;exact⟨k,U,I,_,hk,aB⟩
        ·exact k6 b hb
    ·exact O.elim
   ·split at O
    ·rename_i d hd;exact ai d hd O
    ·exact O.elim
mutual
theorem Qz (h:Mem av pB w e st.bx){al}(ab:∀ p∈al,∃ v,ValOk av w e pB st.bx v p):∀(p:PV) (v:Value) (K:PV->List (aH)->Prop),ValOk av w e pB st.bx v p->MP st al p K->∃ q bs,K q bs/\ArgOk av pB w e st bs v p q/\Bb pB e st.bx bs
 | .sb k z lo n c,v,K,J,I=>by
   simp only[MP]at I
   split at I
   ·rename_i t z' es c' hk
    cases hd:decide (z=z'/\lo=0)with
    | false=>rw[hd]at I;exact I.elim
    | true=>
      rw[hd]at I
      simp at hd
      obtain⟨hz,aw⟩:=hd
      subst hz;subst aw
      obtain⟨⟨rfl,rfl⟩,I⟩:=I
      have ac:=(J.2.2 k (by simp[PV.refs])).1
      have hr:=h.br k _ hk ac
      have aa:=h.bo k _ hk ac
      have ae:=J.1.resolve_left aB
      have ax:=I ((e.at k).map λb=>⟨b,0,none⟩) (λad O d hd hb=>by
       cases U:e.at k with
       | none=>rw[U]at O;cases O
       | some b=>
         rw[U]at O;cases O
         exact(aa d hd).2 b hb (.inr ⟨k,ac,U,_,hk,aB⟩))
      refine⟨_,_,tL (λad O=>?_) ab ax,⟨?_,λlive Y=>?_,rfl,λ_=>rfl⟩,λb hb=>?_⟩
      ·cases U:e.at k with
       | none=>rw[U]at O;cases O
       | some b=>
         rw[U]at O;cases O
         exact .inr ⟨k,ac,U,_,hk,aB⟩
      ·rw[ae]
       cases U:e.at k<;>simp[PV.val,PV.val1,PV.cv,U]
      ·have ak:∀ x∈es,Good w live x:=λx hx=>(aa x hx).mono (λ_ _ _=>rfl) (λb _ hb=>(Y b hb).1)
       rcases hr with⟨g1,g2,g3⟩ | ⟨b,cc,g1,g2,g3,g4,g5,g6,g7⟩
       ·subst g2;subst g3
        rw[g1]
        exact Cj
       ·rw[g1]
        refine⟨.sl (λ_=>rfl) g4 g6 (λx hx=>(ak x hx).1) (.inr ⟨cc,t,z00,g2,λi u hu=>by simpa using g7 i u hu⟩),λj hj ao=>?_⟩
        simp only[oX,D.foot]at hj
        split at hj
        ·simp at hj
        ·rcases oK.1 hj with rfl | hj
         ·exact(Y _ ao).2 (by simp[sq,g1])
         ·obtain⟨x,hx,ay⟩:=zJ.1 hj
          exact(ak x hx).2 j ay ao
      ·cases U:e.at k with
       | none=>simp[sq,U]at hb
       | some b'=>
         simp[sq,U]at hb;subst hb
         exact⟨k,ac,U,_,hk,aB⟩
   ·exact I.elim
 | .pb k z i o,v,K,J,I=>by
   simp only[MP]at I
   split at I
   ·rename_i B hk
    split at I
    ·rename_i z x hd hx
     simp at hd
     obtain⟨rfl,rfl⟩:=hd
     have ac:=(J.2.2 k (by simp[PV.refs])).1
     have ae:=J.1.resolve_left aB
     obtain⟨b,c,t,g1,g2,g3,g4,g5,g6⟩:=OX (b:=0) h hk ac hx
     refine⟨_,_,tL (λad O=>by cases O;exact .inr ⟨k,g3⟩) ab (I ⟨b,0,none⟩ (λad O d hd hb=>by cases O;simp at hd;subst hd;exact g4.2 _ hb (.inr ⟨k,g3⟩))),⟨?_,λlive Y=>⟨?_,g5,rfl,.inr ⟨c,t,z00,g2,λi u hu=>by simpa using g6 i u hu⟩,λhl=>(Y _ hl).2 (by simp[sq]),Lives.lt h g3⟩,rfl,λ_=>rfl⟩,λb' hb=>?_⟩
     ·rw[ae];simp[PV.val,PV.val1,PV.cv,g1]
     ·exact g4.mono (λ_ _ _=>rfl) λb _ hb=>(Y b hb).1
     ·simp[sq]at hb;subst hb;exact⟨k,g3⟩
    ·exact I.elim
   ·exact I.elim
 | .fn f caps,v,K,J,I=>by
   simp only[MP]at I
   split at I
   ·rename_i ah
    rw[ob]at ah
    have ae:=J.1.resolve_left aB
    have aa:=J.2.1
    simp only[PV.Ok,PV.OkL_iff]at aa
    obtain⟨as,bs,h1,h2,h3,h4⟩:=Bd h ab caps (caps.map (PV.cv e)) _ aB (λi p v hp ai=>by
     rw[oF,hp]at ai
     simp at ai;subst ai
     have hm:=oB hp
     exact⟨.inr (Cl (ah p hm)).symm,aa p hm,λk hk=>J.2.2 k (by simp only[PV.refs];exact PV.refsL_mem.2 ⟨p,hm,hk⟩)⟩) I
    have aq:PV.cvs [] as=PV.cvs e caps:=by
     rw[PV.cvs_eq,PV.cvs_eq,<-h2]
     refine nF λq hq=>?_
     obtain⟨i,hi⟩:=oS.1 hq
     obtain⟨p,hp,ho⟩:=h3 i q hi
     exact(Cl (ho.2.2.2 (ah p (oB hp)))).symm
    refine⟨_,_,h1,⟨?_,λlive Y=>?_,?_,λ_=>rfl⟩,h4⟩
    ·rw[ae]
     show(PV.fn f as).cv []=(PV.fn f caps).cv e
     simp only[PV.cv,aq]
    ·simp only[PV.Ok,PV.OkL_iff]
     intro q hq
     obtain⟨i,hi⟩:=oS.1 hq
     obtain⟨p,hp,ho⟩:=h3 i q hi
     exact ho.2.1 live Y
    ·simp only[PV.refs]
     refine na.2 λk hk=>?_
     obtain⟨q,hq,au⟩:=PV.refsL_mem.1 hk
     obtain⟨i,hi⟩:=oS.1 hq
     obtain⟨p,hp,ho⟩:=h3 i q hi
     rw[ho.2.2.1]at au;simp at au
   ·exact I.elim
 | .any,v,K,J,I=>by simp[MP,qr]at I
 | .int ..,v,K,J,I=>by simp[MP,qr]at I;exact⟨_,_,I,⟨(J.1.resolve_left aB).symm,λ_ _=>trivial,rfl,λ_=>rfl⟩,by simp[Bb,sq]⟩
 | .bool ..,v,K,J,I=>by simp[MP,qr]at I;exact⟨_,_,I,⟨(J.1.resolve_left aB).symm,λ_ _=>trivial,rfl,λ_=>rfl⟩,by simp[Bb,sq]⟩
 | .str ..,v,K,J,I=>by simp[MP,qr]at I;exact⟨_,_,I,⟨(J.1.resolve_left aB).symm,λ_ _=>trivial,rfl,λ_=>rfl⟩,by simp[Bb,sq]⟩
 | .tp ..,v,K,J,I=>by simp[MP,qr]at I
 | .d ..,v,K,J,I=>by simp[MP,qr]at I
 | .lit x,v,K,J,I=>by
   have I:K (.lit x) []:=by simpa [MP,qr]using I
   obtain⟨g1,g2,g3⟩:=wv J (q:=.lit x) rfl
   exact⟨_,_,I,⟨g1.symm,λlive hl=>g2 live λb hb=>(hl b hb).1,g3,λ_=>rfl⟩,by simp[Bb,sq]⟩
 | .sv a z es c,v,K,J,I=>by
   have I:K (.sv a z es c) []:=by simpa [MP,qr]using I
   obtain⟨g1,g2,g3⟩:=wv J (q:=.sv a z es c) rfl
   exact⟨_,_,I,⟨g1.symm,λlive hl=>g2 live λb hb=>(hl b hb).1,g3,λ_=>rfl⟩,by simp[Bb,sq]⟩
 | .dg n x,v,K,J,I=>by
   have I:K (.dg n x) []:=by simpa [MP,qr]using I
   obtain⟨g1,g2,g3⟩:=wv J (q:=.dg n x) rfl
   exact⟨_,_,I,⟨g1.symm,λlive hl=>g2 live λb hb=>(hl b hb).1,g3,id⟩,by simp[Bb,sq]⟩
 | .dc x,v,K,J,I=>by
   have I:K (.dc x) []:=by simpa [MP,qr]using I
   obtain⟨g1,g2,g3⟩:=wv J (q:=.dc x) rfl
   exact⟨_,_,I,⟨g1.symm,λlive hl=>g2 live λb hb=>(hl b hb).1,g3,λ_=>rfl⟩,by simp[Bb,sq]⟩
 | .pd ad z x,v,K,J,I=>by
   have I:K (.pd ad z x) []:=by simpa [MP,qr]using I
   obtain⟨g1,g2,g3⟩:=wv J (q:=.pd ad z x) rfl
   exact⟨_,_,I,⟨g1.symm,λlive hl=>g2 live λb hb=>(hl b hb).1,g3,λ_=>rfl⟩,by simp[Bb,sq]⟩
 | .pg cs,v,K,J,I=>by
   simp only[MP]at I
   have ae:=J.1.resolve_left aB
   have aa:=J.2.1
   simp only[PV.Ok]at aa
   obtain⟨aj,ba⟩:=aa
   rw[PV.OkL_iff]at aj
   cases hn:LO cs with
   | some ds=>
     rw[hn]at I
     obtain⟨g1,g2,g3⟩:=wv J (q:=.dg cs.length (.ag ds)) (by simp[qr,hn])
     exact⟨_,_,I,⟨g1.symm,λlive hl=>g2 live λb hb=>(hl b hb).1,g3,λhc=>by simp[PV.isCap]at hc⟩,by simp[Bb,sq]⟩
   | none=>
     rw[hn]at I
     obtain⟨ds,bs,k1,k2,k3,k4,k5,k6⟩:=pz h ab cs _ (λp hp=>⟨aj p hp,λk hk=>(J.2.2 k (by simp only[PV.refs];exact PV.refsL_mem.2 ⟨p,hp,hk⟩)).1⟩) I
     refine⟨_,_,k1,⟨?_,λlive Y=>⟨⟨.ag λx hx=>(k5 live Y x hx).1,λb hb hl=>?_⟩,ds,rfl,k2,k4⟩,rfl,λhc=>by simp[PV.isCap]at hc⟩,k6⟩
     ·rw[ae]
      simp only[PV.val,PV.val1,D.val,k3]
     ·simp only[D.foot]at hb
      obtain⟨x,hx,az⟩:=zJ.1 hb
      exact(k5 live Y x hx).2 b az hl
theorem Bd (h:Mem av pB w e st.bx){al}(ab:∀ p∈al,∃ v,ValOk av w e pB st.bx v p):∀(ps:aN) (vs:aJ) (K:aN->List (aH)->Prop),ps.length=vs.length->(∀(i:Nat) (p:PV) (v:Value),ps[i]?=some p->vs[i]?=some v->ValOk av w e pB st.bx v p)->R8 st al ps K ->
  ∃ as bs,K as bs/\as.map (PV.val [])=vs/\(∀(i:Nat) (q:PV),as[i]?=some q->∃ p,ps[i]?=some p/\ArgOk av pB w e st bs (q.val []) p q)/\Bb pB e st.bx bs
 | [],vs,K,hl,_,I=>by
   cases vs with
   | nil=>exact⟨[],[],I,rfl,aB,by simp[Bb,sq]⟩
   | cons=>simp at hl
 | p :: ps,vs,K,hl,J,I=>by
   cases vs with
   | nil=>simp at hl
   | cons v vs=>
     simp only[R8]at I
     obtain⟨q,b1,h1,h2,a6⟩:=Qz h ab p v _ (J 0 p v rfl rfl) I
     obtain⟨qs,b2,h3,h4,h5,a7⟩:=Bd h ab ps vs _ (by simpa using hl) (λi p v hp ai=>J (i+1) p v (by simpa using hp) (by simpa using ai)) h1
     refine⟨q::qs,b1++b2,h3,by simp[h2.1,h4],λi r hr=>?_,λb hb=>?_⟩
     ·cases i with
      | zero=>
        simp at hr;subst hr
        refine⟨p,rfl,?_⟩
        have:=h2.mono (bs':=b1++b2) λb hb=>by rw[tV];exact o5 _ hb
        exact⟨rfl,this.2⟩
      | succ i=>
        obtain⟨p',a8,ho⟩:=h5 i r (by simpa using hr)
        exact⟨p',by simpa using a8,ho.mono λb hb=>by rw[tV];exact nS _ hb⟩
     ·rw[tV]at hb
      rcases oM.1 hb with hb | hb
      ·exact a6 b hb
      ·exact a7 b hb
end
theorem EE {p f caps bx v}(I:ValOk av w e pB bx v p)(h:X3 p=some (f,caps)):ValOk av w e pB bx v (.fn f caps):=by
 unfold X3 at h;split at h
 ·cases h;exact I
 ·rename_i g ds;cases h;exact JV I
 ·cases h
theorem P9 {bs d}(h:Off bs d):∀ b∈sq bs,b∉d.foot:=by
 intro b hb;simp only[sq,nk]at hb;obtain⟨x,J,I⟩:=hb;cases x with
 | none=>simp at I
 | some ad=>simp at I;subst I;exact h _ J ad rfl
def PV.offB (b:Nat):PV->Prop
 | .sv a z es c=>b∉(D.sl a z es c).foot
 | .dg _ x=>b∉x.foot
 | .dc x=>b∉x.foot
 | _=>True
theorem Jp {bs}:∀ {ps:aN}{K:Prop},Wv bs ps K->K/\∀ b∈sq bs,∀ p∈ps,p.offB b
 | [],K,h=>⟨h,aB⟩
 | p::ps,K,h=>by
   have step:(∀ b∈sq bs,p.offB b)->Wv bs ps K->K/\∀ b∈sq bs,∀ q∈p::ps,q.offB b:=λI J=>by
    obtain⟨O,U⟩:=Jp J;refine⟨O,λb hb q hq=>?_⟩;rcases oK.1 hq with rfl | hq
    ·exact I b hb
    ·exact U b hb q hq
   cases p<;>simp only[Wv]at h
   case sv=>exact step (P9 h.1) h.2
   case dg=>exact step (P9 h.1) h.2
   case dc=>exact step (P9 h.1) h.2
   all_goals exact step (λ_ _=>trivial) h
theorem Jq {bs}:∀ {rows:aO}{K:Prop},zAi bs rows K->K/\∀ b∈sq bs,∀ B∈rows,B.offB b
 | [],K,h=>⟨h,aB⟩
 | B::rows,K,h=>by
   cases B<;>simp only[zAi]at h
   obtain⟨I,J⟩:=Jq h.2;refine⟨I,λb hb B hB=>?_⟩;rcases oK.1 hB with rfl | hB
   ·have:=P9 h.1 b hb
    simpa [D.foot,Bx.offB]using this
   ·exact J b hb B hB
theorem RW {bs ps rows K}(h:zBL bs ps rows K):K/\∀ b∈sq bs,(∀ p∈ps,p.offB b)/\∀ B∈rows,B.offB b:=by
 cases bs with
 | nil=>exact⟨h,by simp[sq]⟩
 | cons b bs=>simp only[zBL]at h;obtain⟨I,J⟩:=Jp h;obtain⟨O,U⟩:=Jq I;exact⟨O,λb hb=>⟨J b hb,U b hb⟩⟩
theorem uG {N}:∀ {ps:aN}{K:Prop},(∀ p∈ps,match p with | .sv a z es c=>Bel N (.sl a z es c) | .dg _ x=>Bel N x | _=>True)->U1 N ps K->K
 | [],K,_,h=>h
 | p::ps,K,hb,h=>by
   have J:=hb p aB;have I:=λq O=>hb q (nj _ O);cases p<;>simp only[U1]at h J
   case sv=>exact uG I (h J)
   case dg=>exact uG I (h J)
   all_goals exact uG I h
theorem AS {N}:∀ {rows:aO}{K:Prop},(∀ t z es c,Bx.arr t z es c∈rows->Bel N (.ag es))->Y8 N rows K->K
 | [],K,_,h=>h
 | B::rows,K,hb,h=>by
   have I:=λt z es c J=>hb t z es c (nj _ J);cases B<;>simp only[Y8]at h
   case arr t z es c=>exact AS I (h (hb t z es c aB))
   all_goals exact AS I h
theorem ND {f}(h:xt P f=true) args w:(callFunc f args).run P w=.ok (.enter f args) w:=by
 unfold xt at h;cases I:P.funcs[f]? with
 | none=>simp[I]at h
 | some fn=>
   simp only[I,oL,bne_iff_ne,ne_eq]at h;obtain⟨J,O⟩:=h;cases hb:fn.body with
   | none=>simp[hb]at O
   | some c=>simp[callFunc,I,J,hb]
theorem PV.shift_val1 {d e e'}(I:∀ k,Env.at (e++e') (d+k)=e'.at k){p:PV}(J:p.plainR=true):(p.shift d).val1 (e++e')=p.val1 e':=by cases p<;>simp[PV.plainR]at J<;>simp[PV.shift,PV.val1,PV.cv,I]
theorem PV.shift_cv {d e e'}(I:∀ k,Env.at (e++e') (d+k)=e'.at k){p:PV}(J:p.plainR=true):(p.shift d).cv (e++e')=p.cv e':=by cases p<;>simp[PV.plainR]at J<;>simp[PV.shift,PV.cv,I]
theorem Rh {d e e'}(I:∀ k,Env.at (e++e') (d+k)=e'.at k){ps}(J:∀ p∈ps,p.plainR=true){pk}:(Iv pk (ps.map (PV.shift d))).val (e++e')=Rg pk e' ps:=by
 cases pk with
 | true=>simp only[Iv,Rg,PV.val,PV.val1,PV.cvs_eq,mO];congr 2;exact nF λp h=>PV.shift_cv I (J p h)
 | false=>
 have key:∀ p∈ps,(p.shift d).val1 (e++e')=p.val1 e':=λp h=>PV.shift_val1 I (J p h);have one:∀ p,p∈ps->(p.shift d).val (e++e')=p.val1 e':=λp h=>by
  rw[<-key p h]
  have:=J p h
  cases p<;>simp[PV.plainR]at this<;>rfl
 rcases ps with _ | ⟨p,_ | ⟨q,ps⟩⟩
 ·rfl
 ·exact one p aB
 ·simp only[o9,Iv,Na,PV.val,Rg,T7];rw[key p aB,key q aB,mO];congr 4;exact nF λr O=>key r (by simp[O])
theorem Jz {d}{p:PV}(I:p.plainR=true):∀ k∈(p.shift d).refs,∃ j∈p.refs,k=d+j:=by cases p<;>simp[PV.plainR]at I<;>simp[PV.shift,PV.refs]
theorem Nb {pk ps}:∀ k∈(Iv pk ps).refs,∃ p∈ps,k∈p.refs:=by
 intro k I;cases pk with
 | true=>simp only[Iv,PV.refs]at I;exact PV.refsL_mem.1 I
 | false=>
 rcases ps with _ | ⟨p,_ | ⟨q,ps⟩⟩
 ·simp[Iv,Na,PV.refs,PV.refsL]at I
 ·exact⟨p,aB,I⟩
 ·simp only[Iv,Na,PV.refs]at I;exact PV.refsL_mem.1 I
theorem UV {live pk ps}(h:∀ p∈ps,p.Ok w live)(hc:pk=true->∀ p∈ps,p.isC):(Iv pk ps).Ok w live:=by
 cases pk with
 | true=>simp only[Iv,PV.Ok];exact⟨PV.OkL_iff.2 h,hc rfl⟩
 | false=>
 rcases ps with _ | ⟨p,_ | ⟨q,ps⟩⟩
 ·simp[Iv,Na,PV.Ok,PV.OkL]
 ·exact h p aB
 ·simp only[Iv,Na,PV.Ok];exact PV.OkL_iff.2 h
theorem NH {d}{p:PV}(h:p.isC):(p.shift d).isC:=by cases p<;>exact h
theorem QT.app_pk {l}{Q:QT l}{b ps rows N}(I:FS l=true)(h:QT.app l Q b ps rows N):∀ p∈ps,p.isC:=by
 cases l with
 | nil=>simp[FS]at I
 | cons s l=>cases s<;>simp[FS]at I;exact QT.app_cells l Q b ps rows N h.1 h.2
theorem SC {N bs K}(h:zAx N bs K)(hb:xj N bs):K:=by
 unfold zAx at h;split at h
 ·exact h
 ·exact h hb
def BkR (as J:aN) p q:=q=p\/∃(j:Nat) (a:aH) (z:Nat) (es:aM) (c k z' lo n I:Nat),p=PV.dc (.sl a z es c)/\as[j]?=some (PV.sv a z es c)/\J[j]?=some (PV.sb k z' lo n I)/\q=PV.sb k z' lo n I
theorem Gf {as J}:∀(l:List Sh)(ps:aN)(K:aN->Prop),bkP as J l ps K->∃ qs:aN,K qs/\qs.length=ps.length/\∀(i:Nat)(q:PV),qs[i]?=some q->∃ p:PV,ps[i]?=some p/\BkR as J p q
 | [],ps,K,h=>⟨ps,h,rfl,λi q hq=>⟨q,hq,.inl rfl⟩⟩
 | s :: l,ps,K,h=>by
   have I:∀(p q:PV) (ps:aN),BkR as J p q->bkP as J l ps (λqs=>K (q::qs)) ->
     ∃ qs:aN,K qs/\qs.length=(p::ps).length/\∀(i:Nat) (q:PV),qs[i]?=some q->∃ Y:PV,(p::ps)[i]?=some Y/\BkR as J Y q:=λp q ps O hb=>by
    obtain⟨qs,g1,g2,g3⟩:=Gf l ps _ hb;refine⟨q::qs,g1,by simp[g2],λi r U=>?_⟩;cases i with
    | zero=>simp at U;subst U;exact⟨p,rfl,O⟩
    | succ i=>exact g3 i r (by simpa using U)
   have nil:K []->∃ qs:aN,K qs/\qs.length=([]:aN).length/\∀(i:Nat) (q:PV),qs[i]?=some q->∃ p:PV,([]:aN)[i]?=some p/\BkR as J p q:=λh=>⟨[],h,rfl,aB⟩
   cases s with
   | pk=>exact Gf l ps K h
   | bk j=>
     cases ps with
     | nil=>exact nil h
     | cons p ps=>
       simp only[bkP]at h;split at h
       ·rename_i x a z es c k z' lo n c' h1 h2;exact I _ _ ps (.inr ⟨j,a,z,es,c,k,z',lo,n,c',by rw[h.1],h1,h2,rfl⟩) h.2
       ·exact I _ _ ps (.inl rfl) h
   | _=>
     cases ps with
     | nil=>exact nil h
     | cons p ps=>exact I p p ps (.inl rfl) h
theorem WQ {E pk ps qs}(hl:qs.length=ps.length)(h:∀(i:Nat)(q p:PV),qs[i]?=some q->ps[i]?=some p->q.cv E=p.cv E/\q.val1 E=p.val1 E/\q.val E=p.val E):(Iv pk qs).val E=(Iv pk ps).val E:=by
 have O:∀(F:PV->Value),(∀(i:Nat) (q p:PV),qs[i]?=some q->ps[i]?=some p->F q=F p)->qs.map F=ps.map F:=λF U=>by
  apply nL;intro i;rw[oF,oF];by_cases hi:i<ps.length
  ·rw[oH hi,oH (by omega:i<qs.length)];simp only[oX,od];exact U i _ _ (oH _) (oH _)
  ·rw[oc aA,oc aA]
 cases pk with
 | true=>simp only[Iv,PV.val,PV.val1,PV.cvs_eq];rw[O _ λi q p I J=>(h i q p I J).1]
 | false=>
   have Y:=O _ λi q p I J=>(h i q p I J).2.1;rcases ps with _ | ⟨p,_ | ⟨p2,ps⟩⟩<;>rcases qs with _ | ⟨q,_ | ⟨q2,qs⟩⟩<;>simp at hl
   ·rfl
   ·exact(h 0 q p rfl rfl).2.2
   ·simp only[Iv,Na,PV.val];rw[Y]
theorem OV (h:Rel av w0 e0 pS pB a w e st)(au:∀ k∈pB,k<st.bx.length){sh}{o:Oper}{c x args K}(ho:o.op=.call c)(hc:c.callee=.value x)(hx:∀ t,x=.tmp t->t∉pS)(ha:args.length=c.args.size)(b3:∀(i:Nat) (p:PV) (y:Operand),args[i]?=some p->c.args[i]?=some y->ValOk av w e pB st.bx (a.eval y) p)(b7:∀ i,i∈pS->some i≠o.dst->i∈pS')(hs:Xk P sh st o.dst x args K){next Q}(hn:∀ v w' e' st',K st'->(∃ rows p N,st'=St.put { st with bx:=st.bx++rows,N:=N } o.dst p)->Rel av w0 e0 pS' pB (a.put o.dst v) w' e' st'->next (a.put o.dst v) w'):o.wp P a w next Q:=by
 have ox:=vn h hx;unfold Xk at hs;split at hs
 rotate_left
 ·exact hs.elim
 rename_i f caps hf;split at hs
 rotate_left
 ·exact hs.elim
 rename_i U;rw[ob]at U;have ox:=EE ox.valOk hf;have b8:=ox.1.resolve_left aB;have b9:a.eval x=.func (.func f) #[] (PV.cvs e caps).toArray:=b8;have ak:PV.OkL w (za av pB e st.bx) caps:=by have:=ox.2.1;simpa only[PV.Ok]using this
 rw[PV.OkL_iff]at ak;have az:∀ p∈caps,∀ k∈p.refs,k∉pB/\k<st.bx.length:=λp O k hk=>ox.2.2 k (by simp only[PV.refs];exact PV.refsL_mem.2 ⟨p,O,hk⟩);have ac:∀(i:Nat) (p:PV) (v:Value),(args++caps)[i]?=some p->(c.args.toList.map a.eval++caps.map (PV.cv e))[i]?=some v->ValOk av w e pB st.bx v p:=by
  intro i p v h1 h2;by_cases hi:i<args.length
  ·rw[oQ hi]at h1;have a6:i<c.args.toList.length:=aF
   rw[oQ (by simpa using a6),oF,oH a6]at h2;simp at h2;subst h2;exact b3 i p _ h1 (by rw[o6 aA])
  ·rw[oU aA]at h1;rw[oU aF,oF]at h2;have a7:i - (c.args.toList.map a.eval).length=i - args.length:=aF
   rw[a7,h1]at h2;simp at h2;subst h2;have hm:=oB h1;exact⟨.inr (Cl (U p hm)).symm,ak p hm,az p hm⟩
 have a8:(args++caps).length=(c.args.toList.map a.eval++caps.map (PV.cv e)).length:=aF
 have ah:∀ p∈args++caps,∃ v,ValOk av w e pB st.bx v p:=λp O=>by obtain⟨i,hi⟩:=oS.1 O;have ae:=(oD.1 hi).1;exact⟨_,ac i p _ hi (oH (by rw[<-a8];exact ae))⟩
 have ba:=ah;obtain⟨as,bs,hK,bb,hq,aa⟩:=Bd h.toMem ah (args++caps) (c.args.toList.map a.eval++caps.map (PV.cv e)) _ aF ac hs;obtain⟨ca,hA⟩:=SC (hK w.heap.size h.hN) λb hb ad cd=>by obtain⟨k,hk⟩:=aa ad.block (by simp only[sq,nk];exact⟨b,hb,by simp[cd]⟩);exact Lives.lt h.toMem hk
 have ae:∀ b,za av pB e st.bx b->b<w.heap.size:=λb hb=>hb.elim (λhb=>by have:=h.avl.lt b hb;have:=h.size;omega) λ⟨k,hk⟩=>Lives.lt h.toMem hk;have hC:=hA (λb=>za av pB e st.bx b/\b∉sq bs) w rfl ⟨λb hb=>ae b hb.1,h.glob,λb hb=>⟨.inl (h.avl.ga b hb),λhc=>by obtain⟨k,hk⟩:=aa b hc;exact h.avn k b hk (h.avl.ga b hb)⟩,λb hb=>by simp,λx hx=>aB⟩ λp O=>by obtain⟨i,hi⟩:=oS.1 O;obtain⟨p',_,ho⟩:=hq i p hi;exact⟨ho.2.1 _ λb hb=>hb,ho.2.2.1⟩
 have bc:(execOp a.eval o).run P w=.ok (.enter f (as.map (PV.val [])).toArray) w:=by
  have e1:(as.map (PV.val [])).toArray=c.args.map a.eval++(PV.cvs e caps).toArray:=by rw[bb,PV.cvs_eq];apply nc.1;simp
  rw[e1];obtain⟨dst,op,ty,pos,after,guard⟩:=o;simp only at ho;subst ho;simp only[execOp,resolve,hc,Deferred.ofValue,b9,invoke];simp[ND ca]
 unfold Oper.wp;rw[bc,Oper.upon_enter];refine hC.mono λen w' aw=>?_;cases en with
 | panicked=>exact aw.elim
 | outgrown=>exact aw.elim
 | returned v=>
   obtain⟨ps,rows,e',hd⟩:=aw;have bg:=QT.app_lam (sh f) st.bx.length 0 _ ps rows _ hd.q;have I:=QT.app_plain _ _ _ _ _ _ hd.q;obtain⟨bh,bi⟩:=QT.app_rows _ _ _ _ _ _ hd.q;obtain⟨qs,ce,cf,bj⟩:=Gf _ _ _ (bg hd.size);obtain⟨hB,al⟩:=RW ce;have cq:∀(P:PV->Prop),(∀ p∈ps,P (p.shift st.bx.length))->∀ q∈ps.map (PV.shift st.bx.length),P q:=λP hP q hq=>by obtain⟨p,O,rfl⟩:=oT.1 hq;exact hP p O
   have ai:∀ q∈qs,(∃ p∈ps,q=p.shift st.bx.length)\/∃ k z' lo n c',q=.sb k z' lo n c'/\k∉pB/\k<st.bx.length:=λq hq=>by
    obtain⟨i,hi⟩:=oS.1 hq;obtain⟨p',cg,h2⟩:=bj i q hi;rcases h2 with rfl | ⟨j,a,z,es,c,k,z',lo,n,c',_,_,ah,rfl⟩
    ·obtain⟨p,O,rfl⟩:=oT.1 (oB cg);exact .inl ⟨p,O,rfl⟩
    ·obtain⟨v,hv⟩:=ba _ (oB ah);exact .inr ⟨k,z',lo,n,c',rfl,hv.2.2 k (by simp[PV.refs])⟩
   have aa:=uG (N:=w'.heap.size) (λq hq=>by
    rcases ai q hq with⟨p,O,rfl⟩ | ⟨k,z',lo,n,c',rfl,_⟩
    ·have au:=I p O;have J:=hd.ok p O;cases p<;>simp only[PV.shift]<;>simp only[PV.Ok]at J
     ·exact J.1.lt
     ·exact J.1.1.lt
    ·trivial) hB
   have ax:=AS (N:=w'.heap.size) (λt z es cc hm b hb=>by
    obtain⟨i,hi⟩:=oS.1 hm
    have:=hd.m.bo i _ hi aB
    simp only[D.foot]at hb;obtain⟨y,hy,ch⟩:=zJ.1 hb;exact(this y hy).1.lt b ch) aa
   have bm:∀ b,za av pB e st.bx b->(za av pB e st.bx b/\b∉sq bs)\/b∈sq bs:=λb hb=>by
    by_cases bp:b∈sq bs
    ·exact .inr bp
    ·exact .inl ⟨hb,bp⟩
   obtain⟨hR,Y⟩:=Yc h au bm hd.size hd.old hd.m bh hd.fresh (λb hb=>(al b hb).2) hd.fz hd.ku;have bq:∀ k,Env.at (e++e') (st.bx.length+k)=e'.at k:=λk=>by rw[Env.at_app,if_neg (by rw[h.el];omega)];congr 1;rw[h.el];omega
   refine hn v w' (e++e') _ ax ⟨rows,_,_,rfl⟩ (wE hR ⟨.inr ?_,?_,?_⟩ b7)
   ·rw[hd.v,<-Rh bq I];refine(WQ cf λi q p' cj ck=>?_).symm;obtain⟨cr,ao,h2⟩:=bj i q cj;rw[ck]at ao;cases ao;rcases h2 with rfl | ⟨j,a0,z,es,c0,k,z',lo,n,c',rfl,bt,aq,rfl⟩
    ·exact⟨rfl,rfl,rfl⟩
    ·have aj:∃ vj,(c.args.toList.map a.eval++caps.map (PV.cv e))[j]?=some vj:=⟨_,oH (by rw[<-a8];exact(oD.1 aq).1)⟩
     obtain⟨vj,aj⟩:=aj;have bv:=ac j _ _ aq aj;have cm:vj=(PV.sv a0 z es c0).val []:=by have h5:=oY (λl=>l[j]?) bb;simp only[oF,bt,oX]at h5;rw[aj]at h5;exact(oZ h5).symm
     have ae:=(bv.2.2 k (by simp[PV.refs])).2;have bw:Env.at (e++e') k=e.at k:=by rw[Env.at_app,if_pos (by rw[h.el];exact ae)]
     have cn:=bv.1.resolve_left aB;have e2:(PV.sb k z' lo n c').cv (e++e')=(PV.sb k z' lo n c').cv e:=by simp only[PV.cv,bw]
     have e3:(PV.sb k z' lo n c').cv e=(D.sl a0 z es c0).cv:=by
      have h6:(PV.sb k z' lo n c').val e=(PV.sv a0 z es c0).val []:=by rw[<-cn,cm]
      exact h6
     exact⟨e2.trans e3,e2.trans e3,e2.trans e3⟩
   ·refine UV (λq hq=>?_) (λco q hq=>?_)
    ·rcases ai q hq with⟨p,O,rfl⟩ | ⟨k,z',lo,n,c',rfl,_⟩
     ·have bz:=I p O;have J:=hd.ok p O;have ab:∀ b∈sq bs,(p.shift st.bx.length).offB b:=λb hb=>(al b hb).1 _ hq;cases p<;>simp[PV.plainR]at bz<;>simp only[PV.shift,PV.Ok,PV.offB]at J ab ⊢
      ·exact Y _ J ab
      ·exact⟨Y _ J.1 ab,J.2⟩
      ·exact⟨Y _ J.1 ab,J.2⟩
     ·trivial
    ·rcases ai q hq with⟨p,O,rfl⟩ | ⟨k,z',lo,n,c',rfl,_⟩
     ·exact NH (QT.app_pk co hd.q p O)
     ·trivial
   ·intro k hk;obtain⟨q,cp,ay⟩:=Nb k hk;rcases ai q cp with⟨p,O,rfl⟩ | ⟨k',z',lo,n,c',rfl,h1,h2⟩
    ·obtain⟨j,hj,rfl⟩:=Jz (I p O) k ay;have ct:=(bi p O).2.2 j hj;refine⟨λhc=>by have:=au _ hc;omega,aF⟩
    ·simp[PV.refs]at ay;subst ay;exact⟨h1,aF⟩
variable {av:Nat->Prop} {P:Program} {w0 w w':World} {e0 e:Env} {pS pS' pB pB':aI} {a:Act} {st st':St}
def D5:PV->Option Sh
 | .int k _=>some (.int k)
 | .bool _=>some .bool
 | .str _=>some .str
 | .sv _ z _ _=>some (.sl z)
 | _=>none
def Y0:aN->List Sh
 | []=>[]
 | p::ps=>match D5 p with
   | some s=>s::Y0 ps
   | none=>Y0 ps
def Uf:aN->aN
 | []=>[]
 | p::ps=>match D5 p with
   | some _=>p::Uf ps
   | none=>Uf ps
def Yz:Bx->List Sh
 | .var cs=>Y0 cs
 | .vd _ n=>[.ag n]
 | .arr _ z _ _=>[.sl z]
 | .gone=>[]
def Rz:Bx->aN
 | .var cs=>Uf cs
 | .vd x n=>[.dg n x]
 | .arr _ z es c=>[.sv none z es c]
 | .gone=>[]
def Ru (bx:aO):List Sh:=bx.flatMap Yz
def IJ (bx:aO):aN:=bx.flatMap Rz
def PP:aN->aN->aN × aN
 | [],es=>([],es)
 | p :: ps,es=>match D5 p with
   | some _=>match es with
     | q::es=>(q::(PP ps es).1,(PP ps es).2)
     | []=>([],[])
   | none=>(p::(PP ps es).1,(PP ps es).2)
def Ql:Bx->aN->Bx × aN
 | .var cs,es=>(.var (PP cs es).1,(PP cs es).2)
 | .vd y n,es=>match es with
   | .dg _ x::es=>(.vd x n,es)
   | _=>(.vd y n,[])
 | .arr t z y n,es=>match es with
   | .sv _ _ ds c::es=>(.arr t z ds c,es)
   | _=>(.arr t z y n,[])
 | .gone,es=>(.gone,es)
def Rm:aO->aN->aO
 | [],_=>[]
 | B::bs,es=>(Ql B es).1::Rm bs (Ql B es).2
def Zs (bs:aO):PV->PV
 | .sb k z lo n c=>match bs[k]? with
   | some (.arr _ _ es I)=>.sb k z lo es.length I
   | _=>.any
 | p=>p
def Zr (bs:aO):Bx->Bx
 | .var cs=>.var (cs.map (Zs bs))
 | B=>B
def MB (bx:aO)(es:aN):aO:=(Rm bx es).map (Zr (Rm bx es))
def Y7 N(p:PV):=match p with | .sv a z es c=>Bel N (.sl a z es c) | .dg _ x=>Bel N x | _=>True
theorem SD {live p}(h:p.Ok w live):Y7 w.heap.size p:=by
 cases p<;>simp only[PV.Ok]at h<;>simp only[Y7]
 ·exact h.1.lt
 ·exact h.1.1.lt
theorem L8:∀ {cs:aN}{p:PV},p∈Uf cs->p∈cs
 | q::cs,p,h=>by
   simp only[Uf]at h;split at h
   ·rcases oK.1 h with rfl | h
    ·simp
    ·simp[L8 h]
   ·simp[L8 h]
theorem WY {live B}(h:B.Ok w live):∀ p∈Rz B,Y7 w.heap.size p:=by
 intro p I;cases B with
 | var cs=>simp only[Rz]at I;exact SD (PV.OkL_iff.1 h.1 p (L8 I))
 | vd x n=>simp[Rz]at I;subst I;exact Good.lt h
 | arr t z es c=>simp[Rz]at I;subst I;intro b hb;simp only[D.foot]at hb;obtain⟨y,O,J⟩:=zJ.1 hb;exact(h y O).1.lt b J
 | gone=>simp[Rz]at I
theorem Qr {pB bx}(h:Mem av pB w e bx)(J:pB=[]){bs}(hs:∀ B∈bs,B∈bx):∀ p∈IJ bs,Y7 w.heap.size p:=by intro p I;simp only[IJ,mJ]at I;obtain⟨B,O,I⟩:=I;obtain⟨k,U⟩:=oS.1 (hs B O);exact WY (h.bo k B U (by simp[J])) p I
def T8 (full:List Sh)(U:aO)(e:Env)(ps:aN):Value:=match full with
 | .bk j::_=>match U[j]? with
   | some (.arr _ z es c)=>(PV.sb j z 0 es.length c).cv e
   | _=>undef
 | _=>Rg (FS full) e ps
theorem Hb {full U e ps}(h:∀ j l,full≠.bk j::l):T8 full U e ps=Rg (FS full) e ps:=by
 unfold T8;split
 ·exact absurd rfl (h _ _)
 ·rfl
structure DoneB (full:List Sh) (Q:QT full) (av:Nat->Prop) (w0:World) (E:Env) (bx:aO) (v:Value) (w:World) (ps es:aN) (rows:aO) (e:Env):Prop where
 q:QT.app full Q bx.length (ps++es) rows w.heap.size
 v:v=T8 full (MB bx es) e ps
 m:Mem av [] w e (MB bx es++rows)
 ok:∀ p∈ps,p.Ok w (za av [] e (MB bx es++rows))
 fix:∀(k:Nat) (B:Bx),bx[k]?=some B->B.isArr=false->e.at k=some ((E.at k).getD 0)
 fresh:∀(k b:Nat),e.at k=some b->w0.heap.size<=b\/(k<bx.length/\some b∈E)
 size:w0.heap.size<=w.heap.size
 old:∀ b,b<w0.heap.size->some b∉E->w.heap[b]?=w0.heap[b]?
 fz:∀(b:Nat) (c:Array Value) (t:aK) (z:Nat × Nat),(w0.heap.size<=b\/some b∈E)->w.heap[b]?=some (.cells c t z)->Fz z
 ku:KU w0 w
 ns:∀ p∈es,p.refs=[]
 be:∀ p∈es,Y7 w.heap.size p
def ZJ (full:List Sh)(Q:QT full)(I:Nat)(av:Nat->Prop)(w0:World)(E:Env)(bx:aO):Ending->World->Prop
 | .returned v,w=>∃ ps es rows e,ps.length=I/\DoneB full Q av w0 E bx v w ps es rows e
 | _,_=>False
def zB8 (P:Program)(f:aL):Nat:=match P.funcs[f]? with
 | some fn=>fn.resultTypes.size
 | none=>0
def HP (P:Program)(f:aL)(full:List Sh)(bx:aO):Nat:=match FS full with
 | true=>full.length - 1 - (Ru bx).length
 | false=>zB8 P f
def ZZ:PV->PV
 | .int k _=>.int k 0
 | .bool _=>.bool false
 | .str _=>.str ⟨#[]⟩
 | .sv _ z _ _=>.sv none z [] 0
 | .sb k z lo _ _=>.sb k z lo 0 0
 | p=>p
def xd:Bx->Bx
 | .var cs=>.var (cs.map ZZ)
 | .vd _ n=>.vd default n
 | .arr t z _ _=>.arr t z [] 0
 | .gone=>.gone
structure BCalls (P:Program) (f:aL) (full:List Sh) (args:aN) (bx:aO) (N:Nat) (Q:QT full):Prop where
 c:xt P f=true
 h : ∀(av:Nat->Prop) (w0:World) (E:Env),w0.heap.size=N->Avl av w0 E->Mem av [] w0 E bx->(∀ k b,Lives [] E bx k b->¬av b) ->
   (∀ p∈args,p.Ok w0 (za av [] E bx)/\∀ k∈p.refs,k<bx.length)->Calls P f (args.map (PV.val E)).toArray w0 (ZJ full Q (HP P f full (bx.map xd)) av w0 E (bx.map xd))
structure BPick (e ne:Env) (m:Nat) (B B':Bx):Prop where
 h : B'=.gone\/(B'=B/\∀ cs,B≠.var cs)\/∃ cs cs',B=.var cs/\B'=.var cs'/\cs'.length=cs.length/\∀(i:Nat) (q:PV),cs'[i]?=some q->q=.any \/
   ∃ p,cs[i]?=some p/\(p=.any->q=.any)/\p.cv e=q.cv ne/\(∀ w live,p.Ok w live->q.Ok w live)/\(p.isC->q.isC)/\∀ r∈q.refs,r<m
theorem P2 {us:List (Option Nat)}{nb av' bx}(h:Mem av pB w e bx)(ai:∀ b,av' b->za av pB e bx b)(hl:nb.length=us.length)(aj:∀(i j k:Nat),us[i]?=some (some k)->us[j]?=some (some k)->i=j)(hB:∀(j:Nat) (B':Bx),nb[j]?=some B'->(us[j]?=some none/\∃ t z,B'=.arr t z [] 0)\/∃ k B,us[j]?=some (some k)/\k∉pB/\bx[k]?=some B/\BPick e (us.map (·.bind e.at)) us.length B B') :
  Mem av' [] w (us.map (·.bind e.at)) nb/\(∀ b,za av' [] (us.map (·.bind e.at)) nb b->za av pB e bx b)/\∀ j b,Lives [] (us.map (·.bind e.at)) nb j b->∃ k,us[j]?=some (some k)/\Lives pB e bx k b:=by
 have ab:∀(j:Nat) (u:Option Nat),us[j]?=some u->Env.at (us.map (·.bind e.at)) j=u.bind e.at:=λj u hj=>by simp[Env.at,oA,hj]
 have J:∀ j b,Lives [] (us.map (·.bind e.at)) nb j b->∃ k,us[j]?=some (some k)/\Lives pB e bx k b:=λj b ⟨_,h2,B',h3,h4⟩=>by
  rcases hB j B' h3 with⟨Y,_⟩ | ⟨k,B,Y,h6,h7,h8⟩
  ·rw[ab j _ Y]at h2;cases h2
  ·rw[ab j _ Y]at h2;refine⟨k,Y,h6,h2,B,h7,λhg=>h4 ?_⟩;subst hg;rcases h8.h with h9 | ⟨h9,_⟩ | ⟨cs,_,h9,_⟩
   ·exact h9
   ·exact h9
   ·cases h9
 have aa:∀ b,za av' [] (us.map (·.bind e.at)) nb b->za av pB e bx b:=λb hb=>hb.elim (ai b) λ⟨j,hj⟩=>by obtain⟨k,_,h2⟩:=J j b hj;exact .inr ⟨k,h2⟩
 refine⟨{
  el:=by simp[hl]
  br:=λj B' hj _=>?_
  bo:=λj B' hj _=>?_
  bf:=λj B' hj _ i hi=>?_
  inj:=λi j b hi hj=>?_ },aa,J⟩
 ·rcases hB j B' hj with⟨Y,t,z,rfl⟩ | ⟨k,B,Y,h6,h7,h8⟩
  ·rw[ab j _ Y];exact .inl ⟨rfl,rfl,rfl⟩
  ·rw[ab j _ Y];have h9:=h.br k B h7 h6;rcases h8.h with O | ⟨rfl,O⟩ | ⟨cs,cs',rfl,rfl,ac,U⟩
   ·subst O;exact True.intro
   ·refine h9.congr (λ_ _=>rfl) λi hi=>?_;cases B' with
    | var cs=>exact absurd rfl (O cs)
    | _=>simp[Bx.refs]at hi
   ·obtain⟨b,c,t,g1,g2,g3,g4⟩:=h9;refine⟨b,c,t,g1,g2,g3.trans ac.symm,λi q hq=>?_⟩;rcases U i q hq with I | ⟨p,hp,I,ae,_⟩
    ·exact .inl I
    ·rcases g4 i p hp with h15 | h15
     ·exact .inl (I h15)
     ·exact .inr (by rw[<-ae];exact h15)
 ·rcases hB j B' hj with⟨Y,t,z,rfl⟩ | ⟨k,B,Y,h6,h7,h8⟩
  ·intro x hx;simp at hx
  ·have h9:=(h.bo k B h7 h6).mono (w':=w) (live':=za av' [] (us.map (·.bind e.at)) nb) (λ_ _ _=>rfl) (oC _) λb _=>aa b;rcases h8.h with O | ⟨rfl,_⟩ | ⟨cs,cs',rfl,rfl,ac,U⟩
   ·subst O;exact True.intro
   ·exact h9
   ·obtain⟨g1,g2⟩:=h9;rw[PV.OkL_iff]at g1;refine⟨PV.OkL_iff.2 λq hq=>?_,λq hq=>?_⟩
    ·obtain⟨i,hi⟩:=oS.1 hq;rcases U i q hi with I | ⟨p,hp,_,_,I,_⟩
     ·subst I;trivial
     ·exact I _ _ (g1 p (oB hp))
    ·obtain⟨i,hi⟩:=oS.1 hq;rcases U i q hi with I | ⟨p,hp,ae,_,_,I,_⟩
     ·exact .inl I
     ·rcases g2 p (oB hp)with h15 | h15
      ·exact .inl (ae h15)
      ·exact .inr (I h15)
 ·refine⟨aB,?_⟩;rw[hl];rcases hB j B' hj with⟨Y,t,z,rfl⟩ | ⟨k,B,Y,h6,h7,h8⟩
  ·simp[Bx.refs]at hi
  ·rcases h8.h with O | ⟨rfl,O⟩ | ⟨cs,cs',rfl,rfl,ac,U⟩
   ·subst O;simp[Bx.refs]at hi
   ·cases B' with
    | var cs=>exact absurd rfl (O cs)
    | _=>simp[Bx.refs]at hi
   ·simp only[Bx.refs]at hi;obtain⟨q,hq,ah⟩:=PV.refsL_mem.1 hi;obtain⟨n,hn⟩:=oS.1 hq;rcases U n q hn with I | ⟨p,hp,_,_,_,_,I⟩
    ·subst I;simp[PV.refs]at ah
    ·simpa using I i ah
 ·obtain⟨k,h1,h2⟩:=J i b hi;obtain⟨l,h3,h4⟩:=J j b hj;have ak:=h.inj k l b h2 h4;subst ak;exact aj i j k h1 h3
mutual
def PV.mapR (g:Nat->Nat):PV->PV
 | .pb k z i o=>.pb (g k) z i o
 | .sb k z lo n c=>.sb (g k) z lo n c
 | .fn f caps=>.fn f (PV.mapRL g caps)
 | .pg cs=>.pg (PV.mapRL g cs)
 | .tp cs=>.tp (PV.mapRL g cs)
 | p=>p
def PV.mapRL (g:Nat->Nat):aN->aN
 | []=>[]
 | p::ps=>PV.mapR g p::PV.mapRL g ps
end
mutual
theorem PV.mapR_refs g:∀ p:PV,(p.mapR g).refs=p.refs.map g
 | .pb ..=>rfl
 | .sb ..=>rfl
 | .fn f caps=>by simp only[PV.mapR,PV.refs];exact PV.mapRL_refs g caps
 | .pg cs=>by simp only[PV.mapR,PV.refs];exact PV.mapRL_refs g cs
 | .tp cs=>by simp only[PV.mapR,PV.refs];exact PV.mapRL_refs g cs
 | .any=>rfl
 | .int ..=>rfl
 | .bool ..=>rfl
 | .str ..=>rfl
 | .lit ..=>rfl
 | .sv ..=>rfl
 | .d ..=>rfl
 | .dc ..=>rfl
 | .dg ..=>rfl
 | .pd ..=>rfl
theorem PV.mapRL_refs g:∀ ps:aN,PV.refsL (PV.mapRL g ps)=(PV.refsL ps).map g
 | []=>rfl
 | p::ps=>by simp only[PV.mapRL,PV.refsL,PV.mapR_refs g p,PV.mapRL_refs g ps,mm]
end
mutual
theorem PV.mapR_cv {g e e'}:∀ p:PV,(∀ k∈p.refs,e'.at (g k)=e.at k)->(p.mapR g).cv e'=p.cv e
 | .pb k z i o,h=>by simp only[PV.mapR,PV.cv,h k (by simp[PV.refs])]
 | .sb k z lo n c,h=>by simp only[PV.mapR,PV.cv,h k (by simp[PV.refs])]
 | .fn f caps,h=>by simp only[PV.mapR,PV.cv,PV.mapRL_cvs caps h]
 | .pg cs,h=>rfl
 | .tp cs,h=>rfl
 | .any,h=>rfl
 | .int ..,h=>rfl
 | .bool ..,h=>rfl
 | .str ..,h=>rfl
 | .lit ..,h=>rfl
 | .sv ..,h=>rfl
 | .d ..,h=>rfl
 | .dc ..,h=>rfl
 | .dg ..,h=>rfl
 | .pd ..,h=>rfl
theorem PV.mapRL_cvs {g e e'}:∀ ps:aN,(∀ k∈PV.refsL ps,e'.at (g k)=e.at k)->PV.cvs e' (PV.mapRL g ps)=PV.cvs e ps
 | [],h=>rfl
 | p::ps,h=>by
   simp only[PV.mapRL,PV.cvs,PV.mapR_cv p λk I=>h k (by simp only[PV.refsL];exact o5 _ I),PV.mapRL_cvs ps λk I=>h k (by simp only[PV.refsL];exact nS _ I)]
end
theorem PV.mapR_isC {g}{p:PV}(h:p.isC):(p.mapR g).isC:=by cases p<;>exact h
theorem PV.mapRL_mem {g q}:∀ {ps:aN},q∈PV.mapRL g ps->∃ p∈ps,q=p.mapR g
 | p::ps,h=>by
   simp only[PV.mapRL]at h;rcases oK.1 h with h | h
   ·exact⟨p,aB,h⟩
   ·obtain⟨r,I,J⟩:=PV.mapRL_mem h;exact⟨r,by simp[I],J⟩
mutual
theorem PV.mapR_ok {g w live}:∀ p:PV,p.Ok w live->(p.mapR g).Ok w live
 | .fn f caps,h=>by simp only[PV.mapR,PV.Ok]at h ⊢;exact PV.mapRL_ok caps h
 | .pg cs,h=>by
   simp only[PV.mapR,PV.Ok]at h ⊢
   exact⟨PV.mapRL_ok cs h.1,λq I=>by obtain⟨p,J,rfl⟩:=PV.mapRL_mem I;exact PV.mapR_isC (h.2 p J)⟩
 | .tp cs,h=>by simp only[PV.mapR,PV.Ok]at h ⊢;exact PV.mapRL_ok cs h
 | .pb ..,h=>trivial
 | .sb ..,h=>trivial
 | .any,h=>h
 | .int ..,h=>h
 | .bool ..,h=>h
 | .str ..,h=>h
 | .lit ..,h=>h
 | .sv ..,h=>h
 | .d ..,h=>h
 | .dc ..,h=>h
 | .dg ..,h=>h
 | .pd ..,h=>h
theorem PV.mapRL_ok {g w live}:∀ ps:aN,PV.OkL w live ps->PV.OkL w live (PV.mapRL g ps)
 | [],h=>trivial
 | p::ps,h=>⟨PV.mapR_ok p h.1,PV.mapRL_ok ps h.2⟩
end
def Bx.mapR (g:Nat->Nat):Bx->Bx
 | .var cs=>.var (cs.map (PV.mapR g))
 | B=>B
theorem Tf:∀ {ks:aI}{j k:Nat},ks.Nodup->ks[j]?=some k->pos ks k=some j
 | x::xs,0,k,_,h=>by simp at h;subst h;simp[pos]
 | x::xs,j+1,k,J,h=>by obtain⟨O,U⟩:=mA.1 J;simp only[nq]at h;have I:¬x=k:=λhc=>O (hc ▸ oB h);simp[pos,I,Tf U h]
theorem V3 {ks k}(h:pos ks k=none):k∉ks:=by
 induction ks with
 | nil=>simp
 | cons x xs J=>
   simp only[pos]at h;split at h
   ·cases h
   ·rename_i I;split at h
    ·cases h
    ·rename_i O;simp at I;simp only[oK,not_or];exact⟨λhc=>I hc.symm,J O⟩
def bxN (ks:aI)(nb:aO):Nat->aO->aO
 | _,[]=>[]
 | i,B::bs=>(match pos ks i with
   | some j=>nb.getD j .gone
   | none=>B)::bxN ks nb (i+1) bs
theorem OI {ks:aI}{nb:aO}:∀(bs:aO)(i k:Nat),(bxN ks nb i bs)[k]?=(bs[k]?).map λB=>match pos ks (i+k)with
  | some j=>nb.getD j .gone
  | none=>B
 | [],i,k=>rfl
 | B::bs,i,0=>by simp[bxN]
 | B::bs,i,k+1=>by simp only[bxN,nq];rw[OI bs (i+1) k,show i+1+k=i+(k+1) by omega]
theorem xh {ks nb}:∀(bs:aO)(i:Nat),(bxN ks nb i bs).length=bs.length
 | [],i=>rfl
 | B::bs,i=>by simp[bxN,xh bs]
def G2 (ks:aI)(e1 e:Env):Env:=(List.range e.length).map λk=>match pos ks k with
 | some j=>e1.at j
 | none=>e.at k
theorem Sv {ks:aI}{e1 e:Env}{k:Nat}(h:k<e.length):(G2 ks e1 e).at k=match pos ks k with
  | some j=>e1.at j
  | none=>e.at k:=by
 simp[G2,Env.at,oA,h]
structure Io (av:Nat->Prop) (pB:aI) (w w':World) (e:Env) (bx:aO) (ks:aI) (e1:Env) (nb rows:aO):Prop where
 nd:ks.Nodup
 kp:∀ k∈ks,k∉pB/\∃ B,bx[k]?=some B/\B≠.gone
 len:nb.length=ks.length
 el:ks.length<=e1.length
 m:Mem (fun b=>av b\/∃ k,k∉ks/\Lives pB e bx k b) [] w' e1 (nb++rows)
 arr:∀ B∈rows,B.row
 kind:∀(j k:Nat) (B B':Bx),ks[j]?=some k->bx[k]?=some B->nb[j]?=some B'->B'.isArr=B.isArr
 refs:∀ B∈nb,∀ j∈B.refs,j<ks.length
 fix:∀(j k:Nat) (B:Bx),ks[j]?=some k->bx[k]?=some B->B.isArr=false->e1.at j=e.at k
 fr:∀ j b,e1.at j=some b->w.heap.size<=b\/(j<ks.length/\∃ k∈ks,e.at k=some b)
 size:w.heap.size<=w'.heap.size
 hold:∀ b,b<w.heap.size->(∀ k∈ks,e.at k≠some b)->w'.heap[b]?=w.heap[b]?
 fz:∀(b:Nat) (c:Array Value) (t:aK) (z:Nat × Nat),(w.heap.size<=b\/∃ k∈ks,e.at k=some b)->w'.heap[b]?=some (.cells c t z)->Fz z
 ku:KU w w'
theorem zAK (h:Rel av w0 e0 pS pB a w e st){ks e1 nb rows}(io:Io av pB w w' e st.bx ks e1 nb rows)(hS:∀(i:Nat) (p:PV),st.sl[i]?=some p->∀ k∈ks,(st.bx.getD k .gone).isArr=true->k∉p.refs)(b7:∀(j:Nat) (B:Bx),st.bx[j]?=some B->j∉ks->∀ k∈ks,(st.bx.getD k .gone).isArr=true->k∉B.refs)(bi:∀ k∈ks,(st.bx.getD k .gone).isArr=true->∀ b,st.pins[k]?≠some (some b))(bj:(∀ k∈ks,(st.bx.getD k .gone).isArr=true->st.pins.length<=k)\/∀ k∈ks,(st.bx.getD k .gone).isArr=true->k<st.pins.length) :
  Rel av w0 e0 pS pB a w' (G2 ks e1 e++e1.drop ks.length) { st with bx:=bxN ks (nb.map (Bx.mapR λj=>ks.getD j 0)) 0 st.bx++rows,N:=w'.heap.size } /\
  ∀ d:D,Good w' (za (λb=>av b\/∃ k,k∉ks/\Lives pB e st.bx k b) [] e1 (nb++rows)) d->Good w' (za av pB (G2 ks e1 e++e1.drop ks.length) (bxN ks (nb.map (Bx.mapR λj=>ks.getD j 0)) 0 st.bx++rows)) d:=by
 have az:(G2 ks e1 e).length=st.bx.length:=by simp[G2,h.el]
 have a8:∀ k,k<st.bx.length->Env.at (G2 ks e1 e++e1.drop ks.length) k=match pos ks k with
  | some j=>e1.at j
  | none=>e.at k:=λk J=>by rw[Env.at_app,if_pos (by rw[az];exact J),Sv (by rw[h.el];exact J)]
 have ba:∀ i,Env.at (G2 ks e1 e++e1.drop ks.length) (st.bx.length+i)=e1.at (ks.length+i):=λi=>by rw[Env.at_app,if_neg (by rw[az];omega),az];simp[Env.at,oA]
 have bm:∀ k∈ks,k<st.bx.length:=λk J=>by obtain⟨_,B,h1,_⟩:=io.kp k J;exact(oD.1 h1).1
 have bp:∀ j k,ks[j]?=some k->pos ks k=some j:=λj k Y=>Tf io.nd Y;have ak:∀ j k,ks[j]?=some k->Env.at (G2 ks e1 e++e1.drop ks.length) k=e1.at j:=λj k Y=>by rw[a8 k (bm k (oB Y)),bp j k Y]
 have aq:∀ k,k<st.bx.length->k∉ks->Env.at (G2 ks e1 e++e1.drop ks.length) k=e.at k:=λk J hn=>by
  rw[a8 k J];cases hp:pos ks k with
  | none=>rfl
  | some j=>exact absurd (oB (Ai hp)) hn
 have ae:∀ k b,k∈ks->e.at k=some b->Lives pB e st.bx k b:=λk b J hb=>by obtain⟨h1,B,h2,h3⟩:=io.kp k J;exact⟨h1,hb,B,h2,h3⟩
 have al:∀(k:Nat) (B':Bx),(bxN ks (nb.map (Bx.mapR λj=>ks.getD j 0)) 0 st.bx++rows)[k]?=some B' ->
   (k∉ks/\st.bx[k]?=some B')\/(∃(j:Nat) (B:Bx),ks[j]?=some k/\nb[j]?=some B/\B'=B.mapR λj=>ks.getD j 0)\/∃ i,k=st.bx.length+i/\rows[i]?=some B':=λk B' J=>by
  by_cases ah:k<st.bx.length
  ·rw[oQ (by rw[xh];exact ah),OI,oH ah]at J;simp only[oX,nI,od]at J;cases hp:pos ks k with
   | none=>rw[hp]at J;exact .inl ⟨V3 hp,by rw[oH ah];exact oY some J⟩
   | some j=>
     rw[hp]at J;have Y:=Ai hp;have a6:j<nb.length:=by rw[io.len];exact(oD.1 Y).1
     refine .inr (.inl ⟨j,nb[j],Y,oH a6,?_⟩);have b8:(nb.map (Bx.mapR λj=>ks.getD j 0)).getD j .gone=B':=J;rw[<-b8,oA,oF,oH a6];rfl
  ·rw[oU (by rw[xh];omega),xh]at J;exact .inr (.inr ⟨k - st.bx.length,aA,J⟩)
 have b9:∀(B:Bx),Bx.mapR (λj=>ks.getD j 0) B≠Bx.gone->B≠Bx.gone:=λB hB hc=>hB (by rw[hc];rfl);have O:∀ k b,Lives pB (G2 ks e1 e++e1.drop ks.length) (bxN ks (nb.map (Bx.mapR λj=>ks.getD j 0)) 0 st.bx++rows) k b ->
   (k∉ks/\Lives pB e st.bx k b)\/(∃ j,ks[j]?=some k/\Lives [] e1 (nb++rows) j b)\/∃ i,k=st.bx.length+i/\Lives [] e1 (nb++rows) (ks.length+i) b:=λk b ⟨h1,h2,B',h3,h4⟩=>by
  rcases al k B' h3 with⟨U,I⟩ | ⟨j,B,U,I,g3⟩ | ⟨i,rfl,I⟩
  ·rw[aq k (oD.1 I).1 U]at h2;exact .inl ⟨U,h1,h2,B',I,h4⟩
  ·rw[ak j k U]at h2;have a6:j<nb.length:=(oD.1 I).1;exact .inr (.inl ⟨j,U,aB,h2,B,by rw[oQ a6];exact I,b9 B (g3 ▸ h4)⟩)
  ·rw[ba]at h2;exact .inr (.inr ⟨i,rfl,aB,h2,B',by rw[oU (by rw[io.len];omega),io.len];simpa using I,h4⟩)
 have aa:∀ j b,Lives [] e1 (nb++rows) j b->w.heap.size<=b\/(j<ks.length/\∃ k∈ks,e.at k=some b):=λj b Y=>io.fr j b Y.2.1;have au:∀ b,b<w.heap.size->za av pB (G2 ks e1 e++e1.drop ks.length) (bxN ks (nb.map (Bx.mapR λj=>ks.getD j 0)) 0 st.bx++rows) b->za av pB e st.bx b:=λb hb hl=>hl.elim .inl λ⟨k,J⟩=>by
  rcases O k b J with⟨_,g⟩ | ⟨j,_,g⟩ | ⟨i,_,g⟩
  ·exact .inr ⟨k,g⟩
  ·rcases aa j b g with I | ⟨_,k2,I,g3⟩
   ·omega
   ·exact .inr ⟨k2,ae k2 b I g3⟩
  ·rcases aa _ b g with I | ⟨I,_⟩<;>omega
 have ac:∀ b,za av pB (G2 ks e1 e++e1.drop ks.length) (bxN ks (nb.map (Bx.mapR λj=>ks.getD j 0)) 0 st.bx++rows) b->za (λb=>av b\/∃ k,k∉ks/\Lives pB e st.bx k b) [] e1 (nb++rows) b:=λb hl=>by
  rcases hl with hl | ⟨k,J⟩
  ·exact .inl (.inl hl)
  rcases O k b J with⟨U,g⟩ | ⟨j,_,g⟩ | ⟨i,_,g⟩
  ·exact .inl (.inr ⟨k,U,g⟩)
  ·exact .inr ⟨j,g⟩
  ·exact .inr ⟨_,g⟩
 have aw:∀ b,b<w.heap.size->¬za av pB e st.bx b->w'.heap[b]?=w.heap[b]?:=λb hb hn=>io.hold b hb λk J hc=>hn (.inr ⟨k,ae k b J hc⟩);have bc:∀ d:D,Good w' (za (λb=>av b\/∃ k,k∉ks/\Lives pB e st.bx k b) [] e1 (nb++rows)) d->Good w' (za av pB (G2 ks e1 e++e1.drop ks.length) (bxN ks (nb.map (Bx.mapR λj=>ks.getD j 0)) 0 st.bx++rows)) d:=
  λd hd=>hd.mono (λ_ _ _=>rfl) λb _ hb=>ac b hb
 have ai:∀(R:aI),(∀ k∈R,k<st.bx.length)->(∀ k∈ks,(st.bx.getD k .gone).isArr=true->k∉R)->∀ k∈R,Env.at (G2 ks e1 e++e1.drop ks.length) k=e.at k:=λR ca cc k J=>by
  by_cases ao:k∈ks
  ·obtain⟨j,Y⟩:=oS.1 ao;obtain⟨_,B,U,_⟩:=io.kp k ao;rw[ak j k Y];refine io.fix j k B Y U ?_;cases hb:B.isArr with
   | false=>rfl
   | true=>exact absurd J (cc k ao (by rw[oA,U];exact hb))
  ·exact aq k (ca k J) ao
 have bq:∀ q:PV,(∀ j∈q.refs,j<ks.length)->∀ k∈q.refs,Env.at (G2 ks e1 e++e1.drop ks.length) (ks.getD k 0)=e1.at k:=λq hq k J=>by have ah:=hq k J;refine ak k _ ?_;rw[oA,oH ah];rfl
 have bg:∀(j:Nat) (B:Bx),st.bx[j]?=some B->j∉pB->j∉ks->∀ b,e.at j=some b->B≠.gone->w'.heap[b]?=w.heap[b]?:=λj B Y hn cd b hb hg=>by
  have hl:Lives pB e st.bx j b:=⟨hn,hb,B,Y,hg⟩
  exact io.hold b (Lives.lt h.toMem hl) λk J hc=>cd (h.inj j k b hl (ae k b J hc) ▸ J)
 have aj:∀(i:Nat) (B:Bx),rows[i]?=some B->(nb++rows)[ks.length+i]?=some B/\B.refs=[]:=λi B hi=>by exact⟨by rw[oU (by rw[io.len];omega),io.len];simpa using hi,(io.arr B (oB hi)).sp.2⟩
 have ax:∀(j:Nat) (B:Bx),nb[j]?=some B->(nb++rows)[j]?=some B:=λj B Y=>by rw[oQ (oD.1 Y).1];exact Y
 refine⟨?_,bc⟩
 exact {
  el:=by
   simp only[oG,az,xh,ma]
   have:=io.m.el
   simp only[oG,io.len]at this;omega
  br := λk B' J hn=>by
   rcases al k B' J with⟨U,I⟩ | ⟨j,B,U,I,rfl⟩ | ⟨i,rfl,I⟩
   ·rw[aq k (oD.1 I).1 U];by_cases hg:B'=.gone
    ·subst hg;exact True.intro
    ·refine(h.br k B' I hn).congr (λb hb=>bg k B' I hn U b hb hg) λi hi=>?_;exact ai B'.refs (λk J=>(h.bf _ B' I hn k J).2) (λk2 ab ha=>b7 k B' I U k2 ab ha) i hi
   ·rw [ak j k U];have h1:=io.m.br j B (ax j B I) aB;have h2:=io.refs B (oB I);cases B with
    | var cs=>
      obtain⟨b,c,t,q1,q2,q3,q4⟩:=h1;refine⟨b,c,t,q1,q2,by simpa using q3,λi p hp=>?_⟩;rw[oF]at hp;cases a7:cs[i]? with
      | none=>simp[a7]at hp
      | some q=>
        simp only[a7,oX,od]at hp;subst hp;have hr:∀ j∈q.refs,j<ks.length:=λj Y=>h2 j (by simp only[Bx.refs];exact PV.refsL_mem.2 ⟨q,oB a7,Y⟩);rcases q4 i q a7 with q5 | q5
        ·subst q5;exact .inl rfl
        ·exact .inr (by rw[PV.mapR_cv q (bq q hr)];exact q5)
    | vd x n=>exact h1
    | arr t z es c=>exact h1
    | gone=>exact True.intro
   ·rw[ba];obtain⟨q1,q2⟩:=aj i B' I;exact(io.m.br _ B' q1 aB).congr (λ_ _=>rfl) λj Y=>by rw[q2]at Y;simp at Y
  bo:=λk B' J hn=>by
   rcases al k B' J with⟨U,I⟩ | ⟨j,B,U,I,rfl⟩ | ⟨i,rfl,I⟩
   ·exact(h.bo k B' I hn).mono aw io.size au
   ·have h1:=(io.m.bo j B (ax j B I) aB).mono (w':=w') (λ_ _ _=>rfl) (oC _) λb _=>ac b;cases B with
    | var cs=>
      obtain⟨q1,q2⟩:=h1;rw[PV.OkL_iff]at q1;refine⟨PV.OkL_iff.2 λp hp=>?_,λp hp=>?_⟩
      ·obtain⟨q,hq,rfl⟩:=oT.1 hp;exact PV.mapR_ok q (q1 q hq)
      ·obtain⟨q,hq,rfl⟩:=oT.1 hp;rcases q2 q hq with q3 | q3
       ·subst q3;exact .inl rfl
       ·exact .inr (PV.mapR_isC q3)
    | vd x n=>exact h1
    | arr t z es c=>exact h1
    | gone=>exact True.intro
   ·exact(io.m.bo _ B' (aj i B' I).1 aB).mono (λ_ _ _=>rfl) (oC _) λb _=>ac b
  bf:=λk B' J hn i hi=>by
   simp only[oG,xh];rcases al k B' J with⟨U,I⟩ | ⟨j,B,U,I,rfl⟩ | ⟨i,rfl,I⟩
   ·have:=h.bf k B' I hn i hi;exact⟨this.1,aA⟩
   ·cases B with
    | var cs=>
      simp only[Bx.mapR,Bx.refs]at hi;obtain⟨p,hp,bt⟩:=PV.refsL_mem.1 hi;obtain⟨q,hq,rfl⟩:=oT.1 hp;rw[PV.mapR_refs]at bt;obtain⟨r,hr,rfl⟩:=oT.1 bt;have bv:=io.refs _ (oB I) r (by simp only[Bx.refs];exact PV.refsL_mem.2 ⟨q,hq,hr⟩);have bb:ks.getD r 0∈ks:=by rw[oA,oH bv];exact mN bv
      exact⟨(io.kp _ bb).1,by have:=bm _ bb;omega⟩
    | vd x n=>simp[Bx.mapR,Bx.refs]at hi
    | arr t z es c=>simp[Bx.mapR,Bx.refs]at hi
    | gone=>simp[Bx.mapR,Bx.refs]at hi
   ·rw[(aj _ B' I).2]at hi;simp at hi
  inj:=λi j b hi Y=>by
   have key:∀ k j,k∉ks->Lives pB e st.bx k b->¬Lives [] e1 (nb++rows) j b:=λk j J h1 h2=>by
    rcases aa j b h2 with h3 | ⟨_,k2,h3,h4⟩
    ·have:=Lives.lt h.toMem h1;omega
    ·exact J (h.inj k k2 b h1 (ae k2 b h3 h4) ▸ h3)
   rcases O i b hi with⟨U,I⟩ | ⟨i1,U,I⟩ | ⟨i1,U,I⟩
   ·rcases O j b Y with⟨q1,q2⟩ | ⟨j1,q1,q2⟩ | ⟨j1,q1,q2⟩
    ·exact h.inj i j b I q2
    ·exact absurd q2 (key i j1 U I)
    ·exact absurd q2 (key i _ U I)
   ·rcases O j b Y with⟨q1,q2⟩ | ⟨j1,q1,q2⟩ | ⟨j1,q1,q2⟩
    ·exact absurd I (key j i1 q1 q2)
    ·have:=io.m.inj i1 j1 b I q2
     subst this;rw[U]at q1;exact oZ q1
    ·have:=io.m.inj _ _ b I q2
     have:=(oD.1 U).1
     omega
   ·rcases O j b Y with⟨q1,q2⟩ | ⟨j1,q1,q2⟩ | ⟨j1,q1,q2⟩
    ·exact absurd I (key j _ q1 q2)
    ·have:=io.m.inj _ _ b I q2
     have:=(oD.1 q1).1
     omega
    ·have:=io.m.inj _ _ b I q2
     omega
  ku:=h.ku.trans io.ku
  size:=oR h.size io.size
  old:=λb hb hn=>by
   refine(io.hold b (o7 hb h.size) λk J hc=>?_).trans (h.old b hb hn);rcases h.own k b (ae k b J hc)with h1 | h1
   ·omega
   ·exact hn h1.1
  fz := λb c t z hb hc=>by
   by_cases ah:b<w.heap.size
   ·by_cases J:∃ k∈ks,e.at k=some b
    ·exact io.fz b c t z (.inr J) hc
    ·rw[io.hold b ah λk ab ce=>J ⟨k,ab,ce⟩]at hc;exact h.fz b c t z hb hc
   ·exact io.fz b c t z (.inl aA) hc
  nd:=h.nd
  sz:=h.sz
  hN:=oC _
  hs:=λi p hi hn=>by
   rcases h.hs i p hi hn with h1 | h1
   ·exact .inl h1
   ·refine .inr (h1.trans (PV.val_congr p λk J=>?_).symm);exact ai p.refs (λk J=>(h.sr i p hi hn k J).2) (λk2 ab ha=>hS i p hi k2 ab ha) k J
  so:=λi p hi hn=>PV.Ok.mono aw io.size au p (h.so i p hi hn)
  sr:=λi p hi hn k J=>by have:=h.sr i p hi hn k J;exact⟨this.1,by simp only[oG,xh];omega⟩
  own := λk b J=>by
   show _\/(_/\k<st.pins.length);rcases O k b J with⟨_,g⟩ | ⟨j,U,g⟩ | ⟨i,_,g⟩
   ·exact h.own k b g
   ·rcases aa j b g with I | ⟨_,k2,I,g3⟩
    ·have:=h.size;exact .inl aA
    ·obtain⟨_,B,q1,q2⟩:=io.kp k (oB U);obtain⟨_,B2,q3,q4⟩:=io.kp k2 I;cases hb:B.isArr with
     | false=>have q5:=io.fix j k B U q1 hb;rw[g.2.1]at q5;exact h.own k b (ae k b (oB U) q5.symm)
     | true=>
       obtain⟨j2,g4⟩:=oS.1 I;have cf:(st.bx.getD k .gone).isArr=true:=by rw[oA,q1];exact hb
       cases ay:B2.isArr with
       | false=>
         have q5:=io.fix j2 k2 B2 g4 q3 ay;have cg:j2<nb.length:=by rw[io.len];exact(oD.1 g4).1
         have bw:nb[j2]?=some nb[j2]:=oH cg;have ab:=io.kind j2 k2 B2 _ g4 q3 bw;have ch:Lives [] e1 (nb++rows) j2 b:=⟨aB,q5.trans g3,_,ax j2 _ bw,λhc=>by rw[hc,ay]at ab;cases ab⟩
         have:=io.m.inj j j2 b g ch
         subst this;rw[U]at g4;cases g4;rw[q1]at q3;cases q3;rw[hb]at ay;cases ay
       | true=>
         have bz:(st.bx.getD k2 .gone).isArr=true:=by rw[oA,q3];exact ay
         rcases h.own k2 b (ae k2 b I g3)with q5 | ⟨q5,q6⟩
         ·exact .inl q5
         ·rcases bj with q7 | q7
          ·have:=q7 k2 I bz;omega
          ·exact .inr ⟨q5,q7 k (oB U) cf⟩
   ·rcases aa _ b g with I | ⟨I,_⟩
    ·have:=h.size;exact .inl aA
    ·omega
  avl:=h.avl
  avn:=λk b J bh=>by
   have ah:b<w.heap.size:=o7 (h.avl.lt b bh) h.size;rcases O k b J with⟨_,g⟩ | ⟨j,U,g⟩ | ⟨i,_,g⟩
   ·exact h.avn k b g bh
   ·rcases aa j b g with I | ⟨_,k2,I,g3⟩
    ·omega
    ·exact h.avn k2 b (ae k2 b I g3) bh
   ·rcases aa _ b g with I | ⟨I,_⟩<;>omega
  pin:=λk b hb=>by
   have b3:st.pins[k]?=some (some b):=hb;obtain⟨h1,h2⟩:=h.pin k b b3;refine⟨?_,h2⟩;have J:k<st.bx.length:=by rw[<-h.el];exact lT λhc=>by rw[Env.at_ge hc]at h1;cases h1
   rw[<-h1];exact ai [k] (λi hi=>by simp at hi;subst hi;exact J) (λk2 ab ha hc=>by simp at hc;subst hc;exact bi k2 ab ha b b3) k aB
  pit:=h.pit }
variable {av:Nat->Prop} {P:Program} {w0 w w':World} {e0 e:Env} {pS pS' pB pB':aI} {a:Act} {st st':St}
def zAw (ks:aI)(p:PV):Option PV:=match p with
 | .fn f caps=>(PV.fn f caps).ren ks
 | p=>match p.refs with
   | []=>qr p
   | _=>p.ren ks
def R7 (ks:aI):aN->Option (aN)
 | []=>some []
 | p::ps=>match zAw ks p,R7 ks ps with
   | some q,some qs=>some (q::qs)
   | _,_=>none
def Pv:Bx->Bool
 | .gone=>true
 | _=>false
def okB (st:St)(ks:aI):Bool:=
 (ks.all λk=>match st.bx[k]? with
  | some B=>!Pv B&&(!B.isArr||!pinned st k)
  | none=>false)&&Nat.ble ks.length st.bx.length &&
 ((ks.all λk=>!(st.bx.getD k .gone).isArr||Nat.ble st.pins.length k)||ks.all λk=>!(st.bx.getD k .gone).isArr||Nat.blt k st.pins.length)
def wu (bx:aO):aI->St->St
 | [],st=>st
 | k::ks,st=>match(bx.getD k .gone).isArr with
   | true=>wu bx ks (st.kill k)
   | false=>wu bx ks st
def wr (st:St)(ks:aI):aO:=ks.map λk=>(st.bx.getD k .gone).ren ks
def zBH (st:St)(ks:aI)(nb rows:aO)(N:Nat):St:=
 { wu st.bx ks st with bx:=bxN ks (nb.map (Bx.mapR λj=>ks.getD j 0)) 0 (wu st.bx ks st).bx++rows,N:=N }
def jOf:aN->Nat
 | .sb k _ _ _ _::_=>k
 | _=>0
def rsJ (as:aN):List Sh->List Sh
 | .bk _::l=>.bk (jOf as)::l
 | l=>l
def zAL (rs:List Sh)(U:aO)(ks:aI)(ps:aN):PV:=match rs with
 | .bk j::_=>match U[j]? with
   | some (.arr _ z es c)=>.sb (ks.getD j 0) z 0 es.length c
   | _=>.any
 | _=>Iv (FS rs) ps
def Gw (rs:List Sh):Nat:=match FS rs with
 | true=>rs.length - 1
 | false=>rs.length
theorem L9:∀(cs:aN)(s:Sh),s∈Y0 cs->∀ j,s≠.bk j
 | p::cs,s,h,j=>by
   simp only[Y0]at h;split at h
   ·rename_i s' hs;rcases oK.1 h with rfl | h
    ·cases p<;>simp[D5]at hs<;>subst hs<;>simp
    ·exact L9 cs s h j
   ·exact L9 cs s h j
theorem WZ bx s(h:s∈Ru bx):∀ j,s≠.bk j:=by
 simp only[Ru,mJ]at h;obtain⟨B,_,h⟩:=h;cases B with
 | var cs=>exact L9 cs s h
 | vd x n=>simp[Yz]at h;subst h;simp
 | arr t z es c=>simp[Yz]at h;subst h;simp
 | gone=>simp[Yz]at h
theorem MA:∀(cs:aN)(s:Sh),s∈Y0 cs->s≠.pk
 | p::cs,s,h=>by
   simp only[Y0]at h;split at h
   ·rename_i s' hs;rcases oK.1 h with rfl | h
    ·cases p<;>simp[D5]at hs<;>subst hs<;>simp
    ·exact MA cs s h
   ·exact MA cs s h
theorem Wa bx s(h:s∈Ru bx):s≠.pk:=by
 simp only[Ru,mJ]at h;obtain⟨B,_,h⟩:=h;cases B with
 | var cs=>exact MA cs s h
 | vd x n=>simp[Yz]at h;subst h;simp
 | arr t z es c=>simp[Yz]at h;subst h;simp
 | gone=>simp[Yz]at h
theorem K2 l bx:FS (l++Ru bx)=FS l:=by
 cases l with
 | cons s l=>cases s<;>rfl
 | nil=>
   rw[oa];cases h:Ru bx with
   | nil=>rfl
   | cons s l=>have:=Wa bx s (by rw[h];simp);cases s<;>first | rfl | exact absurd rfl this
theorem Va as rs:FS (rsJ as rs)=FS rs:=by unfold rsJ;split<;>rfl
theorem Yk as rs:(rsJ as rs).length=rs.length:=by unfold rsJ;split<;>simp
def Sc (P:Program)(rs:List Sh)(st:St)(dst:Option Nat)(f:aL)(I:aN)(ks:aI)(K:St->Prop):Prop:=
 match R7 ks I,okB st ks&&Nat.beq (Gw rs) (HP P f (rs++Ru (wr st ks)) ((wr st ks).map xd))with
 | some as,true=>∀ N1,st.N<=N1->BCalls P f (rsJ as rs++Ru (wr st ks)) as (wr st ks) N1 (QT.lam (rsJ as rs++Ru (wr st ks)) st.bx.length λps rows N2=>N1<=N2 ->
  U1 N2 ps (Y8 N2 rows (K (St.put (zBH st ks (MB ((wr st ks).map xd) (ps.drop (Gw rs))) rows N2) dst (zAL (rsJ as rs) (MB ((wr st ks).map xd) (ps.drop (Gw rs))) ks (ps.take (Gw rs)))))))
 | _,_=>False
def Ze (P:Program)(rs:List Sh)(st:St)(dst:Option Nat)(x:Operand)(args:aN)(K:St->Prop):Prop:=
 match X3 (opd st.sl x)with
 | some (f,caps)=>match caps.all PV.isCap with
   | true=>Sc P rs st dst f (args++caps) (C2 st.bx 200 (PV.refsL (args++caps)) []) K
   | false=>False
 | none=>False
theorem Pw {k j:Nat}:(st.kill k).bx[j]?=(st.bx[j]?).map (Bx.kill k):=by simp[St.kill]
theorem TH {k}{B:Bx}:B.kill k=.gone↔B=.gone:=by cases B<;>simp[Bx.kill]
theorem RP {k}{B:Bx}:(B.kill k).isArr=B.isArr:=by cases B<;>rfl
theorem rN {bx}:∀(ks:aI)(st:St)(j:Nat),((wu bx ks st).bx[j]?=none↔st.bx[j]?=none)/\∀ B,st.bx[j]?=some B->∃ B',(wu bx ks st).bx[j]?=some B'/\(B'=.gone↔B=.gone)/\B'.isArr=B.isArr
 | [],st,j=>⟨lL,λB h=>⟨B,h,lL,rfl⟩⟩
 | k::ks,st,j=>by
   simp only[wu];split
   ·obtain⟨I,J⟩:=rN ks (st.kill k) j;refine⟨by rw[I,Pw];simp,λB O=>?_⟩;obtain⟨B',U,Y,h5⟩:=J (B.kill k) (by rw[Pw,O];rfl);exact⟨B',U,Y.trans TH,h5.trans RP⟩
   ·exact rN ks st j
theorem EG {bx}:∀(ks:aI)(st:St),(wu bx ks st).pins=st.pins
 | [],st=>rfl
 | k::ks,st=>by
   simp only[wu];split
   ·rw[EG ks];rfl
   ·exact EG ks st
theorem HC {bx}:∀(ks:aI)(st:St),Rel av w0 e0 pS pB a w e st->Rel av w0 e0 pS pB a w e (wu bx ks st)
 | [],st,h=>h
 | k::ks,st,h=>by
   simp only[wu];split
   ·exact HC ks _ (QR h (AR k st))
   ·exact HC ks st h
theorem Px {k}:(∀(i:Nat)(p:PV),(st.kill k).sl[i]?=some p->p=.any\/st.sl[i]?=some p)/\∀(j:Nat)(B:Bx)(r:Nat),(st.kill k).bx[j]?=some B->r∈B.refs->∃ B',st.bx[j]?=some B'/\r∈B'.refs:=by
 constructor
 ·intro i p hi;exact(AR k st).sl i p hi
 ·intro j B r O J;obtain⟨B',U,Y⟩:=(AR k st).bx j B O;refine⟨B',U,?_⟩;rcases Y with rfl | rfl | ⟨cs,cs',rfl,rfl,h3,h4⟩
  ·simp[Bx.refs]at J
  ·exact J
  ·simp only[Bx.refs]at J ⊢;obtain⟨p,hp,I⟩:=PV.refsL_mem.1 J;obtain⟨i,hi⟩:=oS.1 hp;rcases h4 i p hi with rfl | h5
   ·simp[PV.refs]at I
   ·exact PV.refsL_mem.2 ⟨p,oB h5,I⟩
theorem HD {bx}:∀(ks:aI)(st:St),(∀(i:Nat)(p:PV),(wu bx ks st).sl[i]?=some p->p=.any\/st.sl[i]?=some p)/\∀(j:Nat)(B:Bx)(r:Nat),(wu bx ks st).bx[j]?=some B->r∈B.refs->∃ B',st.bx[j]?=some B'/\r∈B'.refs
 | [],st=>⟨λi p h=>.inr h,λj B r h I=>⟨B,h,I⟩⟩
 | k :: ks,st=>by
   simp only[wu];split
   ·obtain⟨J,O⟩:=HD ks (st.kill k);refine⟨λi p hi=>?_,λj B r U I=>?_⟩
    ·rcases J i p hi with h3 | h3
     ·exact .inl h3
     ·exact Px.1 i p h3
    ·obtain⟨B',h3,Y⟩:=O j B r U I;exact Px.2 j B' r h3 Y
   ·exact HD ks st
theorem Ac {bx}:∀(ks:aI)(st:St),∀ k∈ks,(bx.getD k .gone).isArr=true->(∀(i:Nat)(p:PV),(wu bx ks st).sl[i]?=some p->k∉p.refs)/\∀(j:Nat)(B:Bx),(wu bx ks st).bx[j]?=some B->k∉B.refs
 | [],st,k,h,_=>by simp at h
 | k'::ks,st,k,h,I=>by
   simp only[wu];rcases oK.1 h with rfl | h
   ·rw[I];obtain⟨J,O⟩:=HD (bx:=bx) ks (st.kill k);refine⟨λi p hi hc=>?_,λj B U hc=>?_⟩
    ·rcases J i p hi with rfl | h3
     ·simp[PV.refs]at hc
     ·exact HF.1 i p h3 hc
    ·obtain⟨B',h3,Y⟩:=O j B k U hc;exact HF.2 j B' h3 Y
   ·split
    ·exact Ac ks _ k h I
    ·exact Ac ks st k h I
theorem HB {bx}:∀(ks:aI)(st:St),(wu bx ks st).bx.length=st.bx.length/\(wu bx ks st).sl.length=st.sl.length
 | [],st=>⟨rfl,rfl⟩
 | k::ks,st=>by
   simp only[wu];split
   ·have:=HB (bx:=bx) ks (st.kill k)
    simpa [St.kill]using this
   ·exact HB ks st
theorem Hw:∀(cs es:aN),(∀ p∈es,p.refs=[])->(∀ q∈(PP cs es).1,q.refs=[]\/q∈cs)/\∀ q∈(PP cs es).2,q∈es
 | [],es,h=>⟨by simp[PP],by simp[PP]⟩
 | p::ps,es,h=>by
   simp only[PP];split
   ·cases es with
    | nil=>simp
    | cons q es=>
      obtain⟨I,J⟩:=Hw ps es λx hx=>h x (by simp[hx]);refine⟨λx hx=>?_,λx hx=>by simp[J x hx]⟩;rcases oK.1 hx with rfl | hx
      ·exact .inl (h _ aB)
      ·exact(I x hx).imp id λO=>by simp[O]
   ·obtain⟨I,J⟩:=Hw ps es h;refine⟨λx hx=>?_,J⟩;rcases oK.1 hx with rfl | hx
    ·exact .inr aB
    ·exact(I x hx).imp id λO=>by simp[O]
theorem UW B es(h:∀ p∈es,p.refs=[]):(∀ j∈(Ql B es).1.refs,j∈B.refs)/\(Ql B es).1.isArr=B.isArr/\∀ q∈(Ql B es).2,q∈es:=by
 cases B with
 | var cs=>
   obtain⟨U,Y⟩:=Hw cs es h;refine⟨λj O=>?_,rfl,Y⟩;simp only[Ql,Bx.refs]at O ⊢;obtain⟨q,I,J⟩:=PV.refsL_mem.1 O;rcases U q I with h3 | h3
   ·rw[h3]at J;simp at J
   ·exact PV.refsL_mem.2 ⟨q,h3,J⟩
 | vd y n=>
   simp only[Ql];split
   ·exact⟨by simp[Bx.refs],rfl,λq I=>by simp[I]⟩
   ·exact⟨by simp[Bx.refs],rfl,aB⟩
 | arr t z y n=>
   simp only[Ql];split
   ·exact⟨by simp[Bx.refs],rfl,λq I=>by simp[I]⟩
   ·exact⟨by simp[Bx.refs],rfl,aB⟩
 | gone=>exact⟨by simp[Ql,Bx.refs],rfl,λq I=>I⟩
theorem Qk:∀(bs:aO)(es:aN),(∀ p∈es,p.refs=[])->(Rm bs es).length=bs.length/\∀(j:Nat)(B':Bx),(Rm bs es)[j]?=some B'->∃ B,bs[j]?=some B/\(∀ i∈B'.refs,i∈B.refs)/\B'.isArr=B.isArr
 | [],es,h=>⟨rfl,by simp[Rm]⟩
 | B::bs,es,h=>by
   obtain⟨J,O,U⟩:=UW B es h;obtain⟨Y,h5⟩:=Qk bs (Ql B es).2 λp hp=>h p (U p hp);refine⟨by simp[Rm,Y],λj B' I=>?_⟩;cases j with
   | zero=>simp[Rm]at I;subst I;exact⟨B,rfl,J,O⟩
   | succ j=>simp only[Rm,nq]at I ⊢;exact h5 j B' I
theorem LS bs es(h:∀ p∈es,p.refs=[]):(MB bs es).length=bs.length/\∀(j:Nat)(B':Bx),(MB bs es)[j]?=some B'->∃ B,bs[j]?=some B/\(∀ i∈B'.refs,i∈B.refs)/\B'.isArr=B.isArr:=by
 obtain⟨h1,h2⟩:=Qk bs es h;refine⟨by simp[MB,h1],λj B' J=>?_⟩;simp only[MB,oF]at J;cases O:(Rm bs es)[j]? with
 | none=>simp[O]at J
 | some U=>
   simp only[O,oX,od]at J;obtain⟨B,Y,h4,h5⟩:=h2 j U O;subst J;cases U with
   | var cs=>
     refine⟨B,Y,λi hi=>h4 i ?_,h5⟩;simp only[Zr,Bx.refs]at hi ⊢;obtain⟨p,hp,I⟩:=PV.refsL_mem.1 hi;obtain⟨q,hq,rfl⟩:=oT.1 hp;refine PV.refsL_mem.2 ⟨q,hq,?_⟩;cases q<;>simp only[Zs]at I<;>try exact I
     split at I
     ·exact I
     ·simp[PV.refs]at I
   | _=>exact⟨B,Y,h4,h5⟩
theorem Dq {B}:(xd B).refs=B.refs/\(xd B).isArr=B.isArr:=by
 cases B with
 | var cs=>
   refine⟨?_,rfl⟩;simp only[xd,Bx.refs]
   induction cs with
   | nil=>rfl
   | cons p cs I=>simp only[o9,PV.refsL,I];congr 1;cases p<;>rfl
 | _=>exact⟨rfl,rfl⟩
theorem NB {ks}{B:Bx}:(B.ren ks).isArr=B.isArr:=by cases B<;>rfl
theorem WB {ks}{B:Bx}:∀ j∈(B.ren ks).refs,j<ks.length:=by
 cases B with
 | var cs=>
   intro j O;simp only[Bx.ren,Bx.refs]at O;obtain⟨p,U,I⟩:=PV.refsL_mem.1 O;obtain⟨q,Y,rfl⟩:=oT.1 U;unfold Ui at I;split at I
   ·rename_i q' J;exact(wo (e:=[]) J).rf j I
   ·simp[PV.refs]at I
 | _=>simp[Bx.ren,Bx.refs]
theorem QT.app_base:∀(l:List Sh)(Q:QT l)(b:Nat)(ps:aN)(rows:aO)(N:Nat),QT.app l Q b ps rows N->∀ p∈ps,∀ k∈p.refs,b<=k
 | [],Q,b,ps,rows,N,h=>by cases ps<;>cases rows<;>simp[QT.app]at h ⊢
 | s :: l,Q,b,ps,rows,N,h=>by
   by_cases hs:s=.pk
   ·subst hs;exact QT.app_base l Q b ps rows N h.2
   cases ps with
   | nil=>cases s<;>first | exact absurd rfl hs | (simp[QT.app]at h;done)
   | cons p ps=>
     have key:(∃(J:QT l) (b':Nat) (I:aO),b<=b'/\QT.app l J b' ps I N)/\∀ k∈p.refs,b<=k:=by
      cases s<;>(try(exact absurd rfl hs))<;>cases p<;>(try(exact h.elim))<;>(try(simp[QT.app]at h;done))<;>first
       | exact⟨⟨_,_,_,oC _,h⟩,by simp[PV.refs]⟩
       | exact⟨⟨_,_,_,oC _,h.2⟩,by simp[PV.refs]⟩
       | skip
      all_goals
       cases rows with
       | nil=>simp[QT.app]at h
       | cons B rows=>
         cases B<;>first
          | exact⟨⟨_,b+1,_,aA,h.2⟩,by have:=h.1.1;simp[PV.refs];omega⟩
          | (simp[QT.app]at h;done)
          | (obtain⟨_,_,_,_,_,hb,_,h⟩:=h;cases hb;exact⟨⟨_,_,_,Nat.le_succ b,h⟩,by simp[PV.refs]⟩)
     obtain⟨⟨J,b',I,hb,U⟩,Y⟩:=key;intro q hq k O;rcases oK.1 hq with rfl | hq
     ·exact Y k O
     ·exact oR hb (QT.app_base l J b' ps I N U q hq k O)
theorem PD {d e e'}{p:PV}(J:p.plainR=true)(I:∀ k∈p.refs,e.at (d+k)=e'.at k):(p.shift d).val1 e=p.val1 e':=by
 cases p
 case sb k z lo n c=>
  have:=I k (by simp[PV.refs])
  simp[PV.shift,PV.val1,PV.cv,this]
 case pb k z i o=>
  have:=I k (by simp[PV.refs])
  simp[PV.shift,PV.val1,PV.cv,this]
 all_goals first
  | rfl
  | simp[PV.plainR]at J
theorem UJ {d e e'}{p:PV}(J:p.plainR=true)(I:∀ k∈p.refs,e.at (d+k)=e'.at k):(p.shift d).cv e=p.cv e':=by
 cases p
 case sb k z lo n c=>have:=I k (by simp[PV.refs]);simp[PV.shift,PV.cv,this]
 case pb k z i o=>have:=I k (by simp[PV.refs]);simp[PV.shift,PV.cv,this]
 all_goals first
  | rfl
  | simp[PV.plainR]at J
theorem O8 {d e e' ps pk}(J:∀ p∈ps,p.plainR=true)(I:∀ p∈ps,∀ k∈p.refs,e.at (d+k)=e'.at k):(Iv pk (ps.map (PV.shift d))).val e=Rg pk e' ps:=by
 cases pk with
 | true=>simp only[Iv,Rg,PV.val,PV.val1,PV.cvs_eq,mO];congr 2;exact nF λp h=>UJ (J p h) (I p h)
 | false=>
 have key:∀ p∈ps,(p.shift d).val1 e=p.val1 e':=λp h=>PD (J p h) (I p h);have one:∀ p,p∈ps->(p.shift d).val e=p.val1 e':=λp h=>by
  rw[<-key p h]
  have:=J p h
  cases p<;>simp[PV.plainR]at this<;>rfl
 rcases ps with _ | ⟨p,_ | ⟨q,ps⟩⟩
 ·rfl
 ·exact one p aB
 ·simp only[o9,Iv,Na,PV.val,Rg,T7];rw[key p aB,key q aB,mO];congr 4;exact nF λr O=>key r (by simp[O])
theorem J0 {d}:∀ {es:aN},(∀ p∈es,p.refs=[])->es.map (PV.shift d)=es
 | [],_=>rfl
 | p::es,h=>by
   rw[o9,J0 λq I=>h q (by simp[I])];congr 1
   have:=h p aB
   cases p<;>first | rfl | simp[PV.refs]at this
theorem Q0 {ks bx live}(I:∀ b,live b->za av pB e bx b){p q v}(hv:ValOk av w e pB bx v p)(h:zAw ks p=some q) :
  v=q.val (Ay e ks)/\q.Ok w live/\∀ k∈q.refs,k<ks.length:=by
 have J:p.ren ks=some q->p≠.any->v=q.val (Ay e ks)/\q.Ok w live/\∀ k∈q.refs,k<ks.length:=λU h2=>by have Y:=wo (e:=e) U;refine⟨(hv.1.resolve_left h2).trans (T6 U),Y.ok _ _ (PV.Ok.mono (λ_ _ _=>rfl) (oC _) (λb _=>I b) p hv.2.1),Y.rf⟩
 have O:qr p=some q->v=q.val (Ay e ks)/\q.Ok w live/\∀ k∈q.refs,k<ks.length:=λU=>by obtain⟨h2,Y,h4⟩:=wv hv U;exact⟨h2.trans (PV.val_congr q (by rw[h4];simp)),Y live I,by rw[h4];simp⟩
 unfold zAw at h;split at h
 ·exact J h aB
 ·split at h
  ·exact O h
  ·rename_i hr;exact J h λhc=>by subst hc;exact hr rfl
theorem Ge {ks bx live}(I:∀ b,live b->za av pB e bx b):∀ {ps qs:aN} {vs:aJ},R7 ks ps=some qs->ps.length=vs.length->(∀(i:Nat) (p:PV) (v:Value),ps[i]?=some p->vs[i]?=some v->ValOk av w e pB bx v p) ->
  qs.map (PV.val (Ay e ks))=vs/\∀ q∈qs,q.Ok w live/\∀ k∈q.refs,k<ks.length
 | [],qs,vs,h,hl,J=>by
   simp[R7]at h;subst h;cases vs with
   | nil=>simp
   | cons=>simp at hl
 | p :: ps,qs,vs,h,hl,J=>by
   cases vs with
   | nil=>simp at hl
   | cons v vs=>
     simp only[R7]at h;split at h
     ·rename_i q rs U Y;simp at h;subst h;obtain⟨g1,g2,g3⟩:=Q0 I (J 0 p v rfl rfl) U;obtain⟨g4,g5⟩:=Ge I Y (by simpa using hl) λi p v hp O=>J (i+1) p v (by simpa using hp) (by simpa using O);refine⟨by simp[g1,g4],λr hr=>?_⟩;rcases oK.1 hr with rfl | hr
      ·exact⟨g2,g3⟩
      ·exact g5 r hr
     ·cases h
theorem OU (h:Rel av w0 e0 pS pB a w e st)(bv:∀ k∈pB,k<st.bx.length){rs}{o:Oper}{c x args K}(ho:o.op=.call c)(hc:c.callee=.value x)(hx:∀ t,x=.tmp t->t∉pS)(ha:args.length=c.args.size)(cy:∀(i:Nat) (p:PV) (y:Operand),args[i]?=some p->c.args[i]?=some y->ValOk av w e pB st.bx (a.eval y) p){f caps}(hf:X3 (opd st.sl x)=some (f,caps))(ao:∀ p∈caps,p.isCap=true){ks}(bb:ks.Nodup)(ac:∀ k∈ks,k∉pB)(cz:∀ i,i∈pS->some i≠o.dst->i∈pS')(hs:Sc P rs st o.dst f (args++caps) ks K){next Q}(hn:∀ v w' e' st',K st'->(∃ nb rows N p,st'=St.put (zBH st ks nb rows N) o.dst p)->Rel av w0 e0 pS' pB (a.put o.dst v) w' e' st'->next (a.put o.dst v) w'):o.wp P a w next Q:=by
 have ox:=vn h hx;have ox:=EE ox.valOk hf;have c6:=ox.1.resolve_left aB;have c7:a.eval x=.func (.func f) #[] (PV.cvs e caps).toArray:=c6;have ay:PV.OkL w (za av pB e st.bx) caps:=by have:=ox.2.1;simpa only[PV.Ok]using this
 rw[PV.OkL_iff]at ay;have bw:∀ p∈caps,∀ k∈p.refs,k∉pB/\k<st.bx.length:=λp hp k I=>ox.2.2 k (by simp only[PV.refs];exact PV.refsL_mem.2 ⟨p,hp,I⟩);have bz:∀(i:Nat) (p:PV) (v:Value),(args++caps)[i]?=some p->(c.args.toList.map a.eval++caps.map (PV.cv e))[i]?=some v->ValOk av w e pB st.bx v p:=by
  intro i p v h1 h2;by_cases hi:i<args.length
  ·rw[oQ hi]at h1;have ak:i<c.args.toList.length:=aF
   rw[oQ (by simpa using ak),oF,oH ak]at h2;simp at h2;subst h2;exact cy i p _ h1 (by rw[o6 aA])
  ·rw[oU aA]at h1;rw[oU aF,oF]at h2;have b3:i - (c.args.toList.map a.eval).length=i - args.length:=aF
   rw[b3,h1]at h2;simp at h2;subst h2;have hm:=oB h1;exact⟨.inr (Cl (ao p hm)).symm,ay p hm,bw p hm⟩
 have dw:(args++caps).length=(c.args.toList.map a.eval++caps.map (PV.cv e)).length:=aF
 unfold Sc at hs;split at hs
 rotate_left
 ·exact hs.elim
 rename_i as c8 al;simp only[okB,oL,ob,mB,nM]at al;obtain⟨⟨⟨b7,az⟩,b8⟩,bc⟩:=al;have az:=mj az;have bc:=nK bc;have ae:∀ k∈ks,∃ B,st.bx[k]?=some B/\B≠.gone/\(B.isArr=true->pinned st k=false):=λk I=>by
  have:=b7 k I
  split at this
  ·rename_i B hB;simp only[oL,nM,mB]at this;refine⟨B,hB,λhc=>by subst hc;simp[Pv]at this,λha=>?_⟩;rcases this.2 with h1 | h1
   ·rw[ha]at h1;cases h1
   ·exact h1
  ·cases this
 have hE:(ks.map some).map (λu=>Option.bind u e.at)=Ay e ks:=by simp[Ay]
 have b9:(wr st ks).length=ks.length:=by simp[wr]
 have ca:∀(j:Nat) (B':Bx),(wr st ks)[j]?=some B'->∃ k B,ks[j]?=some k/\st.bx[k]?=some B/\B≠.gone/\B'=B.ren ks:=λj B' O=>by
  simp only[wr,oF]at O;cases I:ks[j]? with
  | none=>simp[I]at O
  | some k=>simp only[I,oX,od]at O;obtain⟨B,h1,h2,_⟩:=ae k (oB I);refine⟨k,B,rfl,h1,h2,?_⟩;rw[<-O,oA,h1];rfl
 obtain⟨ai,cd,a6⟩:=P2 (us:=ks.map some) (nb:=wr st ks) (av':=λb=>av b\/∃ k,k∉ks/\Lives pB e st.bx k b) h.toMem (λb hb=>hb.imp id λ⟨k,I⟩=>⟨k,I.2⟩) (by simp[wr])
  (λi j k hi O=>by
   simp only[oF]at hi O;cases ak:ks[i]? with
   | none=>simp[ak]at hi
   | some x=>
     cases bg:ks[j]? with
     | none=>simp[bg]at O
     | some y=>simp[ak]at hi;simp[bg]at O;subst hi;subst O;obtain⟨i1,i2⟩:=oD.1 ak;obtain⟨j1,j2⟩:=oD.1 bg;exact(List.getElem_inj bb).1 (i2.trans j2.symm))
  (λj B' O=>by
   obtain⟨k,B,h1,h2,h3,rfl⟩:=ca j B' O;refine .inr ⟨k,B,by simp[h1],ac k (oB h1),h2,⟨?_⟩⟩;rw[hE];cases B with
   | var cs=>
     refine .inr (.inr ⟨cs,_,rfl,rfl,aB,λi q hq=>?_⟩);rw[oF]at hq;cases ce:cs[i]? with
     | none=>simp[ce]at hq
     | some p=>
       simp only[ce,oX,od]at hq;unfold Ui at hq;split at hq
       ·rename_i q' da;subst hq;have h4:=wo (e:=e) da;exact .inr ⟨p,rfl,h4.an.1,h4.cv,h4.ok,h4.ic,by simpa using h4.rf⟩
       ·exact .inl hq.symm
   | gone=>exact absurd rfl h3
   | vd x n=>exact .inr (.inl ⟨rfl,aB⟩)
   | arr t z es c=>exact .inr (.inl ⟨rfl,aB⟩))
 rw [hE]at ai cd a6;obtain⟨bh,aw⟩:=Ge cd c8 aF bz;have db:∀ b,za av pB e st.bx b->b<w.heap.size:=λb hb=>hb.elim (λhb=>by have:=h.avl.lt b hb;have:=h.size;omega) λ⟨k,I⟩=>Lives.lt h.toMem I;obtain⟨de,hA⟩:=hs w.heap.size h.hN;have hC:=hA (λb=>av b\/∃ k,k∉ks/\Lives pB e st.bx k b) w (Ay e ks) rfl ⟨λb hb=>db b (hb.imp id λ⟨k,I⟩=>⟨k,I.2⟩),h.glob,λb hb=>.inl (h.avl.ga b hb),λb hb hc=>by
  simp only[Ay,oT]at hc;obtain⟨k,J,U⟩:=hc;obtain⟨B,g3,g4,_⟩:=ae k J;exact h.avn k b ⟨ac k J,U,B,g3,g4⟩ (h.avl.ga b hb),λx hx hc=>by
  simp only[Ay,oT]at hc;obtain⟨k,J,U⟩:=hc;obtain⟨B,g3,g4,_⟩:=ae k J;rcases h.own k x.1 ⟨ac k J,U,B,g3,g4⟩with h5 | ⟨h5,_⟩
  ·have:=h.avl.g.ltb hx;omega
  ·exact h.avl.gb x hx h5⟩ ai (λj b O hb=>by
  obtain⟨k,J,U⟩:=a6 j b O;simp only[oF]at J;cases I:ks[j]? with
  | none=>simp[I]at J
  | some k2=>
    simp[I]at J;subst J;rcases hb with hb | ⟨k3,g3,g4⟩
    ·exact h.avn k2 b U hb
    ·exact g3 (h.inj k3 k2 b g4 U ▸ oB I)) (λp hp=>by obtain⟨J,U⟩:=aw p hp;exact⟨J,by rw[b9];exact U⟩)
 have cf:(execOp a.eval o).run P w=.ok (.enter f (as.map (PV.val (Ay e ks))).toArray) w:=by
  have e1:(as.map (PV.val (Ay e ks))).toArray=c.args.map a.eval++(PV.cvs e caps).toArray:=by rw[bh,PV.cvs_eq];apply nc.1;simp
  rw[e1];obtain⟨dst,op,ty,pos,after,guard⟩:=o;simp only at ho;subst ho;simp only[execOp,resolve,hc,Deferred.ofValue,c7,invoke];simp[ND de]
 unfold Oper.wp;rw[cf,Oper.upon_enter];refine hC.mono λen w' bi=>?_;cases en with
 | panicked=>exact bi.elim
 | outgrown=>exact bi.elim
 | returned v=>
   obtain⟨ps,es,rows,e1,bj,hd⟩:=bi;have ax:((wr st ks).map xd).length=ks.length:=by simp[b9]
   have cg:Gw rs=HP P f (rsJ as rs++Ru (wr st ks)) ((wr st ks).map xd):=by rw[bc];simp only[HP,K2,Va,oG,Yk]
   rw[<-cg]at bj;have hq:=hd.q;rw[ax]at hq;have dh:=hq;have aj:=QT.app_lam (rsJ as rs++Ru (wr st ks)) (st.bx.length - ks.length) ks.length _ (ps++es) rows _ (by rw[show st.bx.length - ks.length+ks.length=st.bx.length by omega];exact hq);have aa:∀ p∈ps,p.plainR=true:=λp hp=>QT.app_plain _ _ _ _ _ _ hq p (o5 _ hp);have aq:∀ p∈ps,∀ k∈p.refs,ks.length<=k:=λp hp=>QT.app_base _ _ _ _ _ _ hq p (o5 _ hp);obtain⟨ch,cj⟩:=QT.app_rows _ _ _ _ _ _ hq;have aj:=aj hd.size;rw[mm,J0 hd.ns]at aj;have e2:(ps.map (PV.shift (st.bx.length - ks.length))++es).take (Gw rs)=ps.map (PV.shift (st.bx.length - ks.length)):=List.take_left' (by simp[bj]);have e3:(ps.map (PV.shift (st.bx.length - ks.length))++es).drop (Gw rs)=es:=List.drop_left' (by simp[bj]);rw[e2,e3]at aj;have ck:=uG (N:=w'.heap.size) (λq hq=>by
    rcases oM.1 hq with hq | hq
    rotate_left
    ·exact hd.be q hq
    obtain⟨p,hp,rfl⟩:=oT.1 hq;have bv:=aa p hp;have al:=hd.ok p hp;cases p<;>simp only[PV.shift]<;>simp only[PV.Ok]at al
    ·exact al.1.lt
    ·exact al.1.1.lt) aj
   have bm:∀(i:Nat) (B:Bx),rows[i]?=some B->(MB ((wr st ks).map xd) es++rows)[ks.length+i]?=some B:=λi B hi=>by have hl:=(LS ((wr st ks).map xd) es hd.ns).1;rw[ax]at hl;rw[oU aA,hl];simpa using hi
   have bp:=AS (N:=w'.heap.size) (λt z ds cc hm b hb=>by
    obtain⟨i,hi⟩:=oS.1 hm
    have:=hd.m.bo _ _ (bm i _ hi) aB
    simp only[D.foot]at hb;obtain⟨y,hy,di⟩:=zJ.1 hb;exact(this y hy).1.lt b di) ck
   obtain⟨ul,ug⟩:=LS ((wr st ks).map xd) es hd.ns;rw[ax]at ul;have cm:∀(j:Nat) (B':Bx),(MB ((wr st ks).map xd) es)[j]?=some B'->∃ k B,ks[j]?=some k/\st.bx[k]?=some B/\B'.isArr=B.isArr/\∀ i∈B'.refs,i<ks.length:=λj B' O=>by
    obtain⟨B1,J,U,g3⟩:=ug j B' O;rw[oF]at J;cases hb:(wr st ks)[j]? with
    | none=>simp[hb]at J
    | some B2=>
      simp only[hb,oX,od]at J;obtain⟨k,B,q1,q2,q3,rfl⟩:=ca j B2 hb;subst J;refine⟨k,B,q1,q2,by rw[g3,Dq.2,NB],λi hi=>?_⟩
      have:=U i hi
      rw[Dq.1]at this;exact WB i this
   have dj:=HC (bx:=st.bx) ks st h;have a7:∀ k b,Lives pB e (wu st.bx ks st).bx k b↔Lives pB e st.bx k b:=λk b=>by
    obtain⟨J,U⟩:=rN (bx:=st.bx) ks st k;constructor
    ·rintro⟨h1,h2,B',h3,h4⟩
     cases hB:st.bx[k]? with
     | none=>rw[J.2 hB]at h3;cases h3
     | some B=>obtain⟨cn,q1,q2,_⟩:=U B hB;rw[q1]at h3;cases h3;exact⟨h1,h2,B,hB,λhc=>h4 (q2.2 hc)⟩
    ·rintro⟨h1,h2,B,h3,h4⟩
     obtain⟨B',q1,q2,_⟩:=U B h3;exact⟨h1,h2,B',q1,λhc=>h4 (q2.1 hc)⟩
   have co:∀(k:Nat) (B:Bx),(wu st.bx ks st).bx[k]?=some B->∃ B0,st.bx[k]?=some B0/\B.isArr=B0.isArr/\(B=.gone↔B0=.gone):=λk B hB=>by
    obtain⟨J,U⟩:=rN (bx:=st.bx) ks st k;cases au:st.bx[k]? with
    | none=>rw[J.2 au]at hB;cases hB
    | some B0=>obtain⟨cn,q1,q2,q3⟩:=U B0 au;rw[q1]at hB;cases hB;exact⟨B0,rfl,q3,q2⟩
   have ab:∀ k,((wu st.bx ks st).bx.getD k .gone).isArr=(st.bx.getD k .gone).isArr:=λk=>by
    obtain⟨J,U⟩:=rN (bx:=st.bx) ks st k;rw[oA,oA];cases au:st.bx[k]? with
    | none=>rw[J.2 au]
    | some B0=>obtain⟨cn,q1,_,q3⟩:=U B0 au;rw[q1];exact q3
   have dk:Io av pB w w' e (wu st.bx ks st).bx ks e1 (MB ((wr st ks).map xd) es) rows:={
    nd:=bb
    kp:=λk I=>by obtain⟨B,J,U,_⟩:=ae k I;obtain⟨B',q1,q2,_⟩:=(rN (bx:=st.bx) ks st k).2 B J;exact⟨ac k I,B',q1,λhc=>U (q2.1 hc)⟩
    len:=ul
    el:=by have:=hd.m.el;simp only[oG,ul]at this;omega
    m := by
      have he:(λb=>av b\/∃ k,k∉ks/\Lives pB e (wu st.bx ks st).bx k b)=λb=>av b\/∃ k,k∉ks/\Lives pB e st.bx k b:=by funext b;exact propext (or_congr lL (exists_congr λk=>and_congr lL (a7 k b)))
      rw[he];exact hd.m
    arr:=ch
    kind:=λj k B B' O hB dl=>by obtain⟨k2,B2,J,U,g3,_⟩:=cm j B' dl;rw[O]at J;cases J;obtain⟨B0,q1,q2,_⟩:=co k B hB;rw[U]at q1;cases q1;rw[g3,q2]
    refs:=λB hB j O=>by obtain⟨i,hi⟩:=oS.1 hB;obtain⟨_,_,_,_,_,g⟩:=cm i B hi;exact g j O
    fix:=λj k B O hB ha=>by
     obtain⟨B0,q1,q2,_⟩:=co k B hB;have dm:((wr st ks).map xd)[j]?=some (xd (B0.ren ks)):=by simp[wr,oF,O,oA,q1]
     have:=hd.fix j _ dm (by rw[Dq.2,NB,<-q2];exact ha)
     rw[this];have dn:(Ay e ks).at j=e.at k:=by simp[Ay,Env.at,oA,O]
     rw[dn];have cp:=h.br k B0 q1 (ac k (oB O));rw[q2]at ha;cases B0 with
     | var cs=>obtain⟨b,_,_,g,_⟩:=cp;rw[g];rfl
     | vd y n=>obtain⟨b,_,_,g,_⟩:=cp;rw[g];rfl
     | arr=>cases ha
     | gone=>cases ha
    fr:=λj b O=>by
     rcases hd.fresh j b O with g | ⟨J,U⟩
     ·exact .inl g
     ·rw[ax]at J;simp only[Ay,oT]at U;obtain⟨k,g3,g4⟩:=U;exact .inr ⟨J,k,g3,g4⟩
    size:=hd.size
    hold:=λb hb dq=>hd.old b hb λhc=>by simp only[Ay,oT]at hc;obtain⟨k,g3,g4⟩:=hc;exact dq k g3 g4
    fz:=λb cc t z hb dr=>hd.fz b cc t z (hb.imp id λ⟨k,J,U⟩=>by simp only[Ay,oT];exact⟨k,J,U⟩) dr
    ku:=hd.ku }
   have a8:=EG (bx:=st.bx) ks st;obtain⟨hR,ah⟩:=zAK dj dk
    (λi p hi k I Y=>(Ac ks st k I (by rw[<-ab];exact Y)).1 i p hi)
    (λj B O bq k I Y=>(Ac ks st k I (by rw[<-ab];exact Y)).2 j B O)
    (λk I Y b hb=>by
     rw[a8]at hb;rw[ab]at Y;obtain⟨B,J,_,g3⟩:=ae k I;rw[oA,J]at Y
     have:=g3 Y
     unfold pinned at this;rw[hb]at this;cases this)
    (by
     rw[a8];refine b8.imp (λhq k I Y=>?_) λhq k I Y=>?_
     ·rw[ab]at Y;rcases hq k I with g | g
      ·rw[Y]at g;cases g
      ·exact mj g
     ·rw[ab]at Y;rcases hq k I with g | g
      ·rw[Y]at g;cases g
      ·exact mj g)
   have cq:=(HB (bx:=st.bx) ks st).1;have cr:∀ p∈ps,∀ k∈p.refs,Env.at (G2 ks e1 e++e1.drop ks.length) (st.bx.length - ks.length+k)=e1.at k:=λp hp k I=>by have h1:=aq p hp k I;rw[Env.at_app,if_neg (by simp[G2,h.el];omega)];simp only[G2,nE,List.length_range,h.el,Env.at,oA,nT];congr 2;omega
   have ct:ValOk av w' (G2 ks e1 e++e1.drop ks.length) pB (bxN ks ((MB ((wr st ks).map xd) es).map (Bx.mapR λj=>ks.getD j 0)) 0 (wu st.bx ks st).bx++rows) v (zAL (rsJ as rs) (MB ((wr st ks).map xd) es) ks (ps.map (PV.shift (st.bx.length - ks.length)))):=by
    by_cases bt:∃ j l,rsJ as rs=.bk j::l
    ·obtain⟨j,l,O⟩:=bt;have hv:=hd.v;rw[O]at hv ⊢;simp only[oq,T8]at hv;simp only[zAL];cases hU:(MB ((wr st ks).map xd) es)[j]? with
     | none=>exact DC
     | some B=>
       rw[hU]at hv;cases B with
       | arr t z ds cc=>
         simp only at hv ⊢;have dt:j<ks.length:=by rw[<-ul];exact(oD.1 hU).1
         have bq:ks[j]?=some (ks.getD j 0):=by rw[oA,oH dt];rfl
         have ai:ks.getD j 0∈ks:=oB bq;obtain⟨B0,J,U,_⟩:=ae _ ai;have ba:=(oD.1 J).1;have cw:Env.at (G2 ks e1 e++e1.drop ks.length) (ks.getD j 0)=e1.at j:=by rw[Env.at_app,if_pos (by simp[G2,h.el];exact ba),Sv (by rw[h.el];exact ba),Tf bb bq]
         refine⟨.inr ?_,trivial,λk I=>?_⟩
         ·rw[hv];simp only[PV.val,PV.val1,PV.cv,cw]
         ·simp only[PV.refs,oi]at I;subst I;refine⟨ac _ ai,?_⟩;simp only[oG,xh,cq];omega
       | _=>exact DC
    ·have du:∀ j l,rsJ as rs++Ru (wr st ks)≠.bk j::l:=λj l hc=>by
      cases hr:rsJ as rs with
      | nil=>rw[hr,oa]at hc;exact WZ (wr st ks) (.bk j) (by rw[hc];simp) j rfl
      | cons s l'=>rw[hr]at hc;simp only[oq,List.cons.injEq]at hc;exact bt ⟨j,l',by rw[hr,hc.1]⟩
     have cx:zAL (rsJ as rs) (MB ((wr st ks).map xd) es) ks (ps.map (PV.shift (st.bx.length - ks.length)))=Iv (FS (rsJ as rs)) (ps.map (PV.shift (st.bx.length - ks.length))):=by
      unfold zAL;split
      ·rename_i hc;exact absurd ⟨_,_,hc⟩ bt
      ·rfl
     have hv:=hd.v;rw[Hb du,K2]at hv;rw[cx];refine⟨.inr ?_,?_,?_⟩
     ·rw[hv];exact(O8 aa cr).symm
     ·refine UV (λq hq=>?_) (λhc q hq=>by obtain⟨p,hp,rfl⟩:=oT.1 hq;exact NH (QT.app_pk (by rw[K2];exact hc) dh p (o5 _ hp)));obtain⟨p,hp,rfl⟩:=oT.1 hq;have h1:=hd.ok p hp;have h2:=aa p hp;have he:(λb=>av b\/∃ k,k∉ks/\Lives pB e (wu st.bx ks st).bx k b)=λb=>av b\/∃ k,k∉ks/\Lives pB e st.bx k b:=by funext b;exact propext (or_congr lL (exists_congr λk=>and_congr lL (a7 k b)))
      rw[he]at ah;cases p<;>simp[PV.plainR]at h2<;>simp only[PV.shift]<;>simp only[PV.Ok]at h1 ⊢
      ·exact ah _ h1
      ·exact⟨ah _ h1.1,h1.2⟩
      ·exact⟨ah _ h1.1,h1.2⟩
     ·intro k I;obtain⟨q,hq,dv⟩:=Nb k I;obtain⟨p,hp,rfl⟩:=oT.1 hq;obtain⟨j,O,rfl⟩:=Jz (aa p hp) k dv;have h1:=(cj p (o5 _ hp)).2.2 j O;have h2:=aq p hp j O;refine⟨λhc=>by have:=bv _ hc;omega,?_⟩;simp only[oG,xh,cq];omega
   exact hn v w' (G2 ks e1 e++e1.drop ks.length) _ bp ⟨_,rows,_,_,rfl⟩ (wE hR ct cz)
end Go.Proofs.YtlaniepnglheoaaGreatDoor
