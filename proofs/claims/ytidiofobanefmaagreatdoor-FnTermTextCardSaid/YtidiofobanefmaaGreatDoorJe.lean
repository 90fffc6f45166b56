/- A call within a call is sound. -/
import Derived.Test.YtidiofobanefmaaGreatDoorJc
set_option linter.unusedVariables false
set_option linter.unusedSimpArgs false
set_option linter.unusedSectionVars false
namespace Go.Proofs.YtidiofobanefmaaGreatDoor
open Go
variable [Dfs] {av:Nat->Prop} {P:Program} {w0 w w':World} {e0 e:Env} {pS pS' pB:List Nat} {a:Act} {st st':St}
def wz (bs:List (Option Addr)):List Nat:=bs.filterMap λa=>a.map (·.block)
def PV.plainR:PV->Bool
 | .int ..=>true
 | .bool ..=>true
 | .str ..=>true
 | .sv ..=>true
 | .dg ..=>true
 | .sb ..=>true
 | .dc ..=>true
 | .pb ..=>true
 | _=>false
theorem QT.app_plain:∀(l:List Sh)(Q:QT l)(b:Nat)(ps:List PV)(rows:List Bx)(N:Nat),QT.app l Q b ps rows N->∀ p∈ps,p.plainR=true
 | [],Q,b,ps,rows,N,h=>by cases ps<;>cases rows<;>simp[QT.app]at h ⊢
 | s :: l,Q,b,ps,rows,N,h=>by
   by_cases hs:s=.pk
   ·subst hs;exact QT.app_plain l Q b ps rows N h.2
   cases ps with
   | nil=>cases s<;>first | exact absurd rfl hs | (simp[QT.app]at h;done)
   | cons p ps=>
     have key:(∃(J:QT l) (b':Nat) (I:List Bx),QT.app l J b' ps I N)/\p.plainR=true:=by
      cases s<;>(try(exact absurd rfl hs))<;>cases p<;>(try(exact h.elim))<;>(try(simp[QT.app]at h;done))<;>first
       | exact⟨⟨_,_,_,h⟩,rfl⟩
       | exact⟨⟨_,_,_,h.2⟩,rfl⟩
       | skip
      all_goals
       cases rows with
       | nil=>simp[QT.app]at h
       | cons B rows=>
         cases B<;>first
          | exact⟨⟨_,_,_,h.2⟩,rfl⟩
          | (simp[QT.app]at h;done)
          | (obtain⟨_,_,_,_,_,_,_,h⟩:=h;exact⟨⟨_,_,_,h⟩,rfl⟩)
     obtain⟨⟨J,b',I,O⟩,U⟩:=key;intro q hq;rcases oG.1 hq with rfl | hq
     ·exact U
     ·exact QT.app_plain l J b' ps I N O q hq
theorem Iu {cs:List PV}{ds:List D}(h:Cr cs=some ds){live:Nat->Prop}(I:PV.OkL w live cs):PV.val [] (.dg cs.length (.ag ds))=PV.val e (.pg cs):=by obtain⟨_,J⟩:=vL (e:=e) h I;simp[PV.val,PV.val1,D.val,J]
theorem yp {bx:List Bx}{v:Value}{p q:PV}(Y:ValOk av w e pB bx v p)(h:vw p=some q):v=q.val []/\(∀ live,(∀ b,live b->zM av pB e bx b)->q.Ok w live)/\q.refs=[]:=by
 have U:p≠.any:=λhc=>by subst hc;simp[vw]at h
 have O:=Y.1.resolve_left U;have I:=Y.2.1;have same:p=q->q.refs=[]->v=q.val []/\(∀ live,(∀ b,live b->zM av pB e bx b)->q.Ok w live)/\q.refs=[]:=λV Z=>by subst V;refine⟨by rw[O];exact(PV.val_congr p (by rw[Z];simp)).symm,λlive hl=>PV.Ok.mono (λ_ _ _=>rfl) (oJ _) (λb _=>hl b) p I,Z⟩
 cases p<;>simp[vw]at h
 case pg cs=>
  split at h
  ·rename_i ds J;simp at h;subst h;simp only[PV.Ok]at I;refine⟨by rw[O,Iu J I.1],λlive hl=>?_,rfl⟩;obtain⟨g1,_⟩:=vL (e:=e) J I.1;exact⟨(Good.ag λd hd=>(g1 d hd).1).mono (λ_ _ _=>rfl) (λb _=>hl b),ds,rfl,wY J,λd hd=>(g1 d hd).2⟩
  ·cases h
 all_goals(subst h;exact same rfl rfl)
theorem sc {p:PV}(h:p.isCap=true):p.val e=p.cv e:=by cases p<;>simp[PV.isCap]at h<;>rfl
theorem Ej {bx:List Bx} (h:Mem av pB w e bx) {k z b:Nat} {B:Bx} {x:D} (hk:bx[k]?=some B) (J:k∉pB) (hc:JU B=some (z,x)) :
  ∃ b c t,e.at k=some b/\w.heap[b]?=some (.cells c t (0,0))/\Lives pB e bx k b/\Good w (zM av pB e bx) x/\eOk z x/\∀(i:Nat) (u:D),x.cells[i]?=some u->c[i]?=some u.cv:=by
 have Y:=h.br k B hk J;have ho:=h.bo k B hk J;cases B with
 | gone=>cases hc
 | arr=>cases hc
 | var cs =>
   obtain⟨b,c,t,Z,h2,h3,h4⟩:=Y;have hl:Lives pB e bx k b:=⟨J,Z,_,hk,by simp⟩
   have aa:=ho.1;refine⟨b,c,t,Z,h2,hl,?_⟩;simp only[JU]at hc;split at hc
   ·rename_i p;split at hc
    ·rename_i d hd;simp at hc;obtain⟨rfl,rfl⟩:=hc;obtain⟨g1,g2,g3,g4,_⟩:=yR (e:=e) hd (PV.OkL_iff.1 aa p (by simp));have ab:d.cells=[d]:=by cases d<;>simp[D.isCell]at g2<;>rfl
     refine⟨g1,by simpa [eOk]using g2,λi u U=>?_⟩;rw[ab]at U;cases i with
     | zero=>
       simp at U;subst U;rcases h4 0 p rfl with h5 | h5
       ·subst h5;simp[tB]at hd
       ·rw[g3];exact h5
     | succ i=>simp at U
    ·cases hc
   ·split at hc
    ·rename_i n ds hd O;simp at hc;obtain⟨rfl,rfl⟩:=hc;obtain⟨g1,g2⟩:=vL (e:=e) O aa;refine⟨Good.ag λd hd=>(g1 d hd).1,?_,λi u U=>?_⟩
     ·simp only[eOk,Nat.add_one_ne_zero,nL];exact⟨ds,rfl,by rw[wY O];exact hd,λd hd=>(g1 d hd).2⟩
     ·simp only[D.cells]at U;have ac:i<ds.length:=(oC.1 U).1;have V:i<cs.length:=by rw[<-wY O];exact ac
      have I:(ds.map D.cv)[i]?=(PV.cvs e cs)[i]?:=by rw[g2]
      rw[oE,U,PV.cvs_eq,oE,oF V]at I;simp only[oR,oZ]at I;rcases h4 i _ (oF V)with h5 | h5
      ·exfalso;have:∀(l:List PV) (r:List D),Cr l=some r->PV.any∉l:=by
        intro l
        induction l with
        | nil=>intro r _;simp
        | cons q l ih=>
          intro r Y hm;simp only[Cr]at Y;split at Y
          ·rename_i d ae h7 h8;rcases oG.1 hm with rfl | hm
           ·simp[tB]at h7
           ·exact ih _ h8 hm
          ·cases Y
       exact this cs ds O (by rw[<-h5];exact mO V)
      ·rw[I];exact h5
    ·cases hc
 | vd y n=>
   obtain⟨b,c,t,Z,h2,h3,h4,h5⟩:=Y;refine⟨b,c,t,Z,h2,⟨J,Z,_,hk,by simp⟩,?_⟩;simp only[JU]at hc;split at hc
   ·cases hc
   ·simp at hc;obtain⟨rfl,rfl⟩:=hc;exact⟨ho,by simpa [eOk]using h4,h5⟩
def ArgOk (av:Nat->Prop)(pB:List Nat)(w:World)(e:Env)(st:St)(bs:List (Option Addr))(v:Value)(p q:PV):Prop:=
 q.val []=v/\(∀ live,(∀ b,live b->zM av pB e st.bx b/\b∉wz bs)->q.Ok w live)/\q.refs=[]/\(p.isCap=true->q.isCap=true)
theorem wU {a b:List (Option Addr)}:wz (a++b)=wz a++wz b:=by simp[wz]
theorem ArgOk.mono {bs bs':List (Option Addr)}{v:Value}{p q:PV}(h:ArgOk av pB w e st bs v p q)(hb:∀ b∈wz bs,b∈wz bs'):ArgOk av pB w e st bs' v p q:=
 ⟨h.1,λlive hl=>h.2.1 live λb I=>⟨(hl b I).1,λhc=>(hl b I).2 (hb b hc)⟩,h.2.2⟩
def ta (pB:List Nat)(e:Env)(bx:List Bx)(bs:List (Option Addr)):Prop:=∀ b∈wz bs,∃ k,Lives pB e bx k b
theorem wN {bx:List Bx}{x:Option Addr}(hb:∀ ad,x=some ad->zM av pB e bx ad.block):∀ {ps:List PV}{K:Prop},(∀ p∈ps,∃ v,ValOk av w e pB bx v p)->Kg x ps K->K
 | [],K,_,h=>h
 | p::ps,K,Y,h=>by
   have I:=λq Z=>Y q (mM _ Z);obtain⟨v,hv⟩:=Y p (by simp);have O:=hv.2.1;cases p<;>simp only[Kg]at h
   case sv=>refine wN hb I (h λy U ad J V=>?_);rw[nM]at U;subst U;exact O.2 _ V (hb ad J)
   case dg=>refine wN hb I (h λy U ad J V=>?_);rw[nM]at U;subst U;exact O.1.2 _ V (hb ad J)
   all_goals exact wN hb I h
theorem uY (h:Mem av pB w e st.bx) {al:List PV} (Y:∀ p∈al,∃ v,ValOk av w e pB st.bx v p):∀(cs:List PV) (K:List D->List (Option Addr)->Prop),(∀ p∈cs,p.Ok w (zM av pB e st.bx)/\∀ k∈p.refs,k∉pB)->Bi st al cs K ->
  ∃ ds bs,K ds bs/\ds.length=cs.length/\ds.map D.cv=PV.cvs e cs/\(∀ d∈ds,d.isCell)/\(∀ live,(∀ b,live b->zM av pB e st.bx b/\b∉wz bs)->∀ d∈ds,Good w live d)/\ta pB e st.bx bs
 | [],K,_,O=>⟨[],[],O,rfl,rfl,by simp,by simp,by simp[ta,wz]⟩
 | p :: ps, K,hc,O=>by
   have aa:=λq hq=>hc q (mM _ hq);have ah:∀ d,tB p=some d->Bi st al ps (λds bs=>K (d::ds) bs)->∃ ds bs,K ds bs/\ds.length=(p::ps).length/\ds.map D.cv=PV.cvs e (p::ps)/\(∀ d∈ds,d.isCell)/\(∀ live,(∀ b,live b->zM av pB e st.bx b/\b∉wz bs)->∀ d∈ds,Good w live d)/\ta pB e st.bx bs:=λd hd O=>by
    obtain⟨Z,g2,g3,_,_⟩:=yR (w:=w) (e:=e) hd (hc p (by simp)).1;obtain⟨ds,bs,k1,k2,k3,k4,k5,k6⟩:=uY h Y ps _ aa O;refine⟨d::ds,bs,k1,by simp[k2],by simp[PV.cvs,k3,g3],λx hx=>?_,λlive hl x hx=>?_,k6⟩
    ·rcases oG.1 hx with rfl | hx
     ·exact g2
     ·exact k4 x hx
    ·rcases oG.1 hx with rfl | hx
     ·exact Z.mono (λ_ _ _=>rfl) λb _ hb=>(hl b hb).1
     ·exact k5 live hl x hx
   simp only[Bi]at O;split at O
   ·rename_i k z lo n c;split at O
    ·rename_i t z' es c' hk;cases hd:decide (z=z'/\lo=0)with
     | false=>rw[hd]at O;exact O.elim
     | true =>
       rw[hd]at O;simp at hd;obtain⟨hz,ai⟩:=hd;subst hz;subst ai;obtain⟨⟨rfl,rfl⟩,O⟩:=O;have U:=(hc (.sb k z 0 es.length c) (by simp)).2 k (by simp[PV.refs]);have hr:=h.br k _ hk U;have ab:=h.bo k _ hk U;have aj:=O ((e.at k).map λb=>⟨b,0,none⟩) (λad J d hd hb=>by
        cases I:e.at k with
        | none=>rw[I]at J;cases J
        | some b=>rw[I]at J;cases J;exact(ab d hd).2 b hb (.inr ⟨k,U,I,_,hk,by simp⟩))
       have ak:=wN (λad J=>by
        cases I:e.at k with
        | none=>rw[I]at J;cases J
        | some b=>rw[I]at J;cases J;exact .inr ⟨k,U,I,_,hk,by simp⟩) Y aj
       obtain⟨ds,bs,k1,k2,k3,k4,k5,k6⟩:=uY h Y ps _ aa ak;refine⟨_,_,k1,by simp[k2],?_,λx hx=>?_,λlive V x hx=>?_,λb hb=>?_⟩
       ·simp only[o7,PV.cvs,k3];congr 1;cases I:e.at k<;>simp[PV.cv,D.cv,I]
       ·rcases oG.1 hx with rfl | hx
        ·simp[D.isCell]
        ·exact k4 x hx
       ·rcases oG.1 hx with rfl | hx
        ·have ac:∀ x∈es,Good w live x:=λx hx=>(ab x hx).mono (λ_ _ _=>rfl) (λb _ hb=>(V b hb).1);rcases hr with⟨Z,g2,g3⟩ | ⟨b,cc,Z,g2,g3,g4,g5,g6,g7⟩
         ·subst g2;subst g3;rw[Z];exact sa
         ·rw[Z];refine⟨.sl (λ_=>rfl) g4 g6 (λx hx=>(ac x hx).1) (.inr ⟨cc,t,(0,0),g2,λi u hu=>by simpa using g7 i u hu⟩),λj hj ae=>?_⟩;simp only[oR,D.foot]at hj;split at hj
          ·simp at hj
          ·rcases oG.1 hj with rfl | hj
           ·exact(V _ ae).2 (by simp[wz,Z])
           ·obtain⟨x,hx,ao⟩:=zL.1 hj;exact(ac x hx).2 j ao ae
        ·exact k5 live (λb hb=>⟨(V b hb).1,λhc=>(V b hb).2 (by rw[show(((e.at k).map λb=>(⟨b,0,none⟩:Addr))::bs)=[((e.at k).map λb=>(⟨b,0,none⟩:Addr))]++bs from rfl,wU];exact mJ _ hc)⟩) x hx
       ·rw[show(((e.at k).map λb=>(⟨b,0,none⟩:Addr))::bs)=[((e.at k).map λb=>(⟨b,0,none⟩:Addr))]++bs from rfl,wU]at hb;rcases oO.1 hb with hb | hb
        ·cases I:e.at k with
         | none=>simp[wz,I]at hb
         | some b'=>simp[wz,I]at hb;subst hb;exact⟨k,U,I,_,hk,by simp⟩
        ·exact k6 b hb
    ·exact O.elim
   ·split at O
    ·rename_i d hd;exact ah d hd O
    ·exact O.elim
mutual
theorem GQ (h:Mem av pB w e st.bx) {al:List PV} (aa:∀ p∈al,∃ v,ValOk av w e pB st.bx v p):∀(p:PV) (v:Value) (K:PV->List (Option Addr)->Prop),ValOk av w e pB st.bx v p->DT st al p K->∃ q bs,K q bs/\ArgOk av pB w e st bs v p q/\ta pB e st.bx bs
 | .sb k z lo n c,v,K,J,I=>by
   simp only[DT]at I
   split at I
   ·rename_i t z' es c' hk
    cases hd:decide (z=z'/\lo=0)with
    | false=>rw[hd]at I;exact I.elim
    | true=>
      rw[hd]at I
      simp at hd
      obtain⟨hz,au⟩:=hd
      subst hz;subst au
      obtain⟨⟨rfl,rfl⟩,I⟩:=I
      have ab:=(J.2.2 k (by simp[PV.refs])).1
      have hr:=h.br k _ hk ab
      have Z:=h.bo k _ hk ab
      have ac:=J.1.resolve_left (by simp)
      have aw:=I ((e.at k).map λb=>⟨b,0,none⟩) (λad O d hd hb=>by
       cases U:e.at k with
       | none=>rw[U]at O;cases O
       | some b=>
         rw[U]at O;cases O
         exact(Z d hd).2 b hb (.inr ⟨k,ab,U,_,hk,by simp⟩))
      refine⟨_,_,wN (λad O=>?_) aa aw,⟨?_,λlive V=>?_,rfl,λ_=>rfl⟩,λb hb=>?_⟩
      ·cases U:e.at k with
       | none=>rw[U]at O;cases O
       | some b=>
         rw[U]at O;cases O
         exact .inr ⟨k,ab,U,_,hk,by simp⟩
      ·rw[ac]
       cases U:e.at k<;>simp[PV.val,PV.val1,PV.cv,U]
      ·have aj:∀ x∈es,Good w live x:=λx hx=>(Z x hx).mono (λ_ _ _=>rfl) (λb _ hb=>(V b hb).1)
       rcases hr with⟨Y,g2,g3⟩ | ⟨b,cc,Y,g2,g3,g4,g5,g6,g7⟩
       ·subst g2;subst g3
        rw[Y]
        exact sa
       ·rw[Y]
        refine⟨.sl (λ_=>rfl) g4 g6 (λx hx=>(aj x hx).1) (.inr ⟨cc,t,(0,0),g2,λi u hu=>by simpa using g7 i u hu⟩),λj hj ak=>?_⟩
        simp only[oR,D.foot]at hj
        split at hj
        ·simp at hj
        ·rcases oG.1 hj with rfl | hj
         ·exact(V _ ak).2 (by simp[wz,Y])
         ·obtain⟨x,hx,ax⟩:=zL.1 hj
          exact(aj x hx).2 j ax ak
      ·cases U:e.at k with
       | none=>simp[wz,U]at hb
       | some b'=>
         simp[wz,U]at hb;subst hb
         exact⟨k,ab,U,_,hk,by simp⟩
   ·exact I.elim
 | .pb k z i o,v,K,J,I=>by
   simp only[DT]at I
   split at I
   ·rename_i B hk
    split at I
    ·rename_i z x hd hx
     simp at hd
     obtain⟨rfl,rfl⟩:=hd
     have ab:=(J.2.2 k (by simp[PV.refs])).1
     have ac:=J.1.resolve_left (by simp)
     obtain⟨b,c,t,Y,g2,g3,g4,g5,g6⟩:=Ej (b:=0) h hk ab hx
     refine⟨_,_,wN (λad O=>by cases O;exact .inr ⟨k,g3⟩) aa (I ⟨b,0,none⟩ (λad O d hd hb=>by cases O;simp at hd;subst hd;exact g4.2 _ hb (.inr ⟨k,g3⟩))),⟨?_,λlive V=>⟨?_,g5,rfl,.inr ⟨c,t,(0,0),g2,λi u hu=>by simpa using g6 i u hu⟩,λhl=>(V _ hl).2 (by simp[wz]),Lives.lt h g3⟩,rfl,λ_=>rfl⟩,λb' hb=>?_⟩
     ·rw[ac];simp[PV.val,PV.val1,PV.cv,Y]
     ·exact g4.mono (λ_ _ _=>rfl) λb _ hb=>(V b hb).1
     ·simp[wz]at hb;subst hb;exact⟨k,g3⟩
    ·exact I.elim
   ·exact I.elim
 | .fn f caps,v,K,J,I=>by
   simp only[DT]at I
   split at I
   ·rename_i ae
    rw[oW]at ae
    have ac:=J.1.resolve_left (by simp)
    have Z:=J.2.1
    simp only[PV.Ok,PV.OkL_iff]at Z
    obtain⟨as,bs,h1,h2,h3,h4⟩:=tf h aa caps (caps.map (PV.cv e)) _ (by simp) (λi p v hp ah=>by
     rw[oE,hp]at ah
     simp at ah;subst ah
     have hm:=oB hp
     exact⟨.inr (sc (ae p hm)).symm,Z p hm,λk hk=>J.2.2 k (by simp only[PV.refs];exact PV.refsL_mem.2 ⟨p,hm,hk⟩)⟩) I
    have ao:PV.cvs [] as=PV.cvs e caps:=by
     rw[PV.cvs_eq,PV.cvs_eq,<-h2]
     refine ou λq hq=>?_
     obtain⟨i,hi⟩:=oQ.1 hq
     obtain⟨p,hp,ho⟩:=h3 i q hi
     exact(sc (ho.2.2.2 (ae p (oB hp)))).symm
    refine⟨_,_,h1,⟨?_,λlive V=>?_,?_,λ_=>rfl⟩,h4⟩
    ·rw[ac]
     show(PV.fn f as).cv []=(PV.fn f caps).cv e
     simp only[PV.cv,ao]
    ·simp only[PV.Ok,PV.OkL_iff]
     intro q hq
     obtain⟨i,hi⟩:=oQ.1 hq
     obtain⟨p,hp,ho⟩:=h3 i q hi
     exact ho.2.1 live V
    ·simp only[PV.refs]
     refine nI.2 λk hk=>?_
     obtain⟨q,hq,aq⟩:=PV.refsL_mem.1 hk
     obtain⟨i,hi⟩:=oQ.1 hq
     obtain⟨p,hp,ho⟩:=h3 i q hi
     rw[ho.2.2.1]at aq;simp at aq
   ·exact I.elim
 | .any,v,K,J,I=>by simp[DT,vw]at I
 | .int ..,v,K,J,I=>by simp[DT,vw]at I;exact⟨_,_,I,⟨(J.1.resolve_left (by simp)).symm,λ_ _=>trivial,rfl,λ_=>rfl⟩,by simp[ta,wz]⟩
 | .bool ..,v,K,J,I=>by simp[DT,vw]at I;exact⟨_,_,I,⟨(J.1.resolve_left (by simp)).symm,λ_ _=>trivial,rfl,λ_=>rfl⟩,by simp[ta,wz]⟩
 | .str ..,v,K,J,I=>by simp[DT,vw]at I;exact⟨_,_,I,⟨(J.1.resolve_left (by simp)).symm,λ_ _=>trivial,rfl,λ_=>rfl⟩,by simp[ta,wz]⟩
 | .tp ..,v,K,J,I=>by simp[DT,vw]at I
 | .d ..,v,K,J,I=>by simp[DT,vw]at I
 | .lit x,v,K,J,I=>by
   have I:K (.lit x) []:=by simpa [DT,vw]using I
   obtain⟨Y,g2,g3⟩:=yp J (q:=.lit x) rfl
   exact⟨_,_,I,⟨Y.symm,λlive hl=>g2 live λb hb=>(hl b hb).1,g3,λ_=>rfl⟩,by simp[ta,wz]⟩
 | .sv a z es c,v,K,J,I=>by
   have I:K (.sv a z es c) []:=by simpa [DT,vw]using I
   obtain⟨Y,g2,g3⟩:=yp J (q:=.sv a z es c) rfl
   exact⟨_,_,I,⟨Y.symm,λlive hl=>g2 live λb hb=>(hl b hb).1,g3,λ_=>rfl⟩,by simp[ta,wz]⟩
 | .dg n x,v,K,J,I=>by
   have I:K (.dg n x) []:=by simpa [DT,vw]using I
   obtain⟨Y,g2,g3⟩:=yp J (q:=.dg n x) rfl
   exact⟨_,_,I,⟨Y.symm,λlive hl=>g2 live λb hb=>(hl b hb).1,g3,id⟩,by simp[ta,wz]⟩
 | .dc x,v,K,J,I=>by
   have I:K (.dc x) []:=by simpa [DT,vw]using I
   obtain⟨Y,g2,g3⟩:=yp J (q:=.dc x) rfl
   exact⟨_,_,I,⟨Y.symm,λlive hl=>g2 live λb hb=>(hl b hb).1,g3,λ_=>rfl⟩,by simp[ta,wz]⟩
 | .pd ad z x,v,K,J,I=>by
   have I:K (.pd ad z x) []:=by simpa [DT,vw]using I
   obtain⟨Y,g2,g3⟩:=yp J (q:=.pd ad z x) rfl
   exact⟨_,_,I,⟨Y.symm,λlive hl=>g2 live λb hb=>(hl b hb).1,g3,λ_=>rfl⟩,by simp[ta,wz]⟩
 | .pg cs,v,K,J,I=>by
   simp only[DT]at I
   have ac:=J.1.resolve_left (by simp)
   have Z:=J.2.1
   simp only[PV.Ok]at Z
   obtain⟨ai,a7⟩:=Z
   rw[PV.OkL_iff]at ai
   cases hn:Cr cs with
   | some ds=>
     rw[hn]at I
     obtain⟨Y,g2,g3⟩:=yp J (q:=.dg cs.length (.ag ds)) (by simp[vw,hn])
     exact⟨_,_,I,⟨Y.symm,λlive hl=>g2 live λb hb=>(hl b hb).1,g3,λhc=>by simp[PV.isCap]at hc⟩,by simp[ta,wz]⟩
   | none=>
     rw[hn]at I
     obtain⟨ds,bs,k1,k2,k3,k4,k5,k6⟩:=uY h aa cs _ (λp hp=>⟨ai p hp,λk hk=>(J.2.2 k (by simp only[PV.refs];exact PV.refsL_mem.2 ⟨p,hp,hk⟩)).1⟩) I
     refine⟨_,_,k1,⟨?_,λlive V=>⟨⟨.ag λx hx=>(k5 live V x hx).1,λb hb hl=>?_⟩,ds,rfl,k2,k4⟩,rfl,λhc=>by simp[PV.isCap]at hc⟩,k6⟩
     ·rw[ac]
      simp only[PV.val,PV.val1,D.val,k3]
     ·simp only[D.foot]at hb
      obtain⟨x,hx,ay⟩:=zL.1 hb
      exact(k5 live V x hx).2 b ay hl
theorem tf (h:Mem av pB w e st.bx) {al:List PV} (aa:∀ p∈al,∃ v,ValOk av w e pB st.bx v p):∀(ps:List PV) (vs:List Value) (K:List PV->List (Option Addr)->Prop),ps.length=vs.length->(∀(i:Nat) (p:PV) (v:Value),ps[i]?=some p->vs[i]?=some v->ValOk av w e pB st.bx v p)->HK st al ps K ->
  ∃ as bs,K as bs/\as.map (PV.val [])=vs/\(∀(i:Nat) (q:PV),as[i]?=some q->∃ p,ps[i]?=some p/\ArgOk av pB w e st bs (q.val []) p q)/\ta pB e st.bx bs
 | [],vs,K,hl,_,I=>by
   cases vs with
   | nil=>exact⟨[],[],I,rfl,by simp,by simp[ta,wz]⟩
   | cons=>simp at hl
 | p :: ps,vs,K,hl,J,I=>by
   cases vs with
   | nil=>simp at hl
   | cons v vs=>
     simp only[HK]at I
     obtain⟨q,b1,h1,h2,az⟩:=GQ h aa p v _ (J 0 p v rfl rfl) I
     obtain⟨qs,b2,h3,h4,h5,a1⟩:=tf h aa ps vs _ (by simpa using hl) (λi p v hp ah=>J (i+1) p v (by simpa using hp) (by simpa using ah)) h1
     refine⟨q::qs,b1++b2,h3,by simp[h2.1,h4],λi r hr=>?_,λb hb=>?_⟩
     ·cases i with
      | zero=>
        simp at hr;subst hr
        refine⟨p,rfl,?_⟩
        have:=h2.mono (bs':=b1++b2) λb hb=>by rw[wU];exact nS _ hb
        exact⟨rfl,this.2⟩
      | succ i=>
        obtain⟨p',a6,ho⟩:=h5 i r (by simpa using hr)
        exact⟨p',by simpa using a6,ho.mono λb hb=>by rw[wU];exact mJ _ hb⟩
     ·rw[wU]at hb
      rcases oO.1 hb with hb | hb
      ·exact az b hb
      ·exact a1 b hb
end
theorem rz {p:PV}{f:FuncId}{caps:List PV}{bx:List Bx}{v:Value}(I:ValOk av w e pB bx v p)(h:LQ p=some (f,caps)):ValOk av w e pB bx v (.fn f caps):=by
 unfold LQ at h;split at h
 ·cases h;exact I
 ·rename_i g ds;cases h;exact BY I
 ·cases h
theorem Fs {bs:List (Option Addr)}{d:D}(h:Off bs d):∀ b∈wz bs,b∉d.foot:=by
 intro b hb;simp only[wz,nN]at hb;obtain⟨x,J,I⟩:=hb;cases x with
 | none=>simp at I
 | some ad=>simp at I;subst I;exact h _ J ad rfl
def PV.offB (b:Nat):PV->Prop
 | .sv a z es c=>b∉(D.sl a z es c).foot
 | .dg _ x=>b∉x.foot
 | .dc x=>b∉x.foot
 | _=>True
theorem Bp {bs:List (Option Addr)}:∀ {ps:List PV}{K:Prop},Kh bs ps K->K/\∀ b∈wz bs,∀ p∈ps,p.offB b
 | [],K,h=>⟨h,by simp⟩
 | p::ps,K,h=>by
   have step:(∀ b∈wz bs,p.offB b)->Kh bs ps K->K/\∀ b∈wz bs,∀ q∈p::ps,q.offB b:=λI J=>by
    obtain⟨O,U⟩:=Bp J;refine⟨O,λb hb q hq=>?_⟩;rcases oG.1 hq with rfl | hq
    ·exact I b hb
    ·exact U b hb q hq
   cases p<;>simp only[Kh]at h
   case sv=>exact step (Fs h.1) h.2
   case dg=>exact step (Fs h.1) h.2
   case dc=>exact step (Fs h.1) h.2
   all_goals exact step (λ_ _=>trivial) h
theorem Bq {bs:List (Option Addr)}:∀ {rows:List Bx}{K:Prop},NH bs rows K->K/\∀ b∈wz bs,∀ B∈rows,B.offB b
 | [],K,h=>⟨h,by simp⟩
 | B::rows,K,h=>by
   cases B<;>simp only[NH]at h
   obtain⟨I,J⟩:=Bq h.2;refine⟨I,λb hb B hB=>?_⟩;rcases oG.1 hB with rfl | hB
   ·have:=Fs h.1 b hb
    simpa [D.foot,Bx.offB]using this
   ·exact J b hb B hB
theorem Gs {bs:List (Option Addr)}{ps:List PV}{rows:List Bx}{K:Prop}(h:Nm bs ps rows K):K/\∀ b∈wz bs,(∀ p∈ps,p.offB b)/\∀ B∈rows,B.offB b:=by
 cases bs with
 | nil=>exact⟨h,by simp[wz]⟩
 | cons b bs=>simp only[Nm]at h;obtain⟨I,J⟩:=Bp h;obtain⟨O,U⟩:=Bq I;exact⟨O,λb hb=>⟨J b hb,U b hb⟩⟩
theorem xh {N:Nat}:∀ {ps:List PV}{K:Prop},(∀ p∈ps,match p with | .sv a z es c=>Bel N (.sl a z es c) | .dg _ x=>Bel N x | _=>True)->JK N ps K->K
 | [],K,_,h=>h
 | p::ps,K,hb,h=>by
   have J:=hb p (by simp);have I:=λq O=>hb q (mM _ O);cases p<;>simp only[JK]at h J
   case sv=>exact xh I (h J)
   case dg=>exact xh I (h J)
   all_goals exact xh I h
theorem um {N:Nat}:∀ {rows:List Bx}{K:Prop},(∀ t z es c,Bx.arr t z es c∈rows->Bel N (.ag es))->MA N rows K->K
 | [],K,_,h=>h
 | B::rows,K,hb,h=>by
   have I:=λt z es c J=>hb t z es c (mM _ J);cases B<;>simp only[MA]at h
   case arr t z es c=>exact um I (h (hb t z es c (by simp)))
   all_goals exact um I h
theorem D1 {f:FuncId}(h:yj P f=true)(args:Array Value)(w:World):(callFunc f args).run P w=.ok (.enter f args) w:=by
 unfold yj at h;cases I:P.funcs[f]? with
 | none=>simp[I]at h
 | some fn=>
   simp only[I,oL,bne_iff_ne,ne_eq]at h;obtain⟨J,O⟩:=h;cases hb:fn.body with
   | none=>simp[hb]at O
   | some c=>simp[callFunc,I,J,hb]
theorem PV.shift_val1 {d:Nat}{e e':Env}(I:∀ k,Env.at (e++e') (d+k)=e'.at k){p:PV}(J:p.plainR=true):(p.shift d).val1 (e++e')=p.val1 e':=by cases p<;>simp[PV.plainR]at J<;>simp[PV.shift,PV.val1,PV.cv,I]
theorem PV.shift_cv {d:Nat}{e e':Env}(I:∀ k,Env.at (e++e') (d+k)=e'.at k){p:PV}(J:p.plainR=true):(p.shift d).cv (e++e')=p.cv e':=by cases p<;>simp[PV.plainR]at J<;>simp[PV.shift,PV.cv,I]
theorem G0 {d:Nat}{e e':Env}(I:∀ k,Env.at (e++e') (d+k)=e'.at k){ps:List PV}(J:∀ p∈ps,p.plainR=true){pk:Bool}:(BM pk (ps.map (PV.shift d))).val (e++e')=Gz pk e' ps:=by
 cases pk with
 | true=>simp only[BM,Gz,PV.val,PV.val1,PV.cvs_eq,nq];congr 2;exact ou λp h=>PV.shift_cv I (J p h)
 | false=>
 have key:∀ p∈ps,(p.shift d).val1 (e++e')=p.val1 e':=λp h=>PV.shift_val1 I (J p h);have one:∀ p,p∈ps->(p.shift d).val (e++e')=p.val1 e':=λp h=>by
  rw[<-key p h]
  have:=J p h
  cases p<;>simp[PV.plainR]at this<;>rfl
 rcases ps with _ | ⟨p,_ | ⟨q,ps⟩⟩
 ·rfl
 ·exact one p (by simp)
 ·simp only[o7,BM,ED,PV.val,Gz,Ic];rw[key p (by simp),key q (by simp),nq];congr 4;exact ou λr O=>key r (by simp[O])
theorem B3 {d:Nat}{p:PV}(I:p.plainR=true):∀ k∈(p.shift d).refs,∃ j∈p.refs,k=d+j:=by cases p<;>simp[PV.plainR]at I<;>simp[PV.shift,PV.refs]
theorem EE {pk:Bool}{ps:List PV}:∀ k∈(BM pk ps).refs,∃ p∈ps,k∈p.refs:=by
 intro k I;cases pk with
 | true=>simp only[BM,PV.refs]at I;exact PV.refsL_mem.1 I
 | false=>
 rcases ps with _ | ⟨p,_ | ⟨q,ps⟩⟩
 ·simp[BM,ED,PV.refs,PV.refsL]at I
 ·exact⟨p,by simp,I⟩
 ·simp only[BM,ED,PV.refs]at I;exact PV.refsL_mem.1 I
theorem Iw {live:Nat->Prop}{pk:Bool}{ps:List PV}(h:∀ p∈ps,p.Ok w live)(hc:pk=true->∀ p∈ps,p.isC):(BM pk ps).Ok w live:=by
 cases pk with
 | true=>simp only[BM,PV.Ok];exact⟨PV.OkL_iff.2 h,hc rfl⟩
 | false=>
 rcases ps with _ | ⟨p,_ | ⟨q,ps⟩⟩
 ·simp[BM,ED,PV.Ok,PV.OkL]
 ·exact h p (by simp)
 ·simp only[BM,ED,PV.Ok];exact PV.OkL_iff.2 h
theorem D4 {d:Nat}{p:PV}(h:p.isC):(p.shift d).isC:=by cases p<;>exact h
theorem QT.app_pk {l:List Sh}{Q:QT l}{b:Nat}{ps:List PV}{rows:List Bx}{N:Nat}(I:qr l=true)(h:QT.app l Q b ps rows N):∀ p∈ps,p.isC:=by
 cases l with
 | nil=>simp[qr]at I
 | cons s l=>cases s<;>simp[qr]at I;exact QT.app_cells l Q b ps rows N h.1 h.2
theorem HN {N:Nat}{bs:List (Option Addr)}{K:Prop}(h:NV N bs K)(hb:GO N bs):K:=by
 unfold NV at h;split at h
 ·exact h
 ·exact h hb
def BkR (as J:List PV)(p q:PV):Prop:=q=p\/∃(j:Nat) (a:Option Addr) (z:Nat) (es:List D) (c k z' lo n I:Nat),p=PV.dc (.sl a z es c)/\as[j]?=some (PV.sv a z es c)/\J[j]?=some (PV.sb k z' lo n I)/\q=PV.sb k z' lo n I
theorem ph {as J:List PV}:∀(l:List Sh)(ps:List PV)(K:List PV->Prop),bkP as J l ps K->∃ qs:List PV,K qs/\qs.length=ps.length/\∀(i:Nat)(q:PV),qs[i]?=some q->∃ p:PV,ps[i]?=some p/\BkR as J p q
 | [],ps,K,h=>⟨ps,h,rfl,λi q Y=>⟨q,Y,.inl rfl⟩⟩
 | s :: l,ps,K,h=>by
   have I:∀(p q:PV) (ps:List PV),BkR as J p q->bkP as J l ps (λqs=>K (q::qs)) ->
     ∃ qs:List PV,K qs/\qs.length=(p::ps).length/\∀(i:Nat) (q:PV),qs[i]?=some q->∃ V:PV,(p::ps)[i]?=some V/\BkR as J V q:=λp q ps O hb=>by
    obtain⟨qs,Z,g2,g3⟩:=ph l ps _ hb;refine⟨q::qs,Z,by simp[g2],λi r U=>?_⟩;cases i with
    | zero=>simp at U;subst U;exact⟨p,rfl,O⟩
    | succ i=>exact g3 i r (by simpa using U)
   have nil:K []->∃ qs:List PV,K qs/\qs.length=([]:List PV).length/\∀(i:Nat) (q:PV),qs[i]?=some q->∃ p:PV,([]:List PV)[i]?=some p/\BkR as J p q:=λh=>⟨[],h,rfl,by simp⟩
   cases s with
   | pk=>exact ph l ps K h
   | bk j=>
     cases ps with
     | nil=>exact nil h
     | cons p ps=>
       simp only[bkP]at h;split at h
       ·rename_i x a z es c k z' lo n c' h1 h2;exact I _ _ ps (.inr ⟨j,a,z,es,c,k,z',lo,n,c',by rw[h.1],h1,h2,rfl⟩) h.2
       ·exact I _ _ ps (.inl rfl) h
   | _=>
     cases ps with
     | nil=>exact nil h
     | cons p ps=>exact I p p ps (.inl rfl) h
theorem KK {E:Env}{pk:Bool}{ps qs:List PV}(hl:qs.length=ps.length)(h:∀(i:Nat)(q p:PV),qs[i]?=some q->ps[i]?=some p->q.cv E=p.cv E/\q.val1 E=p.val1 E/\q.val E=p.val E):(BM pk qs).val E=(BM pk ps).val E:=by
 have O:∀(F:PV->Value),(∀(i:Nat) (q p:PV),qs[i]?=some q->ps[i]?=some p->F q=F p)->qs.map F=ps.map F:=λF U=>by
  apply nD;intro i;rw[oE,oE];by_cases hi:i<ps.length
  ·rw[oF hi,oF (by omega:i<qs.length)];simp only[oR,oZ];exact U i _ _ (oF _) (oF _)
  ·rw[ob (by omega),ob (by omega)]
 cases pk with
 | true=>simp only[BM,PV.val,PV.val1,PV.cvs_eq];rw[O _ λi q p I J=>(h i q p I J).1]
 | false=>
   have V:=O _ λi q p I J=>(h i q p I J).2.1;rcases ps with _ | ⟨p,_ | ⟨Y,ps⟩⟩<;>rcases qs with _ | ⟨q,_ | ⟨Z,qs⟩⟩<;>simp at hl
   ·rfl
   ·exact(h 0 q p rfl rfl).2.2
   ·simp only[BM,ED,PV.val];rw[V]
theorem Eh (h:Rel av w0 e0 pS pB a w e st) (ao:∀ k∈pB,k<st.bx.length) {sh:FuncId->List Sh} {o:Oper} {c:Call} {x:Operand} {args:List PV} {K:St->Prop} (ho:o.op=.call c) (hc:c.callee=.value x)
  (hx:∀ t,x=.tmp t->t∉pS) (ha:args.length=c.args.size) (bv:∀(i:Nat) (p:PV) (y:Operand),args[i]?=some p->c.args[i]?=some y->ValOk av w e pB st.bx (a.eval y) p)
  (bw:∀ i,i∈pS->some i≠o.dst->i∈pS') (hs:LB P sh st o.dst x args K) {next:Act->World->Prop} {Q:Exit->Act->World->Prop}
  (hn:∀ v w' e' st',K st'->(∃ rows p N,st'=St.put { st with bx:=st.bx++rows,N:=N } o.dst p)->Rel av w0 e0 pS' pB (a.put o.dst v) w' e' st'->next (a.put o.dst v) w'):o.wp P a w next Q:=by
 have ox:=xU h hx;unfold LB at hs;split at hs
 rotate_left
 ·exact hs.elim
 rename_i f caps hf;split at hs
 rotate_left
 ·exact hs.elim
 rename_i U;rw[oW]at U;have ox:=rz ox.valOk hf;have bz:=ox.1.resolve_left (by simp);have b3:a.eval x=.func (.func f) #[] (PV.cvs e caps).toArray:=bz;have ai:PV.OkL w (zM av pB e st.bx) caps:=by have:=ox.2.1;simpa only[PV.Ok]using this
 rw[PV.OkL_iff]at ai;have ax:∀ p∈caps,∀ k∈p.refs,k∉pB/\k<st.bx.length:=λp O k hk=>ox.2.2 k (by simp only[PV.refs];exact PV.refsL_mem.2 ⟨p,O,hk⟩);have aa:∀(i:Nat) (p:PV) (v:Value),(args++caps)[i]?=some p->(c.args.toList.map a.eval++caps.map (PV.cv e))[i]?=some v->ValOk av w e pB st.bx v p:=by
  intro i p v h1 h2;by_cases hi:i<args.length
  ·rw[oK hi]at h1;have ay:i<c.args.toList.length:=by simp;omega
   rw[oK (by simpa using ay),oE,oF ay]at h2;simp at h2;subst h2;exact bv i p _ h1 (by rw[oe (by omega)])
  ·rw[oS (by omega)]at h1;rw[oS (by simp;omega),oE]at h2;have az:i - (c.args.toList.map a.eval).length=i - args.length:=by simp;omega
   rw[az,h1]at h2;simp at h2;subst h2;have hm:=oB h1;exact⟨.inr (sc (U p hm)).symm,ai p hm,ax p hm⟩
 have a1:(args++caps).length=(c.args.toList.map a.eval++caps.map (PV.cv e)).length:=by simp;omega
 have ac:∀ p∈args++caps,∃ v,ValOk av w e pB st.bx v p:=λp O=>by obtain⟨i,hi⟩:=oQ.1 O;have ab:=(oC.1 hi).1;exact⟨_,aa i p _ hi (oF (by rw[<-a1];exact ab))⟩
 have a6:=ac;obtain⟨as,bs,hK,a7,hq,Y⟩:=tf h.toMem ac (args++caps) (c.args.toList.map a.eval++caps.map (PV.cv e)) _ (by simp;omega) aa hs;obtain⟨b7,hA⟩:=HN (hK w.heap.size h.hN) λb hb ad b8=>by obtain⟨k,hk⟩:=Y ad.block (by simp only[wz,nN];exact⟨b,hb,by simp[b8]⟩);exact Lives.lt h.toMem hk
 have ab:∀ b,zM av pB e st.bx b->b<w.heap.size:=λb hb=>hb.elim (λhb=>by have:=h.avl.lt b hb;have:=h.size;omega) λ⟨k,hk⟩=>Lives.lt h.toMem hk;have hC:=hA (λb=>zM av pB e st.bx b/\b∉wz bs) w rfl ⟨λb hb=>ab b hb.1,h.glob,λb hb=>⟨.inl (h.avl.ga b hb),λhc=>by obtain⟨k,hk⟩:=Y b hc;exact h.avn k b hk (h.avl.ga b hb)⟩,λb hb=>by simp,λx hx=>by simp⟩ λp O=>by obtain⟨i,hi⟩:=oQ.1 O;obtain⟨p',_,ho⟩:=hq i p hi;exact⟨ho.2.1 _ λb hb=>hb,ho.2.2.1⟩
 have a8:(execOp a.eval o).run P w=.ok (.enter f (as.map (PV.val [])).toArray) w:=by
  have e1:(as.map (PV.val [])).toArray=c.args.map a.eval++(PV.cvs e caps).toArray:=by rw[a7,PV.cvs_eq];apply nJ.1;simp
  rw[e1];obtain⟨dst,op,ty,pos,after,guard⟩:=o;simp only at ho;subst ho;simp only[execOp,resolve,hc,Deferred.ofValue,b3,invoke];simp[D1 b7]
 unfold Oper.wp;rw[a8,Oper.upon_enter];refine hC.mono λen w' aq=>?_;cases en with
 | panicked=>exact aq.elim
 | outgrown=>exact aq.elim
 | returned v=>
   obtain⟨ps,rows,e',hd⟩:=aq;have ba:=QT.app_lam (sh f) st.bx.length 0 _ ps rows _ hd.q;have I:=QT.app_plain _ _ _ _ _ _ hd.q;obtain⟨bb,bc⟩:=QT.app_rows _ _ _ _ _ _ hd.q;obtain⟨qs,b9,ca,bg⟩:=ph _ _ _ (ba hd.size);obtain⟨hB,aj⟩:=Gs b9;have cn:∀(P:PV->Prop),(∀ p∈ps,P (p.shift st.bx.length))->∀ q∈ps.map (PV.shift st.bx.length),P q:=λP hP q hq=>by obtain⟨p,O,rfl⟩:=oU.1 hq;exact hP p O
   have ae:∀ q∈qs,(∃ p∈ps,q=p.shift st.bx.length)\/∃ k z' lo n c',q=.sb k z' lo n c'/\k∉pB/\k<st.bx.length:=λq hq=>by
    obtain⟨i,hi⟩:=oQ.1 hq;obtain⟨p',cd,h2⟩:=bg i q hi;rcases h2 with rfl | ⟨j,a,z,es,c,k,z',lo,n,c',_,_,ac,rfl⟩
    ·obtain⟨p,O,rfl⟩:=oU.1 (oB cd);exact .inl ⟨p,O,rfl⟩
    ·obtain⟨v,hv⟩:=a6 _ (oB ac);exact .inr ⟨k,z',lo,n,c',rfl,hv.2.2 k (by simp[PV.refs])⟩
   have Y:=xh (N:=w'.heap.size) (λq hq=>by
    rcases ae q hq with⟨p,O,rfl⟩ | ⟨k,z',lo,n,c',rfl,_⟩
    ·have ao:=I p O;have J:=hd.ok p O;cases p<;>simp only[PV.shift]<;>simp only[PV.Ok]at J
     ·exact J.1.lt
     ·exact J.1.1.lt
    ·trivial) hB
   have au:=um (N:=w'.heap.size) (λt z es cc hm b hb=>by
    obtain⟨i,hi⟩:=oQ.1 hm
    have:=hd.m.bo i _ hi (by simp)
    simp only[D.foot]at hb;obtain⟨y,hy,ce⟩:=zL.1 hb;exact(this y hy).1.lt b ce) Y
   have bh:∀ b,zM av pB e st.bx b->(zM av pB e st.bx b/\b∉wz bs)\/b∈wz bs:=λb hb=>by
    by_cases bi:b∈wz bs
    ·exact .inr bi
    ·exact .inl ⟨hb,bi⟩
   obtain⟨hR,V⟩:=Lr h ao bh hd.size hd.old hd.m bb hd.fresh (λb hb=>(aj b hb).2) hd.fz hd.ku;have bj:∀ k,Env.at (e++e') (st.bx.length+k)=e'.at k:=λk=>by rw[Env.at_app,if_neg (by rw[h.el];omega)];congr 1;rw[h.el];omega
   refine hn v w' (e++e') _ au ⟨rows,_,_,rfl⟩ (yQ hR ⟨.inr ?_,?_,?_⟩ bw)
   ·rw[hd.v,<-G0 bj I];refine(KK ca λi q p' cf cg=>?_).symm;obtain⟨co,ak,h2⟩:=bg i q cf;rw[cg]at ak;cases ak;rcases h2 with rfl | ⟨j,a0,z,es,c0,k,z',lo,n,c',rfl,bm,al,rfl⟩
    ·exact⟨rfl,rfl,rfl⟩
    ·have ah:∃ vj,(c.args.toList.map a.eval++caps.map (PV.cv e))[j]?=some vj:=⟨_,oF (by rw[<-a1];exact(oC.1 al).1)⟩
     obtain⟨vj,ah⟩:=ah;have bp:=aa j _ _ al ah;have ch:vj=(PV.sv a0 z es c0).val []:=by have h5:=oT (λl=>l[j]?) a7;simp only[oE,bm,oR]at h5;rw[ah]at h5;exact(o9 h5).symm
     have ab:=(bp.2.2 k (by simp[PV.refs])).2;have bq:Env.at (e++e') k=e.at k:=by rw[Env.at_app,if_pos (by rw[h.el];exact ab)]
     have cj:=bp.1.resolve_left (by simp);have e2:(PV.sb k z' lo n c').cv (e++e')=(PV.sb k z' lo n c').cv e:=by simp only[PV.cv,bq]
     have e3:(PV.sb k z' lo n c').cv e=(D.sl a0 z es c0).cv:=by
      have h6:(PV.sb k z' lo n c').val e=(PV.sv a0 z es c0).val []:=by rw[<-cj,ch]
      exact h6
     exact⟨e2.trans e3,e2.trans e3,e2.trans e3⟩
   ·refine Iw (λq hq=>?_) (λck q hq=>?_)
    ·rcases ae q hq with⟨p,O,rfl⟩ | ⟨k,z',lo,n,c',rfl,_⟩
     ·have bt:=I p O;have J:=hd.ok p O;have Z:∀ b∈wz bs,(p.shift st.bx.length).offB b:=λb hb=>(aj b hb).1 _ hq;cases p<;>simp[PV.plainR]at bt<;>simp only[PV.shift,PV.Ok,PV.offB]at J Z ⊢
      ·exact V _ J Z
      ·exact⟨V _ J.1 Z,J.2⟩
      ·exact⟨V _ J.1 Z,J.2⟩
     ·trivial
    ·rcases ae q hq with⟨p,O,rfl⟩ | ⟨k,z',lo,n,c',rfl,_⟩
     ·exact D4 (QT.app_pk ck hd.q p O)
     ·trivial
   ·intro k hk;obtain⟨q,cm,aw⟩:=EE k hk;rcases ae q cm with⟨p,O,rfl⟩ | ⟨k',z',lo,n,c',rfl,h1,h2⟩
    ·obtain⟨j,hj,rfl⟩:=B3 (I p O) k aw;have cp:=(bc p O).2.2 j hj;refine⟨λhc=>by have:=ao _ hc;omega,by simp;omega⟩
    ·simp[PV.refs]at aw;subst aw;exact⟨h1,by simp;omega⟩
variable {av:Nat->Prop} {P:Program} {w0 w w':World} {e0 e:Env} {pS pS' pB pB':List Nat} {a:Act} {st st':St}
def rq:PV->Option Sh
 | .int k _=>some (.int k)
 | .bool _=>some .bool
 | .str _=>some .str
 | .sv _ z _ _=>some (.sl z)
 | _=>none
def L5:List PV->List Sh
 | []=>[]
 | p::ps=>match rq p with
   | some s=>s::L5 ps
   | none=>L5 ps
def I0:List PV->List PV
 | []=>[]
 | p::ps=>match rq p with
   | some _=>p::I0 ps
   | none=>I0 ps
def L4:Bx->List Sh
 | .var cs=>L5 cs
 | .vd _ n=>[.ag n]
 | .arr _ z _ _=>[.sl z]
 | .gone=>[]
def HB:Bx->List PV
 | .var cs=>I0 cs
 | .vd x n=>[.dg n x]
 | .arr _ z es c=>[.sv none z es c]
 | .gone=>[]
def G7 (bx:List Bx):List Sh:=bx.flatMap L4
def A5 (bx:List Bx):List PV:=bx.flatMap HB
def FQ:List PV->List PV->List PV × List PV
 | [],es=>([],es)
 | p :: ps,es=>match rq p with
   | some _=>match es with
     | q::es=>(q::(FQ ps es).1,(FQ ps es).2)
     | []=>([],[])
   | none=>(p::(FQ ps es).1,(FQ ps es).2)
def GJ:Bx->List PV->Bx × List PV
 | .var cs,es=>(.var (FQ cs es).1,(FQ cs es).2)
 | .vd y n,es=>match es with
   | .dg _ x::es=>(.vd x n,es)
   | _=>(.vd y n,[])
 | .arr t z y n,es=>match es with
   | .sv _ _ ds c::es=>(.arr t z ds c,es)
   | _=>(.arr t z y n,[])
 | .gone,es=>(.gone,es)
def G3:List Bx->List PV->List Bx
 | [],_=>[]
 | B::bs,es=>(GJ B es).1::G3 bs (GJ B es).2
def Mb (bs:List Bx):PV->PV
 | .sb k z lo n c=>match bs[k]? with
   | some (.arr _ _ es I)=>.sb k z lo es.length I
   | _=>.any
 | p=>p
def Ma (bs:List Bx):Bx->Bx
 | .var cs=>.var (cs.map (Mb bs))
 | B=>B
def DL (bx:List Bx)(es:List PV):List Bx:=(G3 bx es).map (Ma (G3 bx es))
def L9 (N:Nat)(p:PV):Prop:=match p with | .sv a z es c=>Bel N (.sl a z es c) | .dg _ x=>Bel N x | _=>True
theorem HO {live:Nat->Prop}{p:PV}(h:p.Ok w live):L9 w.heap.size p:=by
 cases p<;>simp only[PV.Ok]at h<;>simp only[L9]
 ·exact h.1.lt
 ·exact h.1.1.lt
theorem DH:∀ {cs:List PV}{p:PV},p∈I0 cs->p∈cs
 | q::cs,p,h=>by
   simp only[I0]at h;split at h
   ·rcases oG.1 h with rfl | h
    ·simp
    ·simp[DH h]
   ·simp[DH h]
theorem KQ {live:Nat->Prop}{B:Bx}(h:B.Ok w live):∀ p∈HB B,L9 w.heap.size p:=by
 intro p I;cases B with
 | var cs=>simp only[HB]at I;exact HO (PV.OkL_iff.1 h.1 p (DH I))
 | vd x n=>simp[HB]at I;subst I;exact Good.lt h
 | arr t z es c=>simp[HB]at I;subst I;intro b hb;simp only[D.foot]at hb;obtain⟨y,O,J⟩:=zL.1 hb;exact(h y O).1.lt b J
 | gone=>simp[HB]at I
theorem GM {pB:List Nat}{bx:List Bx}(h:Mem av pB w e bx)(J:pB=[]){bs:List Bx}(hs:∀ B∈bs,B∈bx):∀ p∈A5 bs,L9 w.heap.size p:=by intro p I;simp only[A5,ni]at I;obtain⟨B,O,I⟩:=I;obtain⟨k,U⟩:=oQ.1 (hs B O);exact KQ (h.bo k B U (by simp[J])) p I
def Id (full:List Sh)(U:List Bx)(e:Env)(ps:List PV):Value:=match full with
 | .bk j::_=>match U[j]? with
   | some (.arr _ z es c)=>(PV.sb j z 0 es.length c).cv e
   | _=>undef
 | _=>Gz (qr full) e ps
theorem Ab {full:List Sh}{U:List Bx}{e:Env}{ps:List PV}(h:∀ j l,full≠.bk j::l):Id full U e ps=Gz (qr full) e ps:=by
 unfold Id;split
 ·exact absurd rfl (h _ _)
 ·rfl
structure DoneB (full:List Sh) (Q:QT full) (av:Nat->Prop) (w0:World) (E:Env) (bx:List Bx) (v:Value) (w:World) (ps es:List PV) (rows:List Bx) (e:Env):Prop where
 q:QT.app full Q bx.length (ps++es) rows w.heap.size
 v:v=Id full (DL bx es) e ps
 m:Mem av [] w e (DL bx es++rows)
 ok:∀ p∈ps,p.Ok w (zM av [] e (DL bx es++rows))
 fix:∀(k:Nat) (B:Bx),bx[k]?=some B->B.isArr=false->e.at k=some ((E.at k).getD 0)
 fresh:∀(k b:Nat),e.at k=some b->w0.heap.size<=b\/(k<bx.length/\some b∈E)
 size:w0.heap.size<=w.heap.size
 old:∀ b,b<w0.heap.size->some b∉E->w.heap[b]?=w0.heap[b]?
 fz:∀(b:Nat) (c:Array Value) (t:TypeId) (z:Nat × Nat),(w0.heap.size<=b\/some b∈E)->w.heap[b]?=some (.cells c t z)->Fz z
 ku:KU w0 w
 ns:∀ p∈es,p.refs=[]
 be:∀ p∈es,L9 w.heap.size p
def MI (full:List Sh)(Q:QT full)(I:Nat)(av:Nat->Prop)(w0:World)(E:Env)(bx:List Bx):Ending->World->Prop
 | .returned v,w=>∃ ps es rows e,ps.length=I/\DoneB full Q av w0 E bx v w ps es rows e
 | _,_=>False
def Oa (P:Program)(f:FuncId):Nat:=match P.funcs[f]? with
 | some fn=>fn.resultTypes.size
 | none=>0
def AQ (P:Program)(f:FuncId)(full:List Sh)(bx:List Bx):Nat:=match qr full with
 | true=>full.length - 1 - (G7 bx).length
 | false=>Oa P f
def MQ:PV->PV
 | .int k _=>.int k 0
 | .bool _=>.bool false
 | .str _=>.str ⟨#[]⟩
 | .sv _ z _ _=>.sv none z [] 0
 | .sb k z lo _ _=>.sb k z lo 0 0
 | p=>p
def yC:Bx->Bx
 | .var cs=>.var (cs.map MQ)
 | .vd _ n=>.vd default n
 | .arr t z _ _=>.arr t z [] 0
 | .gone=>.gone
structure BCalls (P:Program) (f:FuncId) (full:List Sh) (args:List PV) (bx:List Bx) (N:Nat) (Q:QT full):Prop where
 c:yj P f=true
 h : ∀(av:Nat->Prop) (w0:World) (E:Env),w0.heap.size=N->Avl av w0 E->Mem av [] w0 E bx->(∀ k b,Lives [] E bx k b->¬av b) ->
   (∀ p∈args,p.Ok w0 (zM av [] E bx)/\∀ k∈p.refs,k<bx.length)->Calls P f (args.map (PV.val E)).toArray w0 (MI full Q (AQ P f full (bx.map yC)) av w0 E (bx.map yC))
structure BPick (e ne:Env) (m:Nat) (B B':Bx):Prop where
 h : B'=.gone\/(B'=B/\∀ cs,B≠.var cs)\/∃ cs cs',B=.var cs/\B'=.var cs'/\cs'.length=cs.length/\∀(i:Nat) (q:PV),cs'[i]?=some q->q=.any \/
   ∃ p,cs[i]?=some p/\(p=.any->q=.any)/\p.cv e=q.cv ne/\(∀ w live,p.Ok w live->q.Ok w live)/\(p.isC->q.isC)/\∀ r∈q.refs,r<m
theorem Fp {us:List (Option Nat)} {nb:List Bx} {av':Nat->Prop} {bx:List Bx} (h:Mem av pB w e bx) (ai:∀ b,av' b->zM av pB e bx b) (hl:nb.length=us.length)
  (aj:∀(i j k:Nat),us[i]?=some (some k)->us[j]?=some (some k)->i=j)
  (hB:∀(j:Nat) (B':Bx),nb[j]?=some B'->(us[j]?=some none/\∃ t z,B'=.arr t z [] 0)\/∃ k B,us[j]?=some (some k)/\k∉pB/\bx[k]?=some B/\BPick e (us.map (·.bind e.at)) us.length B B') :
  Mem av' [] w (us.map (·.bind e.at)) nb/\(∀ b,zM av' [] (us.map (·.bind e.at)) nb b->zM av pB e bx b)/\∀ j b,Lives [] (us.map (·.bind e.at)) nb j b->∃ k,us[j]?=some (some k)/\Lives pB e bx k b:=by
 have ab:∀(j:Nat) (u:Option Nat),us[j]?=some u->Env.at (us.map (·.bind e.at)) j=u.bind e.at:=λj u Y=>by simp[Env.at,oA,Y]
 have J:∀ j b,Lives [] (us.map (·.bind e.at)) nb j b->∃ k,us[j]?=some (some k)/\Lives pB e bx k b:=λj b ⟨_,h2,B',h3,h4⟩=>by
  rcases hB j B' h3 with⟨V,_⟩ | ⟨k,B,V,h6,h7,h8⟩
  ·rw[ab j _ V]at h2;cases h2
  ·rw[ab j _ V]at h2;refine⟨k,V,h6,h2,B,h7,λhg=>h4 ?_⟩;subst hg;rcases h8.h with Z | ⟨Z,_⟩ | ⟨cs,_,Z,_⟩
   ·exact Z
   ·exact Z
   ·cases Z
 have aa:∀ b,zM av' [] (us.map (·.bind e.at)) nb b->zM av pB e bx b:=λb hb=>hb.elim (ai b) λ⟨j,Y⟩=>by obtain⟨k,_,h2⟩:=J j b Y;exact .inr ⟨k,h2⟩
 refine⟨{
  el:=by simp[hl]
  br:=λj B' Y _=>?_
  bo:=λj B' Y _=>?_
  bf:=λj B' Y _ i hi=>?_
  inj:=λi j b hi Y=>?_ },aa,J⟩
 ·rcases hB j B' Y with⟨V,t,z,rfl⟩ | ⟨k,B,V,h6,h7,h8⟩
  ·rw[ab j _ V];exact .inl ⟨rfl,rfl,rfl⟩
  ·rw[ab j _ V];have Z:=h.br k B h7 h6;rcases h8.h with O | ⟨rfl,O⟩ | ⟨cs,cs',rfl,rfl,ac,U⟩
   ·subst O;exact True.intro
   ·refine Z.congr (λ_ _=>rfl) λi hi=>?_;cases B' with
    | var cs=>exact absurd rfl (O cs)
    | _=>simp[Bx.refs]at hi
   ·obtain⟨b,c,t,g1,g2,g3,g4⟩:=Z;refine⟨b,c,t,g1,g2,g3.trans ac.symm,λi q hq=>?_⟩;rcases U i q hq with I | ⟨p,hp,I,ae,_⟩
    ·exact .inl I
    ·rcases g4 i p hp with h15 | h15
     ·exact .inl (I h15)
     ·exact .inr (by rw[<-ae];exact h15)
 ·rcases hB j B' Y with⟨V,t,z,rfl⟩ | ⟨k,B,V,h6,h7,h8⟩
  ·intro x hx;simp at hx
  ·have Z:=(h.bo k B h7 h6).mono (w':=w) (live':=zM av' [] (us.map (·.bind e.at)) nb) (λ_ _ _=>rfl) (oJ _) λb _=>aa b;rcases h8.h with O | ⟨rfl,_⟩ | ⟨cs,cs',rfl,rfl,ac,U⟩
   ·subst O;exact True.intro
   ·exact Z
   ·obtain⟨g1,g2⟩:=Z;rw[PV.OkL_iff]at g1;refine⟨PV.OkL_iff.2 λq hq=>?_,λq hq=>?_⟩
    ·obtain⟨i,hi⟩:=oQ.1 hq;rcases U i q hi with I | ⟨p,hp,_,_,I,_⟩
     ·subst I;trivial
     ·exact I _ _ (g1 p (oB hp))
    ·obtain⟨i,hi⟩:=oQ.1 hq;rcases U i q hi with I | ⟨p,hp,ae,_,_,I,_⟩
     ·exact .inl I
     ·rcases g2 p (oB hp)with h15 | h15
      ·exact .inl (ae h15)
      ·exact .inr (I h15)
 ·refine⟨by simp,?_⟩;rw[hl];rcases hB j B' Y with⟨V,t,z,rfl⟩ | ⟨k,B,V,h6,h7,h8⟩
  ·simp[Bx.refs]at hi
  ·rcases h8.h with O | ⟨rfl,O⟩ | ⟨cs,cs',rfl,rfl,ac,U⟩
   ·subst O;simp[Bx.refs]at hi
   ·cases B' with
    | var cs=>exact absurd rfl (O cs)
    | _=>simp[Bx.refs]at hi
   ·simp only[Bx.refs]at hi;obtain⟨q,hq,ah⟩:=PV.refsL_mem.1 hi;obtain⟨n,hn⟩:=oQ.1 hq;rcases U n q hn with I | ⟨p,hp,_,_,_,_,I⟩
    ·subst I;simp[PV.refs]at ah
    ·simpa using I i ah
 ·obtain⟨k,h1,h2⟩:=J i b hi;obtain⟨l,h3,h4⟩:=J j b Y;have ak:=h.inj k l b h2 h4;subst ak;exact aj i j k h1 h3
mutual
def PV.mapR (g:Nat->Nat):PV->PV
 | .pb k z i o=>.pb (g k) z i o
 | .sb k z lo n c=>.sb (g k) z lo n c
 | .fn f caps=>.fn f (PV.mapRL g caps)
 | .pg cs=>.pg (PV.mapRL g cs)
 | .tp cs=>.tp (PV.mapRL g cs)
 | p=>p
def PV.mapRL (g:Nat->Nat):List PV->List PV
 | []=>[]
 | p::ps=>PV.mapR g p::PV.mapRL g ps
end
mutual
theorem PV.mapR_refs (g:Nat->Nat):∀ p:PV,(p.mapR g).refs=p.refs.map g
 | .pb ..=>rfl
 | .sb ..=>rfl
 | .fn f caps=>by simp only[PV.mapR,PV.refs];exact PV.mapRL_refs g caps
 | .pg cs=>by simp only[PV.mapR,PV.refs];exact PV.mapRL_refs g cs
 | .tp cs=>by simp only[PV.mapR,PV.refs];exact PV.mapRL_refs g cs
 | .any=>rfl
 | .int ..=>rfl
 | .bool ..=>rfl
 | .str ..=>rfl
 | .lit ..=>rfl
 | .sv ..=>rfl
 | .d ..=>rfl
 | .dc ..=>rfl
 | .dg ..=>rfl
 | .pd ..=>rfl
theorem PV.mapRL_refs (g:Nat->Nat):∀ ps:List PV,PV.refsL (PV.mapRL g ps)=(PV.refsL ps).map g
 | []=>rfl
 | p::ps=>by simp only[PV.mapRL,PV.refsL,PV.mapR_refs g p,PV.mapRL_refs g ps,mL]
end
mutual
theorem PV.mapR_cv {g:Nat->Nat} {e e':Env}:∀ p:PV,(∀ k∈p.refs,e'.at (g k)=e.at k)->(p.mapR g).cv e'=p.cv e
 | .pb k z i o,h=>by simp only[PV.mapR,PV.cv,h k (by simp[PV.refs])]
 | .sb k z lo n c,h=>by simp only[PV.mapR,PV.cv,h k (by simp[PV.refs])]
 | .fn f caps,h=>by simp only[PV.mapR,PV.cv,PV.mapRL_cvs caps h]
 | .pg cs,h=>rfl
 | .tp cs,h=>rfl
 | .any,h=>rfl
 | .int ..,h=>rfl
 | .bool ..,h=>rfl
 | .str ..,h=>rfl
 | .lit ..,h=>rfl
 | .sv ..,h=>rfl
 | .d ..,h=>rfl
 | .dc ..,h=>rfl
 | .dg ..,h=>rfl
 | .pd ..,h=>rfl
theorem PV.mapRL_cvs {g:Nat->Nat} {e e':Env}:∀ ps:List PV,(∀ k∈PV.refsL ps,e'.at (g k)=e.at k)->PV.cvs e' (PV.mapRL g ps)=PV.cvs e ps
 | [],h=>rfl
 | p::ps,h=>by
   simp only[PV.mapRL,PV.cvs,PV.mapR_cv p λk I=>h k (by simp only[PV.refsL];exact nS _ I),PV.mapRL_cvs ps λk I=>h k (by simp only[PV.refsL];exact mJ _ I)]
end
theorem PV.mapR_isC {g:Nat->Nat}{p:PV}(h:p.isC):(p.mapR g).isC:=by cases p<;>exact h
theorem PV.mapRL_mem {g:Nat->Nat}{q:PV}:∀ {ps:List PV},q∈PV.mapRL g ps->∃ p∈ps,q=p.mapR g
 | p::ps,h=>by
   simp only[PV.mapRL]at h;rcases oG.1 h with h | h
   ·exact⟨p,by simp,h⟩
   ·obtain⟨r,I,J⟩:=PV.mapRL_mem h;exact⟨r,by simp[I],J⟩
mutual
theorem PV.mapR_ok {g:Nat->Nat} {w:World} {live:Nat->Prop}:∀ p:PV,p.Ok w live->(p.mapR g).Ok w live
 | .fn f caps,h=>by simp only[PV.mapR,PV.Ok]at h ⊢;exact PV.mapRL_ok caps h
 | .pg cs,h=>by
   simp only[PV.mapR,PV.Ok]at h ⊢
   exact⟨PV.mapRL_ok cs h.1,λq I=>by obtain⟨p,J,rfl⟩:=PV.mapRL_mem I;exact PV.mapR_isC (h.2 p J)⟩
 | .tp cs,h=>by simp only[PV.mapR,PV.Ok]at h ⊢;exact PV.mapRL_ok cs h
 | .pb ..,h=>trivial
 | .sb ..,h=>trivial
 | .any,h=>h
 | .int ..,h=>h
 | .bool ..,h=>h
 | .str ..,h=>h
 | .lit ..,h=>h
 | .sv ..,h=>h
 | .d ..,h=>h
 | .dc ..,h=>h
 | .dg ..,h=>h
 | .pd ..,h=>h
theorem PV.mapRL_ok {g:Nat->Nat} {w:World} {live:Nat->Prop}:∀ ps:List PV,PV.OkL w live ps->PV.OkL w live (PV.mapRL g ps)
 | [],h=>trivial
 | p::ps,h=>⟨PV.mapR_ok p h.1,PV.mapRL_ok ps h.2⟩
end
def Bx.mapR (g:Nat->Nat):Bx->Bx
 | .var cs=>.var (cs.map (PV.mapR g))
 | B=>B
theorem IG:∀ {ks:List Nat}{j k:Nat},ks.Nodup->ks[j]?=some k->pos ks k=some j
 | x::xs,0,k,_,h=>by simp at h;subst h;simp[pos]
 | x::xs,j+1,k,J,h=>by obtain⟨O,U⟩:=nk.1 J;simp only[nQ]at h;have I:¬x=k:=λhc=>O (hc ▸ oB h);simp[pos,I,IG U h]
theorem J3 {ks:List Nat}{k:Nat}(h:pos ks k=none):k∉ks:=by
 induction ks with
 | nil=>simp
 | cons x xs J=>
   simp only[pos]at h;split at h
   ·cases h
   ·rename_i I;split at h
    ·cases h
    ·rename_i O;simp at I;simp only[oG,not_or];exact⟨λhc=>I hc.symm,J O⟩
def bxN (ks:List Nat)(nb:List Bx):Nat->List Bx->List Bx
 | _,[]=>[]
 | i,B::bs=>(match pos ks i with
   | some j=>nb.getD j .gone
   | none=>B)::bxN ks nb (i+1) bs
theorem Ec {ks:List Nat}{nb:List Bx}:∀(bs:List Bx)(i k:Nat),(bxN ks nb i bs)[k]?=(bs[k]?).map λB=>match pos ks (i+k)with
  | some j=>nb.getD j .gone
  | none=>B
 | [],i,k=>rfl
 | B::bs,i,0=>by simp[bxN]
 | B::bs,i,k+1=>by simp only[bxN,nQ];rw[Ec bs (i+1) k,show i+1+k=i+(k+1) by omega]
theorem yE {ks:List Nat}{nb:List Bx}:∀(bs:List Bx)(i:Nat),(bxN ks nb i bs).length=bs.length
 | [],i=>rfl
 | B::bs,i=>by simp[bxN,yE bs]
def p8 (ks:List Nat)(e1 e:Env):Env:=(List.range e.length).map λk=>match pos ks k with
 | some j=>e1.at j
 | none=>e.at k
theorem Ho {ks:List Nat}{e1 e:Env}{k:Nat}(h:k<e.length):(p8 ks e1 e).at k=match pos ks k with
  | some j=>e1.at j
  | none=>e.at k:=by
 simp[p8,Env.at,oA,h]
structure Io (av:Nat->Prop) (pB:List Nat) (w w':World) (e:Env) (bx:List Bx) (ks:List Nat) (e1:Env) (nb rows:List Bx):Prop where
 nd:ks.Nodup
 kp:∀ k∈ks,k∉pB/\∃ B,bx[k]?=some B/\B≠.gone
 len:nb.length=ks.length
 el:ks.length<=e1.length
 m:Mem (fun b=>av b\/∃ k,k∉ks/\Lives pB e bx k b) [] w' e1 (nb++rows)
 arr:∀ B∈rows,B.row
 kind:∀(j k:Nat) (B B':Bx),ks[j]?=some k->bx[k]?=some B->nb[j]?=some B'->B'.isArr=B.isArr
 refs:∀ B∈nb,∀ j∈B.refs,j<ks.length
 fix:∀(j k:Nat) (B:Bx),ks[j]?=some k->bx[k]?=some B->B.isArr=false->e1.at j=e.at k
 fr:∀ j b,e1.at j=some b->w.heap.size<=b\/(j<ks.length/\∃ k∈ks,e.at k=some b)
 size:w.heap.size<=w'.heap.size
 hold:∀ b,b<w.heap.size->(∀ k∈ks,e.at k≠some b)->w'.heap[b]?=w.heap[b]?
 fz:∀(b:Nat) (c:Array Value) (t:TypeId) (z:Nat × Nat),(w.heap.size<=b\/∃ k∈ks,e.at k=some b)->w'.heap[b]?=some (.cells c t z)->Fz z
 ku:KU w w'
theorem Mw (h:Rel av w0 e0 pS pB a w e st) {ks:List Nat} {e1:Env} {nb rows:List Bx} (io:Io av pB w w' e st.bx ks e1 nb rows)
  (hS:∀(i:Nat) (p:PV),st.sl[i]?=some p->∀ k∈ks,(st.bx.getD k .gone).isArr=true->k∉p.refs)
  (b3:∀(j:Nat) (B:Bx),st.bx[j]?=some B->j∉ks->∀ k∈ks,(st.bx.getD k .gone).isArr=true->k∉B.refs)
  (bh:∀ k∈ks,(st.bx.getD k .gone).isArr=true->∀ b,st.pins[k]?≠some (some b))
  (bi:(∀ k∈ks,(st.bx.getD k .gone).isArr=true->st.pins.length<=k)\/∀ k∈ks,(st.bx.getD k .gone).isArr=true->k<st.pins.length) :
  Rel av w0 e0 pS pB a w' (p8 ks e1 e++e1.drop ks.length) { st with bx:=bxN ks (nb.map (Bx.mapR λj=>ks.getD j 0)) 0 st.bx++rows,N:=w'.heap.size } /\
  ∀ d:D,Good w' (zM (λb=>av b\/∃ k,k∉ks/\Lives pB e st.bx k b) [] e1 (nb++rows)) d->Good w' (zM av pB (p8 ks e1 e++e1.drop ks.length) (bxN ks (nb.map (Bx.mapR λj=>ks.getD j 0)) 0 st.bx++rows)) d:=by
 have az:(p8 ks e1 e).length=st.bx.length:=by simp[p8,h.el]
 have a7:∀ k,k<st.bx.length->Env.at (p8 ks e1 e++e1.drop ks.length) k=match pos ks k with
  | some j=>e1.at j
  | none=>e.at k:=λk J=>by rw[Env.at_app,if_pos (by rw[az];exact J),Ho (by rw[h.el];exact J)]
 have a8:∀ i,Env.at (p8 ks e1 e++e1.drop ks.length) (st.bx.length+i)=e1.at (ks.length+i):=λi=>by rw[Env.at_app,if_neg (by rw[az];omega),az];simp[Env.at,oA]
 have bj:∀ k∈ks,k<st.bx.length:=λk J=>by obtain⟨_,B,h1,_⟩:=io.kp k J;exact(oC.1 h1).1
 have bm:∀ j k,ks[j]?=some k->pos ks k=some j:=λj k V=>IG io.nd V;have ak:∀ j k,ks[j]?=some k->Env.at (p8 ks e1 e++e1.drop ks.length) k=e1.at j:=λj k V=>by rw[a7 k (bj k (oB V)),bm j k V]
 have aq:∀ k,k<st.bx.length->k∉ks->Env.at (p8 ks e1 e++e1.drop ks.length) k=e.at k:=λk J hn=>by
  rw[a7 k J];cases hp:pos ks k with
  | none=>rfl
  | some j=>exact absurd (oB (u5 hp)) hn
 have ae:∀ k b,k∈ks->e.at k=some b->Lives pB e st.bx k b:=λk b J hb=>by obtain⟨h1,B,h2,h3⟩:=io.kp k J;exact⟨h1,hb,B,h2,h3⟩
 have al:∀(k:Nat) (B':Bx),(bxN ks (nb.map (Bx.mapR λj=>ks.getD j 0)) 0 st.bx++rows)[k]?=some B' ->
   (k∉ks/\st.bx[k]?=some B')\/(∃(j:Nat) (B:Bx),ks[j]?=some k/\nb[j]?=some B/\B'=B.mapR λj=>ks.getD j 0)\/∃ i,k=st.bx.length+i/\rows[i]?=some B':=λk B' J=>by
  by_cases ah:k<st.bx.length
  ·rw[oK (by rw[yE];exact ah),Ec,oF ah]at J;simp only[oR,np,oZ]at J;cases hp:pos ks k with
   | none=>rw[hp]at J;exact .inl ⟨J3 hp,by rw[oF ah];exact oT some J⟩
   | some j=>
     rw[hp]at J;have V:=u5 hp;have a1:j<nb.length:=by rw[io.len];exact(oC.1 V).1
     refine .inr (.inl ⟨j,nb[j],V,oF a1,?_⟩);have b7:(nb.map (Bx.mapR λj=>ks.getD j 0)).getD j .gone=B':=J;rw[<-b7,oA,oE,oF a1];rfl
  ·rw[oS (by rw[yE];omega),yE]at J;exact .inr (.inr ⟨k - st.bx.length,by omega,J⟩)
 have b8:∀(B:Bx),Bx.mapR (λj=>ks.getD j 0) B≠Bx.gone->B≠Bx.gone:=λB hB hc=>hB (by rw[hc];rfl);have O:∀ k b,Lives pB (p8 ks e1 e++e1.drop ks.length) (bxN ks (nb.map (Bx.mapR λj=>ks.getD j 0)) 0 st.bx++rows) k b ->
   (k∉ks/\Lives pB e st.bx k b)\/(∃ j,ks[j]?=some k/\Lives [] e1 (nb++rows) j b)\/∃ i,k=st.bx.length+i/\Lives [] e1 (nb++rows) (ks.length+i) b:=λk b ⟨h1,h2,B',h3,h4⟩=>by
  rcases al k B' h3 with⟨U,I⟩ | ⟨j,B,U,I,g3⟩ | ⟨i,rfl,I⟩
  ·rw[aq k (oC.1 I).1 U]at h2;exact .inl ⟨U,h1,h2,B',I,h4⟩
  ·rw[ak j k U]at h2;have a1:j<nb.length:=(oC.1 I).1;exact .inr (.inl ⟨j,U,by simp,h2,B,by rw[oK a1];exact I,b8 B (g3 ▸ h4)⟩)
  ·rw[a8]at h2;exact .inr (.inr ⟨i,rfl,by simp,h2,B',by rw[oS (by rw[io.len];omega),io.len];simpa using I,h4⟩)
 have aa:∀ j b,Lives [] e1 (nb++rows) j b->w.heap.size<=b\/(j<ks.length/\∃ k∈ks,e.at k=some b):=λj b V=>io.fr j b V.2.1;have au:∀ b,b<w.heap.size->zM av pB (p8 ks e1 e++e1.drop ks.length) (bxN ks (nb.map (Bx.mapR λj=>ks.getD j 0)) 0 st.bx++rows) b->zM av pB e st.bx b:=λb hb hl=>hl.elim .inl λ⟨k,J⟩=>by
  rcases O k b J with⟨_,g⟩ | ⟨j,_,g⟩ | ⟨i,_,g⟩
  ·exact .inr ⟨k,g⟩
  ·rcases aa j b g with I | ⟨_,k2,I,g3⟩
   ·omega
   ·exact .inr ⟨k2,ae k2 b I g3⟩
  ·rcases aa _ b g with I | ⟨I,_⟩<;>omega
 have ac:∀ b,zM av pB (p8 ks e1 e++e1.drop ks.length) (bxN ks (nb.map (Bx.mapR λj=>ks.getD j 0)) 0 st.bx++rows) b->zM (λb=>av b\/∃ k,k∉ks/\Lives pB e st.bx k b) [] e1 (nb++rows) b:=λb hl=>by
  rcases hl with hl | ⟨k,J⟩
  ·exact .inl (.inl hl)
  rcases O k b J with⟨U,g⟩ | ⟨j,_,g⟩ | ⟨i,_,g⟩
  ·exact .inl (.inr ⟨k,U,g⟩)
  ·exact .inr ⟨j,g⟩
  ·exact .inr ⟨_,g⟩
 have aw:∀ b,b<w.heap.size->¬zM av pB e st.bx b->w'.heap[b]?=w.heap[b]?:=λb hb hn=>io.hold b hb λk J hc=>hn (.inr ⟨k,ae k b J hc⟩);have bb:∀ d:D,Good w' (zM (λb=>av b\/∃ k,k∉ks/\Lives pB e st.bx k b) [] e1 (nb++rows)) d->Good w' (zM av pB (p8 ks e1 e++e1.drop ks.length) (bxN ks (nb.map (Bx.mapR λj=>ks.getD j 0)) 0 st.bx++rows)) d:=
  λd hd=>hd.mono (λ_ _ _=>rfl) λb _ hb=>ac b hb
 have ai:∀(R:List Nat),(∀ k∈R,k<st.bx.length)->(∀ k∈ks,(st.bx.getD k .gone).isArr=true->k∉R)->∀ k∈R,Env.at (p8 ks e1 e++e1.drop ks.length) k=e.at k:=λR b9 ca k J=>by
  by_cases ao:k∈ks
  ·obtain⟨j,V⟩:=oQ.1 ao;obtain⟨_,B,U,_⟩:=io.kp k ao;rw[ak j k V];refine io.fix j k B V U ?_;cases hb:B.isArr with
   | false=>rfl
   | true=>exact absurd J (ca k ao (by rw[oA,U];exact hb))
  ·exact aq k (b9 k J) ao
 have bp:∀ q:PV,(∀ j∈q.refs,j<ks.length)->∀ k∈q.refs,Env.at (p8 ks e1 e++e1.drop ks.length) (ks.getD k 0)=e1.at k:=λq hq k J=>by have ah:=hq k J;refine ak k _ ?_;rw[oA,oF ah];rfl
 have bc:∀(j:Nat) (B:Bx),st.bx[j]?=some B->j∉pB->j∉ks->∀ b,e.at j=some b->B≠.gone->w'.heap[b]?=w.heap[b]?:=λj B V hn cc b hb hg=>by
  have hl:Lives pB e st.bx j b:=⟨hn,hb,B,V,hg⟩
  exact io.hold b (Lives.lt h.toMem hl) λk J hc=>cc (h.inj j k b hl (ae k b J hc) ▸ J)
 have aj:∀(i:Nat) (B:Bx),rows[i]?=some B->(nb++rows)[ks.length+i]?=some B/\B.refs=[]:=λi B hi=>by exact⟨by rw[oS (by rw[io.len];omega),io.len];simpa using hi,(io.arr B (oB hi)).sp.2⟩
 have ax:∀(j:Nat) (B:Bx),nb[j]?=some B->(nb++rows)[j]?=some B:=λj B V=>by rw[oK (oC.1 V).1];exact V
 refine⟨?_,bb⟩
 exact {
  el:=by
   simp only[oH,az,yE,mE]
   have:=io.m.el
   simp only[oH,io.len]at this;omega
  br := λk B' J hn=>by
   rcases al k B' J with⟨U,I⟩ | ⟨j,B,U,I,rfl⟩ | ⟨i,rfl,I⟩
   ·rw[aq k (oC.1 I).1 U];by_cases hg:B'=.gone
    ·subst hg;exact True.intro
    ·refine(h.br k B' I hn).congr (λb hb=>bc k B' I hn U b hb hg) λi hi=>?_;exact ai B'.refs (λk J=>(h.bf _ B' I hn k J).2) (λk2 ab ha=>b3 k B' I U k2 ab ha) i hi
   ·rw [ak j k U];have h1:=io.m.br j B (ax j B I) (by simp);have h2:=io.refs B (oB I);cases B with
    | var cs=>
      obtain⟨b,c,t,Y,Z,q3,q4⟩:=h1;refine⟨b,c,t,Y,Z,by simpa using q3,λi p hp=>?_⟩;rw[oE]at hp;cases a6:cs[i]? with
      | none=>simp[a6]at hp
      | some q=>
        simp only[a6,oR,oZ]at hp;subst hp;have hr:∀ j∈q.refs,j<ks.length:=λj V=>h2 j (by simp only[Bx.refs];exact PV.refsL_mem.2 ⟨q,oB a6,V⟩);rcases q4 i q a6 with q5 | q5
        ·subst q5;exact .inl rfl
        ·exact .inr (by rw[PV.mapR_cv q (bp q hr)];exact q5)
    | vd x n=>exact h1
    | arr t z es c=>exact h1
    | gone=>exact True.intro
   ·rw[a8];obtain⟨Y,Z⟩:=aj i B' I;exact(io.m.br _ B' Y (by simp)).congr (λ_ _=>rfl) λj V=>by rw[Z]at V;simp at V
  bo:=λk B' J hn=>by
   rcases al k B' J with⟨U,I⟩ | ⟨j,B,U,I,rfl⟩ | ⟨i,rfl,I⟩
   ·exact(h.bo k B' I hn).mono aw io.size au
   ·have h1:=(io.m.bo j B (ax j B I) (by simp)).mono (w':=w') (λ_ _ _=>rfl) (oJ _) λb _=>ac b;cases B with
    | var cs=>
      obtain⟨Y,Z⟩:=h1;rw[PV.OkL_iff]at Y;refine⟨PV.OkL_iff.2 λp hp=>?_,λp hp=>?_⟩
      ·obtain⟨q,hq,rfl⟩:=oU.1 hp;exact PV.mapR_ok q (Y q hq)
      ·obtain⟨q,hq,rfl⟩:=oU.1 hp;rcases Z q hq with q3 | q3
       ·subst q3;exact .inl rfl
       ·exact .inr (PV.mapR_isC q3)
    | vd x n=>exact h1
    | arr t z es c=>exact h1
    | gone=>exact True.intro
   ·exact(io.m.bo _ B' (aj i B' I).1 (by simp)).mono (λ_ _ _=>rfl) (oJ _) λb _=>ac b
  bf:=λk B' J hn i hi=>by
   simp only[oH,yE];rcases al k B' J with⟨U,I⟩ | ⟨j,B,U,I,rfl⟩ | ⟨i,rfl,I⟩
   ·have:=h.bf k B' I hn i hi;exact⟨this.1,by omega⟩
   ·cases B with
    | var cs=>
      simp only[Bx.mapR,Bx.refs]at hi;obtain⟨p,hp,bq⟩:=PV.refsL_mem.1 hi;obtain⟨q,hq,rfl⟩:=oU.1 hp;rw[PV.mapR_refs]at bq;obtain⟨r,hr,rfl⟩:=oU.1 bq;have bt:=io.refs _ (oB I) r (by simp only[Bx.refs];exact PV.refsL_mem.2 ⟨q,hq,hr⟩);have ba:ks.getD r 0∈ks:=by rw[oA,oF bt];exact mO bt
      exact⟨(io.kp _ ba).1,by have:=bj _ ba;omega⟩
    | vd x n=>simp[Bx.mapR,Bx.refs]at hi
    | arr t z es c=>simp[Bx.mapR,Bx.refs]at hi
    | gone=>simp[Bx.mapR,Bx.refs]at hi
   ·rw[(aj _ B' I).2]at hi;simp at hi
  inj:=λi j b hi V=>by
   have key:∀ k j,k∉ks->Lives pB e st.bx k b->¬Lives [] e1 (nb++rows) j b:=λk j J h1 h2=>by
    rcases aa j b h2 with h3 | ⟨_,k2,h3,h4⟩
    ·have:=Lives.lt h.toMem h1;omega
    ·exact J (h.inj k k2 b h1 (ae k2 b h3 h4) ▸ h3)
   rcases O i b hi with⟨U,I⟩ | ⟨i1,U,I⟩ | ⟨i1,U,I⟩
   ·rcases O j b V with⟨Y,Z⟩ | ⟨j1,Y,Z⟩ | ⟨j1,Y,Z⟩
    ·exact h.inj i j b I Z
    ·exact absurd Z (key i j1 U I)
    ·exact absurd Z (key i _ U I)
   ·rcases O j b V with⟨Y,Z⟩ | ⟨j1,Y,Z⟩ | ⟨j1,Y,Z⟩
    ·exact absurd I (key j i1 Y Z)
    ·have:=io.m.inj i1 j1 b I Z
     subst this;rw[U]at Y;exact o9 Y
    ·have:=io.m.inj _ _ b I Z
     have:=(oC.1 U).1
     omega
   ·rcases O j b V with⟨Y,Z⟩ | ⟨j1,Y,Z⟩ | ⟨j1,Y,Z⟩
    ·exact absurd I (key j _ Y Z)
    ·have:=io.m.inj _ _ b I Z
     have:=(oC.1 Y).1
     omega
    ·have:=io.m.inj _ _ b I Z
     omega
  ku:=h.ku.trans io.ku
  size:=o8 h.size io.size
  old:=λb hb hn=>by
   refine(io.hold b (oq hb h.size) λk J hc=>?_).trans (h.old b hb hn);rcases h.own k b (ae k b J hc)with h1 | h1
   ·omega
   ·exact hn h1.1
  fz := λb c t z hb hc=>by
   by_cases ah:b<w.heap.size
   ·by_cases J:∃ k∈ks,e.at k=some b
    ·exact io.fz b c t z (.inr J) hc
    ·rw[io.hold b ah λk ab cd=>J ⟨k,ab,cd⟩]at hc;exact h.fz b c t z hb hc
   ·exact io.fz b c t z (.inl (by omega)) hc
  nd:=h.nd
  sz:=h.sz
  hN:=oJ _
  hs:=λi p hi hn=>by
   rcases h.hs i p hi hn with h1 | h1
   ·exact .inl h1
   ·refine .inr (h1.trans (PV.val_congr p λk J=>?_).symm);exact ai p.refs (λk J=>(h.sr i p hi hn k J).2) (λk2 ab ha=>hS i p hi k2 ab ha) k J
  so:=λi p hi hn=>PV.Ok.mono aw io.size au p (h.so i p hi hn)
  sr:=λi p hi hn k J=>by have:=h.sr i p hi hn k J;exact⟨this.1,by simp only[oH,yE];omega⟩
  own := λk b J=>by
   show _\/(_/\k<st.pins.length);rcases O k b J with⟨_,g⟩ | ⟨j,U,g⟩ | ⟨i,_,g⟩
   ·exact h.own k b g
   ·rcases aa j b g with I | ⟨_,k2,I,g3⟩
    ·have:=h.size;exact .inl (by omega)
    ·obtain⟨_,B,Y,Z⟩:=io.kp k (oB U);obtain⟨_,B2,q3,q4⟩:=io.kp k2 I;cases hb:B.isArr with
     | false=>have q5:=io.fix j k B U Y hb;rw[g.2.1]at q5;exact h.own k b (ae k b (oB U) q5.symm)
     | true=>
       obtain⟨j2,g4⟩:=oQ.1 I;have ce:(st.bx.getD k .gone).isArr=true:=by rw[oA,Y];exact hb
       cases ay:B2.isArr with
       | false=>
         have q5:=io.fix j2 k2 B2 g4 q3 ay;have cf:j2<nb.length:=by rw[io.len];exact(oC.1 g4).1
         have bv:nb[j2]?=some nb[j2]:=oF cf;have ab:=io.kind j2 k2 B2 _ g4 q3 bv;have cg:Lives [] e1 (nb++rows) j2 b:=⟨by simp,q5.trans g3,_,ax j2 _ bv,λhc=>by rw[hc,ay]at ab;cases ab⟩
         have:=io.m.inj j j2 b g cg
         subst this;rw[U]at g4;cases g4;rw[Y]at q3;cases q3;rw[hb]at ay;cases ay
       | true=>
         have bw:(st.bx.getD k2 .gone).isArr=true:=by rw[oA,q3];exact ay
         rcases h.own k2 b (ae k2 b I g3)with q5 | ⟨q5,q6⟩
         ·exact .inl q5
         ·rcases bi with q7 | q7
          ·have:=q7 k2 I bw;omega
          ·exact .inr ⟨q5,q7 k (oB U) ce⟩
   ·rcases aa _ b g with I | ⟨I,_⟩
    ·have:=h.size;exact .inl (by omega)
    ·omega
  avl:=h.avl
  avn:=λk b J bg=>by
   have ah:b<w.heap.size:=oq (h.avl.lt b bg) h.size;rcases O k b J with⟨_,g⟩ | ⟨j,U,g⟩ | ⟨i,_,g⟩
   ·exact h.avn k b g bg
   ·rcases aa j b g with I | ⟨_,k2,I,g3⟩
    ·omega
    ·exact h.avn k2 b (ae k2 b I g3) bg
   ·rcases aa _ b g with I | ⟨I,_⟩<;>omega
  pin:=λk b hb=>by
   have bz:st.pins[k]?=some (some b):=hb;obtain⟨h1,h2⟩:=h.pin k b bz;refine⟨?_,h2⟩;have J:k<st.bx.length:=by rw[<-h.el];exact mn λhc=>by rw[Env.at_ge hc]at h1;cases h1
   rw[<-h1];exact ai [k] (λi hi=>by simp at hi;subst hi;exact J) (λk2 ab ha hc=>by simp at hc;subst hc;exact bh k2 ab ha b bz) k (by simp)
  pit:=h.pit }
variable {av:Nat->Prop} {P:Program} {w0 w w':World} {e0 e:Env} {pS pS' pB pB':List Nat} {a:Act} {st st':St}
def NU (ks:List Nat)(p:PV):Option PV:=match p with
 | .fn f caps=>(PV.fn f caps).ren ks
 | p=>match p.refs with
   | []=>vw p
   | _=>p.ren ks
def HJ (ks:List Nat):List PV->Option (List PV)
 | []=>some []
 | p::ps=>match NU ks p,HJ ks ps with
   | some q,some qs=>some (q::qs)
   | _,_=>none
def Fj:Bx->Bool
 | .gone=>true
 | _=>false
def okB (st:St)(ks:List Nat):Bool:=
 (ks.all fun k=>match st.bx[k]? with
  | some B=>!Fj B&&(!B.isArr||!pinned st k)
  | none=>false)&&Nat.ble ks.length st.bx.length &&
 ((ks.all fun k=>!(st.bx.getD k .gone).isArr||Nat.ble st.pins.length k)||ks.all fun k=>!(st.bx.getD k .gone).isArr||Nat.blt k st.pins.length)
def yo (bx:List Bx):List Nat->St->St
 | [],st=>st
 | k::ks,st=>match(bx.getD k .gone).isArr with
   | true=>yo bx ks (st.kill k)
   | false=>yo bx ks st
def yn (st:St)(ks:List Nat):List Bx:=ks.map λk=>(st.bx.getD k .gone).ren ks
def Ni (st:St)(ks:List Nat)(nb rows:List Bx)(N:Nat):St:=
 { yo st.bx ks st with bx:=bxN ks (nb.map (Bx.mapR λj=>ks.getD j 0)) 0 (yo st.bx ks st).bx++rows,N:=N }
def jOf:List PV->Nat
 | .sb k _ _ _ _::_=>k
 | _=>0
def rsJ (as:List PV):List Sh->List Sh
 | .bk _::l=>.bk (jOf as)::l
 | l=>l
def Mx (rs:List Sh)(U:List Bx)(ks:List Nat)(ps:List PV):PV:=match rs with
 | .bk j::_=>match U[j]? with
   | some (.arr _ z es c)=>.sb (ks.getD j 0) z 0 es.length c
   | _=>.any
 | _=>BM (qr rs) ps
def pz (rs:List Sh):Nat:=match qr rs with
 | true=>rs.length - 1
 | false=>rs.length
theorem DI:∀(cs:List PV)(s:Sh),s∈L5 cs->∀ j,s≠.bk j
 | p::cs,s,h,j=>by
   simp only[L5]at h;split at h
   ·rename_i s' hs;rcases oG.1 h with rfl | h
    ·cases p<;>simp[rq]at hs<;>subst hs<;>simp
    ·exact DI cs s h j
   ·exact DI cs s h j
theorem KR (bx:List Bx)(s:Sh)(h:s∈G7 bx):∀ j,s≠.bk j:=by
 simp only[G7,ni]at h;obtain⟨B,_,h⟩:=h;cases B with
 | var cs=>exact DI cs s h
 | vd x n=>simp[L4]at h;subst h;simp
 | arr t z es c=>simp[L4]at h;subst h;simp
 | gone=>simp[L4]at h
theorem DJ:∀(cs:List PV)(s:Sh),s∈L5 cs->s≠.pk
 | p::cs,s,h=>by
   simp only[L5]at h;split at h
   ·rename_i s' hs;rcases oG.1 h with rfl | h
    ·cases p<;>simp[rq]at hs<;>subst hs<;>simp
    ·exact DJ cs s h
   ·exact DJ cs s h
theorem KS (bx:List Bx)(s:Sh)(h:s∈G7 bx):s≠.pk:=by
 simp only[G7,ni]at h;obtain⟨B,_,h⟩:=h;cases B with
 | var cs=>exact DJ cs s h
 | vd x n=>simp[L4]at h;subst h;simp
 | arr t z es c=>simp[L4]at h;subst h;simp
 | gone=>simp[L4]at h
theorem Cb (l:List Sh)(bx:List Bx):qr (l++G7 bx)=qr l:=by
 cases l with
 | cons s l=>cases s<;>rfl
 | nil=>
   rw[nB];cases h:G7 bx with
   | nil=>rfl
   | cons s l=>have:=KS bx s (by rw[h];simp);cases s<;>first | rfl | exact absurd rfl this
theorem Jk (as:List PV)(rs:List Sh):qr (rsJ as rs)=qr rs:=by unfold rsJ;split<;>rfl
theorem Lv (as:List PV)(rs:List Sh):(rsJ as rs).length=rs.length:=by unfold rsJ;split<;>simp
def HY (P:Program)(rs:List Sh)(st:St)(dst:Option Nat)(f:FuncId)(J:List PV)(ks:List Nat)(K:St->Prop):Prop:=
 match HJ ks J,okB st ks&&Nat.beq (pz rs) (AQ P f (rs++G7 (yn st ks)) ((yn st ks).map yC))with
 | some as,true=>∀ N1,st.N<=N1->BCalls P f (rsJ as rs++G7 (yn st ks)) as (yn st ks) N1 (QT.lam (rsJ as rs++G7 (yn st ks)) st.bx.length λps rows I=>N1<=I ->
  JK I ps (MA I rows (K (St.put (Ni st ks (DL ((yn st ks).map yC) (ps.drop (pz rs))) rows I) dst (Mx (rsJ as rs) (DL ((yn st ks).map yC) (ps.drop (pz rs))) ks (ps.take (pz rs)))))))
 | _,_=>False
def MU (P:Program)(rs:List Sh)(st:St)(dst:Option Nat)(x:Operand)(args:List PV)(K:St->Prop):Prop:=
 match LQ (opd st.sl x)with
 | some (f,caps)=>match caps.all PV.isCap with
   | true=>HY P rs st dst f (args++caps) (sw st.bx 200 (PV.refsL (args++caps)) []) K
   | false=>False
 | none=>False
theorem Fk {k j:Nat}:(st.kill k).bx[j]?=(st.bx[j]?).map (Bx.kill k):=by simp[St.kill]
theorem H1 {k:Nat}{B:Bx}:B.kill k=.gone↔B=.gone:=by cases B<;>simp[Bx.kill]
theorem Gk {k:Nat}{B:Bx}:(B.kill k).isArr=B.isArr:=by cases B<;>rfl
theorem vI {bx:List Bx}:∀(ks:List Nat)(st:St)(j:Nat),((yo bx ks st).bx[j]?=none↔st.bx[j]?=none)/\∀ B,st.bx[j]?=some B->∃ B',(yo bx ks st).bx[j]?=some B'/\(B'=.gone↔B=.gone)/\B'.isArr=B.isArr
 | [],st,j=>⟨mf,λB h=>⟨B,h,mf,rfl⟩⟩
 | k::ks,st,j=>by
   simp only[yo];split
   ·obtain⟨I,J⟩:=vI ks (st.kill k) j;refine⟨by rw[I,Fk];simp,λB O=>?_⟩;obtain⟨B',U,V,Y⟩:=J (B.kill k) (by rw[Fk,O];rfl);exact⟨B',U,V.trans H1,Y.trans Gk⟩
   ·exact vI ks st j
theorem qB {bx:List Bx}:∀(ks:List Nat)(st:St),(yo bx ks st).pins=st.pins
 | [],st=>rfl
 | k::ks,st=>by
   simp only[yo];split
   ·rw[qB ks];rfl
   ·exact qB ks st
theorem AF {bx:List Bx}:∀(ks:List Nat)(st:St),Rel av w0 e0 pS pB a w e st->Rel av w0 e0 pS pB a w e (yo bx ks st)
 | [],st,h=>h
 | k::ks,st,h=>by
   simp only[yo];split
   ·exact AF ks _ (F7 h (uk k st))
   ·exact AF ks st h
theorem Fl {k:Nat}:(∀(i:Nat)(p:PV),(st.kill k).sl[i]?=some p->p=.any\/st.sl[i]?=some p)/\∀(j:Nat)(B:Bx)(r:Nat),(st.kill k).bx[j]?=some B->r∈B.refs->∃ B',st.bx[j]?=some B'/\r∈B'.refs:=by
 constructor
 ·intro i p hi;exact(uk k st).sl i p hi
 ·intro j B r O J;obtain⟨B',U,V⟩:=(uk k st).bx j B O;refine⟨B',U,?_⟩;rcases V with rfl | rfl | ⟨cs,cs',rfl,rfl,h3,Y⟩
  ·simp[Bx.refs]at J
  ·exact J
  ·simp only[Bx.refs]at J ⊢;obtain⟨p,Z,I⟩:=PV.refsL_mem.1 J;obtain⟨i,hi⟩:=oQ.1 Z;rcases Y i p hi with rfl | h5
   ·simp[PV.refs]at I
   ·exact PV.refsL_mem.2 ⟨p,oB h5,I⟩
theorem AG {bx:List Bx}:∀(ks:List Nat)(st:St),(∀(i:Nat)(p:PV),(yo bx ks st).sl[i]?=some p->p=.any\/st.sl[i]?=some p)/\∀(j:Nat)(B:Bx)(r:Nat),(yo bx ks st).bx[j]?=some B->r∈B.refs->∃ B',st.bx[j]?=some B'/\r∈B'.refs
 | [],st=>⟨λi p h=>.inr h,λj B r h I=>⟨B,h,I⟩⟩
 | k :: ks,st=>by
   simp only[yo];split
   ·obtain⟨J,O⟩:=AG ks (st.kill k);refine⟨λi p hi=>?_,λj B r U I=>?_⟩
    ·rcases J i p hi with h3 | h3
     ·exact .inl h3
     ·exact Fl.1 i p h3
    ·obtain⟨B',h3,V⟩:=O j B r U I;exact Fl.2 j B' r h3 V
   ·exact AG ks st
theorem ux {bx:List Bx}:∀(ks:List Nat)(st:St),∀ k∈ks,(bx.getD k .gone).isArr=true->(∀(i:Nat)(p:PV),(yo bx ks st).sl[i]?=some p->k∉p.refs)/\∀(j:Nat)(B:Bx),(yo bx ks st).bx[j]?=some B->k∉B.refs
 | [],st,k,h,_=>by simp at h
 | k'::ks,st,k,h,I=>by
   simp only[yo];rcases oG.1 h with rfl | h
   ·rw[I];obtain⟨J,O⟩:=AG (bx:=bx) ks (st.kill k);refine⟨λi p hi hc=>?_,λj B U hc=>?_⟩
    ·rcases J i p hi with rfl | h3
     ·simp[PV.refs]at hc
     ·exact AI.1 i p h3 hc
    ·obtain⟨B',h3,V⟩:=O j B k U hc;exact AI.2 j B' h3 V
   ·split
    ·exact ux ks _ k h I
    ·exact ux ks st k h I
theorem AE {bx:List Bx}:∀(ks:List Nat)(st:St),(yo bx ks st).bx.length=st.bx.length/\(yo bx ks st).sl.length=st.sl.length
 | [],st=>⟨rfl,rfl⟩
 | k::ks,st=>by
   simp only[yo];split
   ·have:=AE (bx:=bx) ks (st.kill k)
    simpa [St.kill]using this
   ·exact AE ks st
theorem Au:∀(cs es:List PV),(∀ p∈es,p.refs=[])->(∀ q∈(FQ cs es).1,q.refs=[]\/q∈cs)/\∀ q∈(FQ cs es).2,q∈es
 | [],es,h=>⟨by simp[FQ],by simp[FQ]⟩
 | p::ps,es,h=>by
   simp only[FQ];split
   ·cases es with
    | nil=>simp
    | cons q es=>
      obtain⟨I,J⟩:=Au ps es λx hx=>h x (by simp[hx]);refine⟨λx hx=>?_,λx hx=>by simp[J x hx]⟩;rcases oG.1 hx with rfl | hx
      ·exact .inl (h _ (by simp))
      ·exact(I x hx).imp id λO=>by simp[O]
   ·obtain⟨I,J⟩:=Au ps es h;refine⟨λx hx=>?_,J⟩;rcases oG.1 hx with rfl | hx
    ·exact .inr (by simp)
    ·exact(I x hx).imp id λO=>by simp[O]
theorem Iy (B:Bx)(es:List PV)(h:∀ p∈es,p.refs=[]):(∀ j∈(GJ B es).1.refs,j∈B.refs)/\(GJ B es).1.isArr=B.isArr/\∀ q∈(GJ B es).2,q∈es:=by
 cases B with
 | var cs=>
   obtain⟨U,V⟩:=Au cs es h;refine⟨λj O=>?_,rfl,V⟩;simp only[GJ,Bx.refs]at O ⊢;obtain⟨q,I,J⟩:=PV.refsL_mem.1 O;rcases U q I with h3 | h3
   ·rw[h3]at J;simp at J
   ·exact PV.refsL_mem.2 ⟨q,h3,J⟩
 | vd y n=>
   simp only[GJ];split
   ·exact⟨by simp[Bx.refs],rfl,λq I=>by simp[I]⟩
   ·exact⟨by simp[Bx.refs],rfl,by simp⟩
 | arr t z y n=>
   simp only[GJ];split
   ·exact⟨by simp[Bx.refs],rfl,λq I=>by simp[I]⟩
   ·exact⟨by simp[Bx.refs],rfl,by simp⟩
 | gone=>exact⟨by simp[GJ,Bx.refs],rfl,λq I=>I⟩
theorem GI:∀(bs:List Bx)(es:List PV),(∀ p∈es,p.refs=[])->(G3 bs es).length=bs.length/\∀(j:Nat)(B':Bx),(G3 bs es)[j]?=some B'->∃ B,bs[j]?=some B/\(∀ i∈B'.refs,i∈B.refs)/\B'.isArr=B.isArr
 | [],es,h=>⟨rfl,by simp[G3]⟩
 | B::bs,es,h=>by
   obtain⟨J,O,U⟩:=Iy B es h;obtain⟨V,Y⟩:=GI bs (GJ B es).2 λp Z=>h p (U p Z);refine⟨by simp[G3,V],λj B' I=>?_⟩;cases j with
   | zero=>simp[G3]at I;subst I;exact⟨B,rfl,J,O⟩
   | succ j=>simp only[G3,nQ]at I ⊢;exact Y j B' I
theorem Cw (bs:List Bx)(es:List PV)(h:∀ p∈es,p.refs=[]):(DL bs es).length=bs.length/\∀(j:Nat)(B':Bx),(DL bs es)[j]?=some B'->∃ B,bs[j]?=some B/\(∀ i∈B'.refs,i∈B.refs)/\B'.isArr=B.isArr:=by
 obtain⟨h1,h2⟩:=GI bs es h;refine⟨by simp[DL,h1],λj B' J=>?_⟩;simp only[DL,oE]at J;cases O:(G3 bs es)[j]? with
 | none=>simp[O]at J
 | some U=>
   simp only[O,oR,oZ]at J;obtain⟨B,V,Y,Z⟩:=h2 j U O;subst J;cases U with
   | var cs=>
     refine⟨B,V,λi hi=>Y i ?_,Z⟩;simp only[Ma,Bx.refs]at hi ⊢;obtain⟨p,hp,I⟩:=PV.refsL_mem.1 hi;obtain⟨q,hq,rfl⟩:=oU.1 hp;refine PV.refsL_mem.2 ⟨q,hq,?_⟩;cases q<;>simp only[Mb]at I<;>try exact I
     split at I
     ·exact I
     ·simp[PV.refs]at I
   | _=>exact⟨B,V,Y,Z⟩
theorem rj {B:Bx}:(yC B).refs=B.refs/\(yC B).isArr=B.isArr:=by
 cases B with
 | var cs=>
   refine⟨?_,rfl⟩;simp only[yC,Bx.refs]
   induction cs with
   | nil=>rfl
   | cons p cs I=>simp only[o7,PV.refsL,I];congr 1;cases p<;>rfl
 | _=>exact⟨rfl,rfl⟩
theorem D0 {ks:List Nat}{B:Bx}:(B.ren ks).isArr=B.isArr:=by cases B<;>rfl
theorem KB {ks:List Nat}{B:Bx}:∀ j∈(B.ren ks).refs,j<ks.length:=by
 cases B with
 | var cs=>
   intro j O;simp only[Bx.ren,Bx.refs]at O;obtain⟨p,U,I⟩:=PV.refsL_mem.1 O;obtain⟨q,V,rfl⟩:=oU.1 U;unfold I4 at I;split at I
   ·rename_i Y J;exact(yk (e:=[]) J).rf j I
   ·simp[PV.refs]at I
 | _=>simp[Bx.ren,Bx.refs]
theorem QT.app_base:∀(l:List Sh)(Q:QT l)(b:Nat)(ps:List PV)(rows:List Bx)(N:Nat),QT.app l Q b ps rows N->∀ p∈ps,∀ k∈p.refs,b<=k
 | [],Q,b,ps,rows,N,h=>by cases ps<;>cases rows<;>simp[QT.app]at h ⊢
 | s :: l,Q,b,ps,rows,N,h=>by
   by_cases hs:s=.pk
   ·subst hs;exact QT.app_base l Q b ps rows N h.2
   cases ps with
   | nil=>cases s<;>first | exact absurd rfl hs | (simp[QT.app]at h;done)
   | cons p ps=>
     have key:(∃(J:QT l) (b':Nat) (I:List Bx),b<=b'/\QT.app l J b' ps I N)/\∀ k∈p.refs,b<=k:=by
      cases s<;>(try(exact absurd rfl hs))<;>cases p<;>(try(exact h.elim))<;>(try(simp[QT.app]at h;done))<;>first
       | exact⟨⟨_,_,_,oJ _,h⟩,by simp[PV.refs]⟩
       | exact⟨⟨_,_,_,oJ _,h.2⟩,by simp[PV.refs]⟩
       | skip
      all_goals
       cases rows with
       | nil=>simp[QT.app]at h
       | cons B rows=>
         cases B<;>first
          | exact⟨⟨_,b+1,_,by omega,h.2⟩,by have:=h.1.1;simp[PV.refs];omega⟩
          | (simp[QT.app]at h;done)
          | (obtain⟨_,_,_,_,_,hb,_,h⟩:=h;cases hb;exact⟨⟨_,_,_,Nat.le_succ b,h⟩,by simp[PV.refs]⟩)
     obtain⟨⟨J,b',I,hb,U⟩,V⟩:=key;intro q hq k O;rcases oG.1 hq with rfl | hq
     ·exact V k O
     ·exact o8 hb (QT.app_base l J b' ps I N U q hq k O)
theorem FI {d:Nat}{e e':Env}{p:PV}(J:p.plainR=true)(I:∀ k∈p.refs,e.at (d+k)=e'.at k):(p.shift d).val1 e=p.val1 e':=by
 cases p
 case sb k z lo n c=>
  have:=I k (by simp[PV.refs])
  simp[PV.shift,PV.val1,PV.cv,this]
 case pb k z i o=>
  have:=I k (by simp[PV.refs])
  simp[PV.shift,PV.val1,PV.cv,this]
 all_goals first
  | rfl
  | simp[PV.plainR]at J
theorem Ik {d:Nat}{e e':Env}{p:PV}(J:p.plainR=true)(I:∀ k∈p.refs,e.at (d+k)=e'.at k):(p.shift d).cv e=p.cv e':=by
 cases p
 case sb k z lo n c=>have:=I k (by simp[PV.refs]);simp[PV.shift,PV.cv,this]
 case pb k z i o=>have:=I k (by simp[PV.refs]);simp[PV.shift,PV.cv,this]
 all_goals first
  | rfl
  | simp[PV.plainR]at J
theorem FF {d:Nat}{e e':Env}{ps:List PV}{pk:Bool}(J:∀ p∈ps,p.plainR=true)(I:∀ p∈ps,∀ k∈p.refs,e.at (d+k)=e'.at k):(BM pk (ps.map (PV.shift d))).val e=Gz pk e' ps:=by
 cases pk with
 | true=>simp only[BM,Gz,PV.val,PV.val1,PV.cvs_eq,nq];congr 2;exact ou λp h=>Ik (J p h) (I p h)
 | false=>
 have key:∀ p∈ps,(p.shift d).val1 e=p.val1 e':=λp h=>FI (J p h) (I p h);have one:∀ p,p∈ps->(p.shift d).val e=p.val1 e':=λp h=>by
  rw[<-key p h]
  have:=J p h
  cases p<;>simp[PV.plainR]at this<;>rfl
 rcases ps with _ | ⟨p,_ | ⟨q,ps⟩⟩
 ·rfl
 ·exact one p (by simp)
 ·simp only[o7,BM,ED,PV.val,Gz,Ic];rw[key p (by simp),key q (by simp),nq];congr 4;exact ou λr O=>key r (by simp[O])
theorem B4 {d:Nat}:∀ {es:List PV},(∀ p∈es,p.refs=[])->es.map (PV.shift d)=es
 | [],_=>rfl
 | p::es,h=>by
   rw[o7,B4 λq I=>h q (by simp[I])];congr 1
   have:=h p (by simp)
   cases p<;>first | rfl | simp[PV.refs]at this
theorem GR {ks:List Nat} {bx:List Bx} {live:Nat->Prop} (I:∀ b,live b->zM av pB e bx b) {p q:PV} {v:Value} (Y:ValOk av w e pB bx v p) (h:NU ks p=some q) :
  v=q.val (tJ e ks)/\q.Ok w live/\∀ k∈q.refs,k<ks.length:=by
 have J:p.ren ks=some q->p≠.any->v=q.val (tJ e ks)/\q.Ok w live/\∀ k∈q.refs,k<ks.length:=λU Z=>by have V:=yk (e:=e) U;refine⟨(Y.1.resolve_left Z).trans (Ib U),V.ok _ _ (PV.Ok.mono (λ_ _ _=>rfl) (oJ _) (λb _=>I b) p Y.2.1),V.rf⟩
 have O:vw p=some q->v=q.val (tJ e ks)/\q.Ok w live/\∀ k∈q.refs,k<ks.length:=λU=>by obtain⟨Z,V,h4⟩:=yp Y U;exact⟨Z.trans (PV.val_congr q (by rw[h4];simp)),V live I,by rw[h4];simp⟩
 unfold NU at h;split at h
 ·exact J h (by simp)
 ·split at h
  ·exact O h
  ·rename_i hr;exact J h λhc=>by subst hc;exact hr rfl
theorem pc {ks:List Nat} {bx:List Bx} {live:Nat->Prop} (I:∀ b,live b->zM av pB e bx b):∀ {ps qs:List PV} {vs:List Value},HJ ks ps=some qs->ps.length=vs.length->(∀(i:Nat) (p:PV) (v:Value),ps[i]?=some p->vs[i]?=some v->ValOk av w e pB bx v p) ->
  qs.map (PV.val (tJ e ks))=vs/\∀ q∈qs,q.Ok w live/\∀ k∈q.refs,k<ks.length
 | [],qs,vs,h,hl,J=>by
   simp[HJ]at h;subst h;cases vs with
   | nil=>simp
   | cons=>simp at hl
 | p :: ps,qs,vs,h,hl,J=>by
   cases vs with
   | nil=>simp at hl
   | cons v vs=>
     simp only[HJ]at h;split at h
     ·rename_i q rs U V;simp at h;subst h;obtain⟨Y,Z,g3⟩:=GR I (J 0 p v rfl rfl) U;obtain⟨g4,g5⟩:=pc I V (by simpa using hl) λi p v hp O=>J (i+1) p v (by simpa using hp) (by simpa using O);refine⟨by simp[Y,g4],λr hr=>?_⟩;rcases oG.1 hr with rfl | hr
      ·exact⟨Z,g3⟩
      ·exact g5 r hr
     ·cases h
theorem Eg (h:Rel av w0 e0 pS pB a w e st) (hpl:∀ k∈pB,k<st.bx.length) {rs:List Sh} {o:Oper} {c:Call} {x:Operand} {args:List PV} {K:St->Prop} (ho:o.op=.call c) (hc:c.callee=.value x)
  (hx:∀ t,x=.tmp t->t∉pS) (ha:args.length=c.args.size) (hav:∀(i:Nat) (p:PV) (y:Operand),args[i]?=some p->c.args[i]?=some y->ValOk av w e pB st.bx (a.eval y) p)
  {f:FuncId} {caps:List PV} (hf:LQ (opd st.sl x)=some (f,caps)) (hcapall:∀ p∈caps,p.isCap=true) {ks:List Nat} (hnd:ks.Nodup) (hkpB:∀ k∈ks,k∉pB)
  (hps:∀ i,i∈pS->some i≠o.dst->i∈pS') (hs:HY P rs st o.dst f (args++caps) ks K) {next:Act->World->Prop} {Q:Exit->Act->World->Prop}
  (hn:∀ v w' e' st',K st'->(∃ nb rows N p,st'=St.put (Ni st ks nb rows N) o.dst p)->Rel av w0 e0 pS' pB (a.put o.dst v) w' e' st'->next (a.put o.dst v) w'):o.wp P a w next Q:=by
 have ox:=xU h hx;have ox:=rz ox.valOk hf;have hxv:=ox.1.resolve_left (by simp);have hcv:a.eval x=.func (.func f) #[] (PV.cvs e caps).toArray:=hxv;have hcok:PV.OkL w (zM av pB e st.bx) caps:=by have:=ox.2.1;simpa only[PV.Ok]using this
 rw[PV.OkL_iff]at hcok;have hcrf:∀ p∈caps,∀ k∈p.refs,k∉pB/\k<st.bx.length:=fun p hp k hk=>ox.2.2 k (by simp only[PV.refs];exact PV.refsL_mem.2 ⟨p,hp,hk⟩);have hcap:∀(i:Nat) (p:PV) (v:Value),(args++caps)[i]?=some p->(c.args.toList.map a.eval++caps.map (PV.cv e))[i]?=some v->ValOk av w e pB st.bx v p:=by
  intro i p v h1 h2;by_cases hi:i<args.length
  ·rw[oK hi]at h1;have hi2:i<c.args.toList.length:=by simp;omega
   rw[oK (by simpa using hi2),oE,oF hi2]at h2;simp at h2;subst h2;exact hav i p _ h1 (by rw[oe (by omega)])
  ·rw[oS (by omega)]at h1;rw[oS (by simp;omega),oE]at h2;have hidx:i - (c.args.toList.map a.eval).length=i - args.length:=by simp;omega
   rw[hidx,h1]at h2;simp at h2;subst h2;have hm:=oB h1;exact⟨.inr (sc (hcapall p hm)).symm,hcok p hm,hcrf p hm⟩
 have hln:(args++caps).length=(c.args.toList.map a.eval++caps.map (PV.cv e)).length:=by simp;omega
 unfold HY at hs;split at hs
 rotate_left
 ·exact hs.elim
 rename_i as has hok;simp only[okB,oL,oW,ny,o6]at hok;obtain⟨⟨⟨hok1,hok2⟩,hok3⟩,hnr⟩:=hok;have hok2:=mK hok2;have hnr:=o5 hnr;have hbox:∀ k∈ks,∃ B,st.bx[k]?=some B/\B≠.gone/\(B.isArr=true->pinned st k=false):=fun k hk=>by
  have:=hok1 k hk
  split at this
  ·rename_i B hB;simp only[oL,o6,ny]at this;refine⟨B,hB,fun hc=>by subst hc;simp[Fj]at this,fun ha=>?_⟩;rcases this.2 with h1 | h1
   ·rw[ha]at h1;cases h1
   ·exact h1
  ·cases this
 have hE:(ks.map some).map (fun u=>Option.bind u e.at)=tJ e ks:=by simp[tJ]
 have hbl:(yn st ks).length=ks.length:=by simp[yn]
 have hbg:∀(j:Nat) (B':Bx),(yn st ks)[j]?=some B'->∃ k B,ks[j]?=some k/\st.bx[k]?=some B/\B≠.gone/\B'=B.ren ks:=fun j B' hj=>by
  simp only[yn,oE]at hj;cases hk:ks[j]? with
  | none=>simp[hk]at hj
  | some k=>simp only[hk,oR,oZ]at hj;obtain⟨B,h1,h2,_⟩:=hbox k (oB hk);refine⟨k,B,rfl,h1,h2,?_⟩;rw[<-hj,oA,h1];rfl
 obtain⟨hmem,hlv,hlvs⟩:=Fp (us:=ks.map some) (nb:=yn st ks) (av':=fun b=>av b\/∃ k,k∉ks/\Lives pB e st.bx k b) h.toMem (fun b hb=>hb.imp id fun⟨k,hk⟩=>⟨k,hk.2⟩) (by simp[yn])
  (fun i j k hi hj=>by
   simp only[oE]at hi hj;cases hi2:ks[i]? with
   | none=>simp[hi2]at hi
   | some x=>
     cases hj2:ks[j]? with
     | none=>simp[hj2]at hj
     | some y=>simp[hi2]at hi;simp[hj2]at hj;subst hi;subst hj;obtain⟨i1,i2⟩:=oC.1 hi2;obtain⟨j1,j2⟩:=oC.1 hj2;exact(List.getElem_inj hnd).1 (i2.trans j2.symm))
  (fun j B' hj=>by
   obtain⟨k,B,h1,h2,h3,rfl⟩:=hbg j B' hj;refine .inr ⟨k,B,by simp[h1],hkpB k (oB h1),h2,⟨?_⟩⟩;rw[hE];cases B with
   | var cs=>
     refine .inr (.inr ⟨cs,_,rfl,rfl,by simp,fun i q hq=>?_⟩);rw[oE]at hq;cases hci:cs[i]? with
     | none=>simp[hci]at hq
     | some p=>
       simp only[hci,oR,oZ]at hq;unfold I4 at hq;split at hq
       ·rename_i q' hq';subst hq;have h4:=yk (e:=e) hq';exact .inr ⟨p,rfl,h4.an.1,h4.cv,h4.ok,h4.ic,by simpa using h4.rf⟩
       ·exact .inl hq.symm
   | gone=>exact absurd rfl h3
   | vd x n=>exact .inr (.inl ⟨rfl,by simp⟩)
   | arr t z es c=>exact .inr (.inl ⟨rfl,by simp⟩))
 rw [hE]at hmem hlv hlvs;obtain⟨hargs,hargok⟩:=pc hlv has (by simp;omega) hcap;have hlt:∀ b,zM av pB e st.bx b->b<w.heap.size:=fun b hb=>hb.elim (fun hb=>by have:=h.avl.lt b hb;have:=h.size;omega) fun⟨k,hk⟩=>Lives.lt h.toMem hk;obtain⟨hcl,hA⟩:=hs w.heap.size h.hN;have hC:=hA (fun b=>av b\/∃ k,k∉ks/\Lives pB e st.bx k b) w (tJ e ks) rfl ⟨fun b hb=>hlt b (hb.imp id fun⟨k,hk⟩=>⟨k,hk.2⟩),h.glob,fun b hb=>.inl (h.avl.ga b hb),fun b hb hc=>by
  simp only[tJ,oU]at hc;obtain⟨k,g1,g2⟩:=hc;obtain⟨B,g3,g4,_⟩:=hbox k g1;exact h.avn k b ⟨hkpB k g1,g2,B,g3,g4⟩ (h.avl.ga b hb),fun x hx hc=>by
  simp only[tJ,oU]at hc;obtain⟨k,g1,g2⟩:=hc;obtain⟨B,g3,g4,_⟩:=hbox k g1;rcases h.own k x.1 ⟨hkpB k g1,g2,B,g3,g4⟩with h5 | ⟨h5,_⟩
  ·have:=h.avl.g.ltb hx;omega
  ·exact h.avl.gb x hx h5⟩ hmem (fun j b hj hb=>by
  obtain⟨k,g1,g2⟩:=hlvs j b hj;simp only[oE]at g1;cases hk:ks[j]? with
  | none=>simp[hk]at g1
  | some k2=>
    simp[hk]at g1;subst g1;rcases hb with hb | ⟨k3,g3,g4⟩
    ·exact h.avn k2 b g2 hb
    ·exact g3 (h.inj k3 k2 b g4 g2 ▸ oB hk)) (fun p hp=>by obtain⟨g1,g2⟩:=hargok p hp;exact⟨g1,by rw[hbl];exact g2⟩)
 have hrun:(execOp a.eval o).run P w=.ok (.enter f (as.map (PV.val (tJ e ks))).toArray) w:=by
  have e1:(as.map (PV.val (tJ e ks))).toArray=c.args.map a.eval++(PV.cvs e caps).toArray:=by rw[hargs,PV.cvs_eq];apply nJ.1;simp
  rw[e1];obtain⟨dst,op,ty,pos,after,guard⟩:=o;simp only at ho;subst ho;simp only[execOp,resolve,hc,Deferred.ofValue,hcv,invoke];simp[D1 hcl]
 unfold Oper.wp;rw[hrun,Oper.upon_enter];refine hC.mono fun en w' hen=>?_;cases en with
 | panicked=>exact hen.elim
 | outgrown=>exact hen.elim
 | returned v=>
   obtain⟨ps,es,rows,e1,hpn,hd⟩:=hen;have hb0:((yn st ks).map yC).length=ks.length:=by simp[hbl]
   have hnr':pz rs=AQ P f (rsJ as rs++G7 (yn st ks)) ((yn st ks).map yC):=by rw[hnr];simp only[AQ,Cb,Jk,oH,Lv]
   rw[<-hnr']at hpn;have hq:=hd.q;rw[hb0]at hq;have hq0:=hq;have happ:=QT.app_lam (rsJ as rs++G7 (yn st ks)) (st.bx.length - ks.length) ks.length _ (ps++es) rows _ (by rw[show st.bx.length - ks.length+ks.length=st.bx.length by omega];exact hq);have hplain:∀ p∈ps,p.plainR=true:=fun p hp=>QT.app_plain _ _ _ _ _ _ hq p (nS _ hp);have hbase:∀ p∈ps,∀ k∈p.refs,ks.length<=k:=fun p hp=>QT.app_base _ _ _ _ _ _ hq p (nS _ hp);obtain⟨harr,hrfs⟩:=QT.app_rows _ _ _ _ _ _ hq;have happ:=happ hd.size;rw[mL,B4 hd.ns]at happ;have e2:(ps.map (PV.shift (st.bx.length - ks.length))++es).take (pz rs)=ps.map (PV.shift (st.bx.length - ks.length)):=List.take_left' (by simp[hpn]);have e3:(ps.map (PV.shift (st.bx.length - ks.length))++es).drop (pz rs)=es:=List.drop_left' (by simp[hpn]);rw[e2,e3]at happ;have hbel:=xh (N:=w'.heap.size) (fun q hq=>by
    rcases oO.1 hq with hq | hq
    rotate_left
    ·exact hd.be q hq
    obtain⟨p,hp,rfl⟩:=oU.1 hq;have hpl:=hplain p hp;have hok:=hd.ok p hp;cases p<;>simp only[PV.shift]<;>simp only[PV.Ok]at hok
    ·exact hok.1.lt
    ·exact hok.1.1.lt) happ
   have hrowm:∀(i:Nat) (B:Bx),rows[i]?=some B->(DL ((yn st ks).map yC) es++rows)[ks.length+i]?=some B:=fun i B hi=>by have hl:=(Cw ((yn st ks).map yC) es hd.ns).1;rw[hb0]at hl;rw[oS (by omega),hl];simpa using hi
   have hbel2:=um (N:=w'.heap.size) (fun t z ds cc hm b hb=>by
    obtain⟨i,hi⟩:=oQ.1 hm
    have:=hd.m.bo _ _ (hrowm i _ hi) (by simp)
    simp only[D.foot]at hb;obtain⟨y,hy,hby⟩:=zL.1 hb;exact(this y hy).1.lt b hby) hbel
   obtain⟨ul,ug⟩:=Cw ((yn st ks).map yC) es hd.ns;rw[hb0]at ul;have ug2:∀(j:Nat) (B':Bx),(DL ((yn st ks).map yC) es)[j]?=some B'->∃ k B,ks[j]?=some k/\st.bx[k]?=some B/\B'.isArr=B.isArr/\∀ i∈B'.refs,i<ks.length:=fun j B' hj=>by
    obtain⟨B1,g1,g2,g3⟩:=ug j B' hj;rw[oE]at g1;cases hb:(yn st ks)[j]? with
    | none=>simp[hb]at g1
    | some B2=>
      simp only[hb,oR,oZ]at g1;obtain⟨k,B,q1,q2,q3,rfl⟩:=hbg j B2 hb;subst g1;refine⟨k,B,q1,q2,by rw[g3,rj.2,D0],fun i hi=>?_⟩
      have:=g2 i hi
      rw[rj.1]at this;exact KB i this
   have hkr:=AF (bx:=st.bx) ks st h;have hlvk:∀ k b,Lives pB e (yo st.bx ks st).bx k b↔Lives pB e st.bx k b:=fun k b=>by
    obtain⟨g1,g2⟩:=vI (bx:=st.bx) ks st k;constructor
    ·rintro⟨h1,h2,B',h3,h4⟩
     cases hB:st.bx[k]? with
     | none=>rw[g1.2 hB]at h3;cases h3
     | some B=>obtain⟨B'',q1,q2,_⟩:=g2 B hB;rw[q1]at h3;cases h3;exact⟨h1,h2,B,hB,fun hc=>h4 (q2.2 hc)⟩
    ·rintro⟨h1,h2,B,h3,h4⟩
     obtain⟨B',q1,q2,_⟩:=g2 B h3;exact⟨h1,h2,B',q1,fun hc=>h4 (q2.1 hc)⟩
   have hkb:∀(k:Nat) (B:Bx),(yo st.bx ks st).bx[k]?=some B->∃ B0,st.bx[k]?=some B0/\B.isArr=B0.isArr/\(B=.gone↔B0=.gone):=fun k B hB=>by
    obtain⟨g1,g2⟩:=vI (bx:=st.bx) ks st k;cases hB0:st.bx[k]? with
    | none=>rw[g1.2 hB0]at hB;cases hB
    | some B0=>obtain⟨B'',q1,q2,q3⟩:=g2 B0 hB0;rw[q1]at hB;cases hB;exact⟨B0,rfl,q3,q2⟩
   have hget0:∀ k,((yo st.bx ks st).bx.getD k .gone).isArr=(st.bx.getD k .gone).isArr:=fun k=>by
    obtain⟨g1,g2⟩:=vI (bx:=st.bx) ks st k;rw[oA,oA];cases hB0:st.bx[k]? with
    | none=>rw[g1.2 hB0]
    | some B0=>obtain⟨B'',q1,_,q3⟩:=g2 B0 hB0;rw[q1];exact q3
   have hio:Io av pB w w' e (yo st.bx ks st).bx ks e1 (DL ((yn st ks).map yC) es) rows:={
    nd:=hnd
    kp:=fun k hk=>by obtain⟨B,g1,g2,_⟩:=hbox k hk;obtain⟨B',q1,q2,_⟩:=(vI (bx:=st.bx) ks st k).2 B g1;exact⟨hkpB k hk,B',q1,fun hc=>g2 (q2.1 hc)⟩
    len:=ul
    el:=by have:=hd.m.el;simp only[oH,ul]at this;omega
    m := by
      have he:(fun b=>av b\/∃ k,k∉ks/\Lives pB e (yo st.bx ks st).bx k b)=fun b=>av b\/∃ k,k∉ks/\Lives pB e st.bx k b:=by funext b;exact propext (or_congr mf (exists_congr fun k=>and_congr mf (hlvk k b)))
      rw[he];exact hd.m
    arr:=harr
    kind:=fun j k B B' hj hB hB'=>by obtain⟨k2,B2,g1,g2,g3,_⟩:=ug2 j B' hB';rw[hj]at g1;cases g1;obtain⟨B0,q1,q2,_⟩:=hkb k B hB;rw[g2]at q1;cases q1;rw[g3,q2]
    refs:=fun B hB j hj=>by obtain⟨i,hi⟩:=oQ.1 hB;obtain⟨_,_,_,_,_,g⟩:=ug2 i B hi;exact g j hj
    fix:=fun j k B hj hB ha=>by
     obtain⟨B0,q1,q2,_⟩:=hkb k B hB;have hj0:((yn st ks).map yC)[j]?=some (yC (B0.ren ks)):=by simp[yn,oE,hj,oA,q1]
     have:=hd.fix j _ hj0 (by rw[rj.2,D0,<-q2];exact ha)
     rw[this];have hej:(tJ e ks).at j=e.at k:=by simp[tJ,Env.at,oA,hj]
     rw[hej];have hbr:=h.br k B0 q1 (hkpB k (oB hj));rw[q2]at ha;cases B0 with
     | var cs=>obtain⟨b,_,_,g,_⟩:=hbr;rw[g];rfl
     | vd y n=>obtain⟨b,_,_,g,_⟩:=hbr;rw[g];rfl
     | arr=>cases ha
     | gone=>cases ha
    fr:=fun j b hj=>by
     rcases hd.fresh j b hj with g | ⟨g1,g2⟩
     ·exact .inl g
     ·rw[hb0]at g1;simp only[tJ,oU]at g2;obtain⟨k,g3,g4⟩:=g2;exact .inr ⟨g1,k,g3,g4⟩
    size:=hd.size
    hold:=fun b hb hnk=>hd.old b hb fun hc=>by simp only[tJ,oU]at hc;obtain⟨k,g3,g4⟩:=hc;exact hnk k g3 g4
    fz:=fun b cc t z hb hcc=>hd.fz b cc t z (hb.imp id fun⟨k,g1,g2⟩=>by simp only[tJ,oU];exact⟨k,g1,g2⟩) hcc
    ku:=hd.ku }
   have hpn2:=qB (bx:=st.bx) ks st;obtain⟨hR,hgood⟩:=Mw hkr hio
    (fun i p hi k hk hka=>(ux ks st k hk (by rw[<-hget0];exact hka)).1 i p hi)
    (fun j B hj hjk k hk hka=>(ux ks st k hk (by rw[<-hget0];exact hka)).2 j B hj)
    (fun k hk hka b hb=>by
     rw[hpn2]at hb;rw[hget0]at hka;obtain⟨B,g1,_,g3⟩:=hbox k hk;rw[oA,g1]at hka
     have:=g3 hka
     unfold pinned at this;rw[hb]at this;cases this)
    (by
     rw[hpn2];refine hok3.imp (fun hq k hk hka=>?_) fun hq k hk hka=>?_
     ·rw[hget0]at hka;rcases hq k hk with g | g
      ·rw[hka]at g;cases g
      ·exact mK g
     ·rw[hget0]at hka;rcases hq k hk with g | g
      ·rw[hka]at g;cases g
      ·exact mK g)
   have hkl:=(AE (bx:=st.bx) ks st).1;have hatr:∀ p∈ps,∀ k∈p.refs,Env.at (p8 ks e1 e++e1.drop ks.length) (st.bx.length - ks.length+k)=e1.at k:=fun p hp k hk=>by have h1:=hbase p hp k hk;rw[Env.at_app,if_neg (by simp[p8,h.el];omega)];simp only[p8,nP,List.length_range,h.el,Env.at,oA,nK];congr 2;omega
   have hfin:ValOk av w' (p8 ks e1 e++e1.drop ks.length) pB (bxN ks ((DL ((yn st ks).map yC) es).map (Bx.mapR fun j=>ks.getD j 0)) 0 (yo st.bx ks st).bx++rows) v (Mx (rsJ as rs) (DL ((yn st ks).map yC) es) ks (ps.map (PV.shift (st.bx.length - ks.length)))):=by
    by_cases hbk:∃ j l,rsJ as rs=.bk j::l
    ·obtain⟨j,l,hj⟩:=hbk;have hv:=hd.v;rw[hj]at hv ⊢;simp only[nA,Id]at hv;simp only[Mx];cases hU:(DL ((yn st ks).map yC) es)[j]? with
     | none=>exact rD
     | some B=>
       rw[hU]at hv;cases B with
       | arr t z ds cc=>
         simp only at hv ⊢;have hjl:j<ks.length:=by rw[<-ul];exact(oC.1 hU).1
         have hjk:ks[j]?=some (ks.getD j 0):=by rw[oA,oF hjl];rfl
         have hmem:ks.getD j 0∈ks:=oB hjk;obtain⟨B0,g1,g2,_⟩:=hbox _ hmem;have hklt:=(oC.1 g1).1;have hatj:Env.at (p8 ks e1 e++e1.drop ks.length) (ks.getD j 0)=e1.at j:=by rw[Env.at_app,if_pos (by simp[p8,h.el];exact hklt),Ho (by rw[h.el];exact hklt),IG hnd hjk]
         refine⟨.inr ?_,trivial,fun k hk=>?_⟩
         ·rw[hv];simp only[PV.val,PV.val1,PV.cv,hatj]
         ·simp only[PV.refs,nM]at hk;subst hk;refine⟨hkpB _ hmem,?_⟩;simp only[oH,yE,hkl];omega
       | _=>exact rD
    ·have hnb:∀ j l,rsJ as rs++G7 (yn st ks)≠.bk j::l:=fun j l hc=>by
      cases hr:rsJ as rs with
      | nil=>rw[hr,nB]at hc;exact KR (yn st ks) (.bk j) (by rw[hc];simp) j rfl
      | cons s l'=>rw[hr]at hc;simp only[nA,List.cons.injEq]at hc;exact hbk ⟨j,l',by rw[hr,hc.1]⟩
     have hres:Mx (rsJ as rs) (DL ((yn st ks).map yC) es) ks (ps.map (PV.shift (st.bx.length - ks.length)))=BM (qr (rsJ as rs)) (ps.map (PV.shift (st.bx.length - ks.length))):=by
      unfold Mx;split
      ·rename_i hc;exact absurd ⟨_,_,hc⟩ hbk
      ·rfl
     have hv:=hd.v;rw[Ab hnb,Cb]at hv;rw[hres];refine⟨.inr ?_,?_,?_⟩
     ·rw[hv];exact(FF hplain hatr).symm
     ·refine Iw (fun q hq=>?_) (fun hc q hq=>by obtain⟨p,hp,rfl⟩:=oU.1 hq;exact D4 (QT.app_pk (by rw[Cb];exact hc) hq0 p (nS _ hp)));obtain⟨p,hp,rfl⟩:=oU.1 hq;have h1:=hd.ok p hp;have h2:=hplain p hp;have he:(fun b=>av b\/∃ k,k∉ks/\Lives pB e (yo st.bx ks st).bx k b)=fun b=>av b\/∃ k,k∉ks/\Lives pB e st.bx k b:=by funext b;exact propext (or_congr mf (exists_congr fun k=>and_congr mf (hlvk k b)))
      rw[he]at hgood;cases p<;>simp[PV.plainR]at h2<;>simp only[PV.shift]<;>simp only[PV.Ok]at h1 ⊢
      ·exact hgood _ h1
      ·exact⟨hgood _ h1.1,h1.2⟩
      ·exact⟨hgood _ h1.1,h1.2⟩
     ·intro k hk;obtain⟨q,hq,hkq⟩:=EE k hk;obtain⟨p,hp,rfl⟩:=oU.1 hq;obtain⟨j,hj,rfl⟩:=B3 (hplain p hp) k hkq;have h1:=(hrfs p (nS _ hp)).2.2 j hj;have h2:=hbase p hp j hj;refine⟨fun hc=>by have:=hpl _ hc;omega,?_⟩;simp only[oH,yE,hkl];omega
   exact hn v w' (p8 ks e1 e++e1.drop ks.length) _ hbel2 ⟨_,rows,_,_,rfl⟩ (yQ hR hfin hps)
end Go.Proofs.YtidiofobanefmaaGreatDoor
