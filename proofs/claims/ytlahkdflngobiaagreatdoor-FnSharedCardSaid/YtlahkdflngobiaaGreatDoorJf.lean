/- Calls that write the data that they are handed. -/
import Derived.Test.YtlahkdflngobiaaGreatDoorJq
set_option linter.unusedVariables false
set_option linter.unusedSimpArgs false
namespace Go.Proofs.YtlahkdflngobiaaGreatDoor
open Go
variable {av:Nat->Prop} {P:Program} {w0 w w':World} {e0 e:Env} {pS pS' pB pB':List Nat} {a:Act} {st st':St}
mutual
/-- every slice in it begins its block -/
def D.Flat0:D->Prop
 | .lit _=>True
 | .ag cs=>xp cs
 | .sl a _ es _=>(∀ ad,a=some ad->ad.off=0)/\xp es
 | .pt ..=>False
 | .fn ..=>False
 | .mp ..=>False
def xp:List D->Prop
 | []=>True
 | d::ds=>d.Flat0/\xp ds
end
/-- data of its own: no block twice, every slice at its block's beginning -/
structure Tree (d:D):Prop where
 nd:d.foot.Nodup
 fl:d.Flat0
structure Low (N:Nat) (d:D):Prop where
 h:∀ b∈d.foot,N<=b
structure In (T:List Nat) (d:D):Prop where
 h:∀ b∈d.foot,b∈T
/-- none of the others shares a block with it -/
structure Dis (d:D) (ds:List D):Prop where
 h:∀ x∈ds,∀ b∈d.foot,b∉x.foot
structure Once (ds:List D):Prop where
 h:(zC ds).Nodup
def zVw (d d':D):Prop:=(∃ a z es I c,d=.sl a z es c/\d'=.sl a z I c)\/(∃ cs cs',d=.ag cs/\d'=.ag cs'/\∀ c∈cs',c.isCell)
/-- what such a call has done -/
structure Mk0 (w0 w:World) (d d':D):Prop where
 size:w0.heap.size<=w.heap.size
 old:∀ b,b<w0.heap.size->b∉d.foot->w.heap[b]?=w0.heap[b]?
 fz:∀ (b:Nat) (c:Array Value) (t:TypeId) (z:Nat × Nat),(w0.heap.size<=b\/b∈d.foot)->w.heap[b]?=some (.cells c t z)->Fz z
 hd:Holds w d'
 ft:d'.foot=d.foot
 ku:KU w0 w
structure Mk (w0 w:World) (d d':D):Prop extends Mk0 w0 w d d' where
 cv:d'.cells.map D.cv=d.cells.map D.cv
 sm:zVw d d'
structure MC (P:Program) (f:FuncId) (d:D) (k:Int) (N:Nat) (R:D->Int->Nat->Prop):Prop where
 c:yW P f=true
 h : ∀ w0:World,w0.heap.size=N->GlobIs w0->(∀ b,avG b->b∉d.foot)->Holds w0 d->(∀ b∈d.foot,∃ c t,w0.heap[b]?=some (.cells c t (0,0))) ->
   Calls P f #[d.val,.int .i64 k] w0 fun en w=>match en with
    | .returned v=>∃ d' k',v=.int .i64 k'/\Mk w0 w d d'/\R d' k' w.heap.size
    | _=>False
def D.elems:D->List D
 | .sl _ _ es _=>es
 | _=>[]
def zR7:PV->Option D
 | .sv a z es c=>some (.sl a z es c)
 | .dg _ x=>some x
 | _=>none
def rW:PV->Bool
 | .any=>true
 | .int ..=>true
 | .bool ..=>true
 | .str ..=>true
 | .lit ..=>true
 | .sb ..=>true
 | .pb ..=>true
 | .sv ..=>true
 | .d ..=>true
 | .dc ..=>true
 | .dg ..=>true
 | _=>false
def zQ5:PV->Bool
 | .any=>true
 | .int ..=>true
 | .bool ..=>true
 | .str ..=>true
 | .lit ..=>true
 | .sb ..=>true
 | .pb ..=>true
 | _=>false
/-- the slots behind the call -/
def rl (ks:List Nat):Nat->List PV->List PV
 | _,[]=>[]
 | i,p::ps=>(match zQ5 p with
   | true=>p
   | false=>match ks.contains i&&rW p with
     | true=>p
     | false=>.any)::rl ks (i+1) ps
def dsL:List PV->List D
 | []=>[]
 | p::ps=>p.ds1++dsL ps
/-- the other boxes' data -/
def dsB (k:Option Nat):Nat->List Bx->Option (List D)
 | _,[]=>some []
 | i,B::bs=>match dsB k (i+1) bs with
   | none=>none
   | some ds=>match B with
     | .var cs=>match cs.all rW with
       | true=>some (dsL cs++ds)
       | false=>none
     | B => match (match k with
         | some k=>Nat.beq k i
         | none=>false) with
       | true=>some ds
       | false=>some (B.ds++ds)
def MkB (N0:Option Nat) (st:St) (d:D) (K:Prop):Prop:=match st.pin,N0 with
 | some (_,T),_=>In T d/\K
 | none,some n=>Low n d/\K
 | none,none=>False
/-- a place's data with a part made anew -/
def zQS (B:Bx) (i o:Nat) (d:D) (K:(D->Bx)->Prop):Prop:=
 match B with
 | .arr t z es c=>match z with
   | 0=>False
   | z+1=>i<es.length/\o<(es.getD i default).cells.length/\(es.getD i default).cell o=d/\Once es/\K λd'=>.arr t (z+1) (es.set i (.ag (qh o [d'] (es.getD i default).cells))) c
 | .vd x n=>match i with
   | 0=>o<x.cells.length/\x.cell o=d/\Once x.cells/\K λd'=>.vd (.ag (qh o [d'] x.cells)) n
   | _+1=>False
 | _=>False
def zUv (B:Bx) (d:D) (K:(D->Bx)->Prop):Prop:=
 match B with
 | .vd x n=>x=d/\K λd'=>.vd d' n
 | _=>False
/-- a place's data with a run of its cells made anew -/
def zVz (B:Bx) (i o m:Nat) (d:D) (K:(D->Bx)->Prop):Prop:=
 match B with
 | .vd x n=>match i with
   | 0=>match Nat.beq o 0&&Nat.beq m n with
     | true=>x=d/\K λd'=>.vd d' n
     | false=>o+m<=x.cells.length/\D.sub x o m=d/\Once x.cells/\K λd'=>.vd (.ag (qh o d'.cells x.cells)) n
   | _+1=>False
 | _=>False
def zTY (P : Program) (N0:Option Nat) (h:MkH) (o:Oper) (st:St) (K:St->Prop):Prop:=
 match o.op with
 | .call c => match c.callee,c.args.toList with
   | .value x, [y,z]=>match zQy (opd st.sl x),opd st.sl z with
     | some (f,[]),.int .i64 n=>match zR7 (opd st.sl y) with
       | none=>False
       | some d=>Tree d/\MkB N0 st d (
         let I:=rl h.keep 0 st.sl
         match h.place with
         | none=>match dsB none 0 st.bx with
           | some ds=>Dis d (dsL I++ds)/\(match h.same with
             | none=>∀ N1,st.N<=N1->MC P f d n N1 λd' J N2=>N1<=N2->K (St.put { st with sl:=I,N:=N2 } o.dst (.int .i64 J))
             | some s=>match opd st.sl (.tmp s) with
               | .sv a2 z2 es2 c2=>D.sl a2 z2 es2 c2=d/\∀ N1,st.N<=N1->MC P f d n N1 λd' J N2=>N1<=N2->K (St.put { st with sl:=I.set s (.sv a2 z2 d'.elems c2),N:=N2 } o.dst (.int .i64 J))
               | _=>False)
           | none=>False
         | some p=>match opd st.sl (.tmp p) with
           | .pb k _ i oo=>match st.bx[k]?,dsB (some k) 0 st.bx with
             | some B,some ds=>(match opd st.sl y with
               | .sv ..=>zQS B i oo d
               | .dg m _=>zVz B i oo m d
               | _=>λ_=>False) λO=>Dis d (dsL I++ds)/\∀ N1,st.N<=N1->MC P f d n N1 λd' J N2=>N1<=N2->K (St.put { st with sl:=I,bx:=st.bx.set k (O d'),N:=N2 } o.dst (.int .i64 J))
             | _,_=>False
           | _=>False)
     | _,_=>False
   | _,_=>False
 | _=>False
theorem pn {ks:List Nat}:∀ (l:List PV) (i:Nat),(rl ks i l).length=l.length
 | [],i=>rfl
 | p::l,i=>by simp [rl,pn l]
theorem zLB {ks:List Nat}:∀ (l:List PV) (i j:Nat) (q:PV),(rl ks i l)[j]?=some q->∃ p,l[j]?=some p/\(q=.any\/(q=p/\rW p=true/\∀ x∈p.ds1,x∈dsL (rl ks i l)))
 | [],i,j,q,h=>by simp [rl] at h
 | p :: l,i,j,q,h=>by
   cases j with
   | zero=>
     simp only [rl,mb,o4] at h
     refine ⟨p,rfl,?_⟩
     cases I:zQ5 p with
     | true=>
       rw [I] at h
       refine .inr ⟨h.symm,by cases p<;>simp [zQ5] at I<;>rfl,λx J=>?_⟩
       cases p<;>simp [zQ5] at I<;>simp [PV.ds1] at J
     | false=>
       rw [I] at h
       cases hc:(ks.contains i&&rW p) with
       | true=>
         rw [hc] at h
         simp only [oL] at hc
         refine .inr ⟨h.symm,hc.2,λx J=>?_⟩
         simp only [rl,I,hc.1,hc.2,Bool.and_self,dsL]
         exact oY _ J
       | false=>rw [hc] at h;exact .inl h.symm
   | succ j=>
     simp only [rl,nA] at h ⊢
     obtain ⟨O,h1,h2⟩:=zLB l (i+1) j q h
     refine ⟨O,h1,h2.imp id λ⟨h3,h4,h5⟩=>⟨h3,h4,λx J=>?_⟩⟩
     simp only [dsL]
     exact ow _ (h5 x J)
theorem zTv {l:List PV} {p:PV} (hp:p∈l):∀ x∈p.ds1,x∈dsL l:=by
 induction l with
 | nil=>simp at hp
 | cons q l J=>
   intro x I
   simp only [dsL]
   rcases oH.1 hp with rfl | hp
   ·exact oY _ I
   ·exact ow _ (J hp x I)
theorem zIY {k:Option Nat}:∀ (l:List Bx) (i:Nat) (ds:List D),dsB k i l=some ds->∀ (j:Nat) (B:Bx),l[j]?=some B ->
  (∃ cs,B=.var cs/\(∀ p∈cs,rW p=true)/\∀ p∈cs,∀ x∈p.ds1,x∈ds)\/((∀ cs,B≠.var cs)/\(k=some (i+j)\/∀ x∈B.ds,x∈ds))
 | [],i,ds,h,j,B,I=>by simp at I
 | C :: l,i,ds,h,j,B,I=>by
   simp only [dsB] at h
   split at h
   ·cases h
   ·rename_i J ac
    have tail:∀ j,l[j]?=some B->(∃ cs,B=.var cs/\(∀ p∈cs,rW p=true)/\∀ p∈cs,∀ x∈p.ds1,x∈J)\/((∀ cs,B≠.var cs)/\(k=some (i+(j+1))\/∀ x∈B.ds,x∈J)):=λj I=>by
     have:=zIY l (i+1) J ac j B I
     rwa [show i+1+j=i+(j+1) by omega] at this
    have up:(∀ x∈J,x∈ds)->∀ j,l[j]?=some B->(∃ cs,B=.var cs/\(∀ p∈cs,rW p=true)/\∀ p∈cs,∀ x∈p.ds1,x∈ds)\/((∀ cs,B≠.var cs)/\(k=some (i+(j+1))\/∀ x∈B.ds,x∈ds)):=λaa j I=>by
     rcases tail j I with ⟨cs,h1,h2,h3⟩ | ⟨h1,h2⟩
     ·exact .inl ⟨cs,h1,h2,λp hp x O=>aa x (h3 p hp x O)⟩
     ·exact .inr ⟨h1,h2.imp id λh3 x O=>aa x (h3 x O)⟩
    have other:(∀ cs,C≠.var cs)->(match (match k with
      | some k=>Nat.beq k i
      | none=>false) with
     | true=>some J
     | false=>some (C.ds++J))=some ds->(∃ cs,B=.var cs/\(∀ p∈cs,rW p=true)/\∀ p∈cs,∀ x∈p.ds1,x∈ds)\/((∀ cs,B≠.var cs)/\(k=some (i+j)\/∀ x∈B.ds,x∈ds)):=λhC h=>by
     split at h
     ·rename_i hk
      cases h
      cases j with
      | zero=>
        simp at I;subst I
        refine .inr ⟨hC,.inl ?_⟩
        cases k with
        | none=>cases hk
        | some k=>simp at hk;simp [hk]
      | succ j=>exact up (λ_=>id) j (by simpa using I)
     ·cases h
      cases j with
      | zero=>simp at I;subst I;exact .inr ⟨hC,.inr λx O=>oY _ O⟩
      | succ j=>exact up (λx O=>ow _ O) j (by simpa using I)
    cases C with
    | var cs=>
      simp only at h
      split at h
      ·rename_i ab
       cases h
       cases j with
       | zero=>
         simp at I;subst I
         exact .inl ⟨cs,rfl,λp hp=>oT.1 ab p hp,λp hp x O=>oY _ (zTv hp x O)⟩
       | succ j=>exact up (λx O=>ow _ O) j (by simpa using I)
      ·cases h
    | vd x n=>exact other (by simp) h
    | arr t z es c=>exact other (by simp) h
    | gone=>exact other (by simp) h
theorem Good.apart {F:List Nat} {live:Nat->Prop} (hold:∀ b,b<w.heap.size->b∉F->w'.heap[b]?=w.heap[b]?) {x:D} (h:Good w live x) (J:∀ b∈x.foot,b∉F):Good w' live x:=
 ⟨h.1.mono λb I=>hold b (h.1.lt b I) (J b I),h.2⟩
theorem zNY {F:List Nat} {live:Nat->Prop} (hold:∀ b,b<w.heap.size->b∉F->w'.heap[b]?=w.heap[b]?) {p:PV} (J:rW p=true) (h:p.Ok w live) (I:∀ x∈p.ds1,∀ b∈x.foot,b∉F):p.Ok w' live:=by
 cases p<;>simp [rW] at J<;>simp only [PV.Ok] at h ⊢<;>simp only [PV.ds1] at I
 ·exact h
 ·exact h.apart hold (I _ (by simp))
 ·exact h.apart hold (I _ (by simp))
 ·exact ⟨h.1.apart hold (I _ (by simp)),h.2⟩
 ·exact ⟨h.1.apart hold (I _ (by simp)),h.2⟩
theorem zGH:∀ {es:List D},xp es->∀ d∈es,d.Flat0
 | _::_,h,d,hd=>by
   rcases oH.1 hd with rfl | hd
   ·exact h.1
   ·exact zGH h.2 d hd
theorem Holds.block {w:World} {d:D} (h:Holds w d):d.Flat0->∀ b∈d.foot,∃ c t z,w.heap[b]?=some (.cells c t z):=by
 induction h with
 | lit=>simp [D.foot]
 | ag _ ih=>
   intro I b hb
   simp only [D.foot] at hb
   obtain ⟨c,hc,J⟩:=zH.1 hb
   exact ih c hc (zGH I c hc) b J
 | nil=>simp [D.foot,zC]
 | @sl ad z es cap h1 h2 h3 _ h5 ih=>
   intro I b hb
   by_cases O:es=[]
   ·subst O;simp [D.foot] at hb
   ·have hf:(D.sl (some ad) z es cap).foot=ad.block::zC es:=by simp [D.foot,O]
    rw [hf] at hb
    rcases oH.1 hb with rfl | hb
    ·rcases h5 with h5 | ⟨c,t,fz,h6,_⟩
     ·exfalso
      have:=zh h3
      rw [h5] at this
      have hp:=zBr z
      have h0:0<es.length:=oS.2 O
      have:=Nat.mul_pos h0 hp
      simp at *;omega
     ·exact ⟨c,t,fz,h6⟩
    ·obtain ⟨c,hc,J⟩:=zH.1 hb
     exact ih c hc (zGH I.2 c hc) b J
 | pt=>exact λh=>h.elim
 | fn=>exact λh=>h.elim
 | mp=>exact λh=>h.elim
structure BAft (w':World) (e:Env) (live:Nat->Prop) (at_:Option Nat) (B B':Bx):Prop where
 g:B'=.gone↔B=.gone
 rf:B'.refs=B.refs
 rel:B'.Rel w' e at_
 ok:B'.Ok w' live
/-- behind a call that has written the data d -/
theorem zLH (h:Rel av w0 e0 [] [] a w e st) {d d':D} (hm:Mk0 w w' d d') (hb:∀ b∈d.foot,w0.heap.size<=b\/some b∈e0) {ae:List PV} {O:List Bx}
  (aj:ae.length<=st.sl.length) (ah:O.length=st.bx.length)
  (ai:∀ (i:Nat) (q:PV),ae[i]?=some q->∃ p,st.sl[i]?=some p/\(q=.any\/(q=p/\rW p=true/\∀ x∈p.ds1,∀ b∈x.foot,b∉d.foot)))
  (ab:∀ (k:Nat) (B':Bx),O[k]?=some B'->∃ B,st.bx[k]?=some B/\BAft w' e (zW av [] e st.bx) (e.at k) B B') :
  Rel av w0 e0 [] [] a w' e { st with sl:=ae,bx:=O,N:=w'.heap.size }:=by
 have I:∀ k b,Lives [] e O k b->Lives [] e st.bx k b:=λk b ⟨h1,h2,B',h3,h4⟩=>by
  obtain ⟨B,h5,h6⟩:=ab k B' h3
  exact ⟨h1,h2,B,h5,λhc=>h4 (h6.g.2 hc)⟩
 have aa:∀ b,zW av [] e O b->zW av [] e st.bx b:=λb hl=>hl.imp id λ⟨k,J⟩=>⟨k,I k b J⟩
 exact {
  el:=h.el.trans ah.symm
  br:=λk B' J _=>by obtain ⟨B,_,h6⟩:=ab k B' J;exact h6.rel
  bo:=λk B' J _=>by
   obtain ⟨B,_,h6⟩:=ab k B' J
   exact h6.ok.mono (λ_ _ _=>rfl) (oB _) λb _=>aa b
  bf:=λk B' J _ j hj=>by
   obtain ⟨B,h5,h6⟩:=ab k B' J
   rw [h6.rf] at hj
   have:=h.bf k B h5 (by simp) j hj
   exact ⟨by simp,by show j<O.length;rw [ah];exact this.2⟩
  inj:=λk j b J hj=>h.inj k j b (I k b J) (I j b hj)
  ku:=h.ku.trans hm.ku
  size:=oZ h.size hm.size
  old:=λb ac hn=>by
   rw [hm.old b (o5 ac h.size) (λhc=>by
    rcases hb b hc with h1 | h1
    ·omega
    ·exact hn h1)]
   exact h.old b ac hn
  fz:=λb c t z ac hc=>by
   by_cases ak:b<w.heap.size
   ·by_cases hf:b∈d.foot
    ·exact hm.fz b c t z (.inr hf) hc
    ·rw [hm.old b ak hf] at hc;exact h.fz b c t z ac hc
   ·exact hm.fz b c t z (.inl (by omega)) hc
  nd:=h.nd
  sz:=oZ aj h.sz
  hN:=oB _
  hs:=λi q hi _=>by
   obtain ⟨p,h1,h2 | ⟨rfl,h3,h4⟩⟩:=ai i q hi
   ·exact .inl h2
   ·exact h.hs i q h1 (by simp)
  so:=λi q hi _=>by
   obtain ⟨p,h1,h2 | ⟨rfl,h3,h4⟩⟩:=ai i q hi
   ·subst h2;trivial
   ·exact PV.Ok.mono (λ_ _ _=>rfl) (oB _) (λb _=>aa b) q (zNY hm.old h3 (h.so i q h1 (by simp)) h4)
  sr:=λi q hi _ k J=>by
   obtain ⟨p,h1,h2 | ⟨rfl,h3,h4⟩⟩:=ai i q hi
   ·subst h2;simp [PV.refs] at J
   ·have:=h.sr i q h1 (by simp) k J
    exact ⟨by simp,by show k<O.length;rw [ah];exact this.2⟩
  own:=λk b J=>h.own k b (I k b J)
  avl:=h.avl
  avn:=λk b J=>h.avn k b (I k b J)
  pin:=h.pin
  pit:=h.pit }
/-- a box that the call has left alone -/
theorem zNu (h:Rel av w0 e0 [] [] a w e st) {d d':D} (hg:Good w (zW av [] e st.bx) d) (hm:Mk0 w w' d d') {k:Nat} {B:Bx} (hk:st.bx[k]?=some B)
  (I:(∃ cs,B=.var cs/\(∀ p∈cs,rW p=true)/\∀ p∈cs,∀ x∈p.ds1,∀ b∈x.foot,b∉d.foot)\/((∀ cs,B≠.var cs)/\∀ x∈B.ds,∀ b∈x.foot,b∉d.foot)):BAft w' e (zW av [] e st.bx) (e.at k) B B:=by
 refine ⟨mw,rfl,?_,?_⟩
 ·by_cases O:B=.gone
  ·subst O;exact True.intro
  ·refine (h.br k B hk (by simp)).congr (λb hb=>?_) λ_ _=>rfl
   have hl:Lives [] e st.bx k b:=⟨by simp,hb,B,hk,O⟩
   exact hm.old b (Lives.lt h.toMem hl) λhc=>hg.2 b hc (.inr ⟨k,hl⟩)
 ·have ho:=h.bo k B hk (by simp)
  cases B with
  | var cs=>
    rcases I with ⟨cs',J,h2,h3⟩ | ⟨J,_⟩
    ·cases J
     have aa:=ho.1
     rw [PV.OkL_iff] at aa
     exact ⟨PV.OkL_iff.2 λp I=>zNY hm.old (h2 p I) (aa p I) (h3 p I),ho.2⟩
    ·exact absurd rfl (J cs)
  | vd x n=>
    rcases I with ⟨cs',J,_⟩ | ⟨_,h2⟩
    ·cases J
    ·exact Good.apart hm.old ho (h2 x (by simp [Bx.ds]))
  | arr t z es c=>
    rcases I with ⟨cs',J,_⟩ | ⟨_,h2⟩
    ·cases J
    ·intro x hx
     refine Good.apart hm.old (ho x hx) λb hb=>h2 (.ag es) (by simp [Bx.ds]) b ?_
     simp only [D.foot];exact zH.2 ⟨x,hx,hb⟩
  | gone=>exact True.intro
theorem zDY {l1 l2:List D} {d:D} (h:(zC (l1++d::l2)).Nodup):(∀ x∈l1,∀ b∈x.foot,b∉d.foot)/\∀ x∈l2,∀ b∈x.foot,b∉d.foot:=by
 rw [zE] at h
 simp only [zC] at h
 rw [oq] at h
 obtain ⟨h1,O,h3⟩:=h
 rw [oq] at O
 refine ⟨λx I b J hc=>h3 b (zH.2 ⟨x,I,J⟩) b (oY _ hc) rfl,λx I b J hc=>O.2.2 b hc b (zH.2 ⟨x,I,J⟩) rfl⟩
theorem rG {α:Type} {l:List α} {i:Nat} {x:α} (h:l[i]?=some x):l=l.take i++x::l.drop (i+1):=by
 have I:=(oD.1 h).1
 have J:=(oD.1 h).2
 rw [<-J]
 simp
theorem zNr {cs:List D} {o:Nat} {d d':D} (hd:cs[o]?=some d) (I:d'.cv=d.cv):(qh o [d'] cs).map D.cv=cs.map D.cv:=by
 conv=>rhs;rw [rG hd]
 simp [qh,I]
theorem zQC {d d':D} (hs:zVw d d') (hc:d.isCell):d'.isCell/\(d'.cells.map D.cv=d.cells.map D.cv->d'.cv=d.cv):=by
 rcases hs with ⟨a,z,es,I,c,rfl,rfl⟩ | ⟨cs,cs',rfl,rfl,_⟩
 ·exact ⟨trivial,λh=>by simpa [D.cells] using h⟩
 ·exact hc.elim
theorem zFH {d d':D} {live:Nat->Prop} (J:Good w live d) (I:Mk0 w w' d d'):Good w' live d':=⟨I.hd,λb O=>J.2 b (I.ft ▸ O)⟩
theorem zFz (h:Rel av w0 e0 [] [] a w e st) {d d':D} (hg:Good w (zW av [] e st.bx) d) (hm:Mk w w' d d') (ao:d.isCell) {k i o:Nat} {B:Bx} {K:(D->Bx)->Prop} (hk:st.bx[k]?=some B) (hr:zQS B i o d K) :
  ∃ au,K au/\BAft w' e (zW av [] e st.bx) (e.at k) B (au d'):=by
 obtain ⟨aw,ah⟩:=zQC hm.sm ao
 have ah:=ah hm.cv
 have ax:=zFH hg hm.toMk0
 have aq:=h.br k B hk (by simp)
 have ai:=h.bo k B hk (by simp)
 have al:∀ b,e.at k=some b->B≠.gone->w'.heap[b]?=w.heap[b]?:=λb O a8=>by
  have hl:Lives [] e st.bx k b:=⟨by simp,O,B,hk,a8⟩
  exact hm.old b (Lives.lt h.toMem hl) λhc=>hg.2 b hc (.inr ⟨k,hl⟩)
 cases B with
 | var cs=>exact hr.elim
 | gone=>exact hr.elim
 | vd x n=>
   cases i with
   | succ i=>exact hr.elim
   | zero=>
     obtain ⟨ho,hd,aa,hK⟩:=hr
     refine ⟨_,hK,by simp,rfl,?_,?_⟩
     ·obtain ⟨b,c,t,h1,h2,h3,h4,h5⟩:=aq
      obtain ⟨cs,rfl,hl,ae⟩:=h4
      have ab:cs[o]?=some d:=by rw [<-hd];simp only [D.cells] at ho;simp [D.cell,D.cells,oA,oF ho]
      have J:=zNr ab ah
      refine ⟨b,c,t,h1,(al b h1 (by simp)).trans h2,h3,⟨_,rfl,?_,λy hy=>?_⟩,λj u hu=>?_⟩
      ·have:=nL List.length J;simpa [hl,D.cells] using this
      ·simp only [D.cells,qh,oG,oR] at hy
       rcases hy with (hy | rfl) | hy
       ·exact ae y (oX hy)
       ·exact aw
       ·exact ae y (oa hy)
      ·simp only [D.cells] at hu
       have hj:((qh o [d'] cs).map D.cv)[j]?=some u.cv:=by rw [oI,hu];rfl
       rw [J,oI] at hj
       cases ac:cs[j]? with
       | none=>rw [ac] at hj;simp at hj
       | some v=>rw [ac] at hj;simp at hj;rw [<-hj];exact h5 j v ac
     ·show Good w' _ _
      obtain ⟨b,c,t,h1,h2,h3,h4,h5⟩:=aq
      obtain ⟨cs,rfl,hl,ae⟩:=h4
      have ab:cs[o]?=some d:=by rw [<-hd];simp only [D.cells] at ho;simp [D.cell,D.cells,oA,oF ho]
      have I:(zC cs).Nodup:=aa.h
      rw [rG ab] at I
      obtain ⟨s1,s2⟩:=zDY I
      have ay:∀ y∈cs,Good w (zW av [] e st.bx) y:=λy hy=>Good.part ai hy
      refine Good.ag λy hy=>?_
      simp only [D.cells,qh,oG,oR] at hy
      rcases hy with (hy | rfl) | hy
      ·exact Good.apart hm.old (ay y (oX hy)) λb O=>s1 y hy b O
      ·exact ax
      ·exact Good.apart hm.old (ay y (oa hy)) λb O=>s2 y hy b O
 | arr t z es c=>
   cases z with
   | zero=>exact hr.elim
   | succ z=>
     obtain ⟨hi,ho,hd,aa,hK⟩:=hr
     have aj:es[i]?=some (es.getD i default):=by simp [oA,oF hi]
     rcases aq with ⟨_,h2,_⟩ | ⟨b,cc,h1,h2,h3,h4,h5,h6,h7⟩
     ·subst h2;simp at hi
     generalize he:es.getD i default=x at *
     have az:=h6 x (oC aj)
     simp only [eOk,Nat.add_one_ne_zero,ni] at az
     obtain ⟨cs,rfl,hl,ae⟩:=az
     simp only [D.cells] at ho hK
     have ab:cs[o]?=some d:=by rw [<-hd];simp [D.cell,D.cells,oA,oF ho]
     have J:=zNr ab ah
     have ak:∀ y∈qh o [d'] cs,y.isCell:=λy hy=>by
      simp only [qh,oG,oR] at hy
      rcases hy with (hy | rfl) | hy
      ·exact ae y (oX hy)
      ·exact aw
      ·exact ae y (oa hy)
     have hlen:(qh o [d'] cs).length=z+1:=by have:=nL List.length J;simpa [hl] using this
     have ba:(yZ (es.set i (.ag (qh o [d'] cs)))).map D.cv=(yZ es).map D.cv:=by
      conv=>rhs;rw [rG aj]
      rw [lC,if_pos hi]
      simp [xh,ud,D.cells,J]
     refine ⟨_,hK,by simp,rfl,.inr ⟨b,cc,h1,(al b h1 (by simp)).trans h2,h3,by simpa using h4,h5,λy hy=>?_,λj u hu=>?_⟩,λy hy=>?_⟩
     ·rcases mt hy with hy | rfl
      ·exact h6 y hy
      ·simp only [eOk,Nat.add_one_ne_zero,ni];exact ⟨_,rfl,hlen,ak⟩
     ·have hj:((yZ (es.set i (.ag (qh o [d'] cs)))).map D.cv)[j]?=some u.cv:=by rw [oI,hu];rfl
      rw [ba,oI] at hj
      cases ac:(yZ es)[j]? with
      | none=>rw [ac] at hj;simp at hj
      | some v=>rw [ac] at hj;simp at hj;rw [<-hj];exact h7 j v ac
     ·have I:(zC es).Nodup:=aa.h
      rw [rG aj] at I
      obtain ⟨s1,s2⟩:=zDY I
      have a6:(zC cs).Nodup:=by
       rw [zE] at I
       simp only [zC,D.foot] at I
       rw [oq] at I
       have:=I.2.1
       rw [oq] at this
       exact this.1
      rw [rG ab] at a6
      obtain ⟨r1,r2⟩:=zDY a6
      have am:∀ b∈d.foot,b∈(D.ag cs).foot:=λb O=>by simp only [D.foot];exact zH.2 ⟨d,oC ab,O⟩
      rw [lC,if_pos hi] at hy
      rcases oG.1 hy with hy | hy
      ·exact Good.apart hm.old (ai y (oX hy)) λb O hc=>s1 y hy b O (am b hc)
      ·rcases oH.1 hy with rfl | hy
       ·have a7:=ai (.ag cs) (oC aj)
        refine Good.ag λq hq=>?_
        simp only [qh,oG,oR] at hq
        rcases hq with (hq | rfl) | hq
        ·exact Good.apart hm.old (a7.part (oX hq)) λb O=>r1 q hq b O
        ·exact ax
        ·exact Good.apart hm.old (a7.part (oa hq)) λb O=>r2 q hq b O
       ·exact Good.apart hm.old (ai y (oa hy)) λb O hc=>s2 y hy b O (am b hc)
variable {av:Nat->Prop} {P:Program} {w0 w w':World} {e0 e:Env} {pS pS' pB pB':List Nat} {a:Act} {st st':St}
theorem zP6 (h:Rel av w0 e0 [] [] a w e st) {d d':D} (hg:Good w (zW av [] e st.bx) d) (hm:Mk w w' d d') {k:Nat} {B:Bx} {K:(D->Bx)->Prop} (hk:st.bx[k]?=some B) (hr:zUv B d K) :
  ∃ aa,K aa/\BAft w' e (zW av [] e st.bx) (e.at k) B (aa d'):=by
 have ac:=h.br k B hk (by simp)
 cases B with
 | vd x n=>
   obtain ⟨rfl,hK⟩:=hr
   obtain ⟨b,c,t,h1,h2,h3,h4,h5⟩:=ac
   have ab:w'.heap[b]?=w.heap[b]?:=by
    have hl:Lives [] e st.bx k b:=⟨by simp,h1,_,hk,by simp⟩
    exact hm.old b (Lives.lt h.toMem hl) λhc=>hg.2 b hc (.inr ⟨k,hl⟩)
   obtain ⟨cs,rfl,hl,ae⟩:=h4
   rcases hm.sm with ⟨_,_,_,_,_,h6,_⟩ | ⟨ah,cs',h6,h7,h8⟩
   ·cases h6
   ·cases h6;subst h7
    have I:=hm.cv
    simp only [D.cells] at I
    refine ⟨_,hK,by simp,rfl,⟨b,c,t,h1,ab.trans h2,h3,⟨cs',rfl,?_,h8⟩,λj u hu=>?_⟩,zFH hg hm.toMk0⟩
    ·have:=nL List.length I;simpa [hl] using this
    ·simp only [D.cells] at hu
     have O:(cs'.map D.cv)[j]?=some u.cv:=by rw [oI,hu];rfl
     rw [I,oI] at O
     cases J:cs[j]? with
     | none=>rw [J] at O;simp at O
     | some v=>rw [J] at O;simp at O;rw [<-O];exact h5 j v J
 | var cs=>exact hr.elim
 | arr t z es c=>exact hr.elim
 | gone=>exact hr.elim
theorem zOS {a b c:List D} (h:(zC (a++(b++c))).Nodup):(∀ y∈a,∀ x∈y.foot,x∉zC b)/\∀ y∈c,∀ x∈y.foot,x∉zC b:=by
 rw [zE,zE,oq,oq] at h
 obtain ⟨_,⟨_,_,h1⟩,h2⟩:=h
 refine ⟨λy I x J O=>h2 x (zH.2 ⟨y,I,J⟩) x (oY _ O) rfl,λy I x J O=>h1 x O x (zH.2 ⟨y,I,J⟩) rfl⟩
theorem zS3 (h:Rel av w0 e0 [] [] a w e st) {o m n:Nat} {x d d':D} (hg:Good w (zW av [] e st.bx) d) (hm:Mk w w' d d') {k:Nat} (hk:st.bx[k]?=some (.vd x n)) (ho:o+m<=x.cells.length) (hd:D.sub x o m=d) (J:Once x.cells) :
  BAft w' e (zW av [] e st.bx) (e.at k) (.vd x n) (.vd (.ag (qh o d'.cells x.cells)) n):=by
 have am:=h.br k _ hk (by simp)
 have ao:=h.bo k _ hk (by simp)
 have aq:=zFH hg hm.toMk0
 obtain ⟨b,c,t,h1,h2,h3,h4,h5⟩:=am
 have ah:w'.heap[b]?=w.heap[b]?:=by
  have hl:Lives [] e st.bx k b:=⟨by simp,h1,_,hk,by simp⟩
  exact hm.old b (Lives.lt h.toMem hl) λhc=>hg.2 b hc (.inr ⟨k,hl⟩)
 obtain ⟨cs,rfl,hl,ai⟩:=h4
 simp only [D.cells] at ho J
 subst hd
 rcases hm.sm with ⟨_,_,_,_,_,h6,_⟩ | ⟨au,cs',h6,h7,h8⟩
 ·cases h6
 subst h7
 have ac:=hm.cv
 simp only [D.sub,D.cells] at ac
 have hlen:cs'.length=m:=by
  have:=nL List.length ac
  simp at this
  omega
 have I:cs=cs.take o++((cs.drop o).take m++cs.drop (o+m)):=by
  conv=>lhs;rw [<-nJ o cs,<-nJ m (cs.drop o),List.drop_drop]
 have O:qh o cs' cs=cs.take o++(cs'++cs.drop (o+m)):=by simp [qh,hlen]
 have aa:(qh o cs' cs).map D.cv=cs.map D.cv:=by
  rw [O]
  conv=>rhs;rw [I]
  simp only [nW,ac]
 have ab:∀ y∈qh o cs' cs,y∈cs.take o\/y∈cs'\/y∈cs.drop (o+m):=λy hy=>by
  rw [O] at hy
  simpa using hy
 have aj:(zC cs).Nodup:=J.h
 rw [I] at aj
 obtain ⟨s1,s2⟩:=zOS aj
 refine ⟨by simp,rfl,⟨b,c,t,h1,ah.trans h2,h3,⟨_,rfl,?_,λy hy=>?_⟩,λj u hu=>?_⟩,?_⟩
 ·have:=nL List.length aa;simpa [hl,D.cells] using this
 ·rcases ab y hy with hy | hy | hy
  ·exact ai y (oX hy)
  ·exact h8 y hy
  ·exact ai y (oa hy)
 ·simp only [D.cells] at hu
  have hj:((qh o cs' cs).map D.cv)[j]?=some u.cv:=by rw [oI,hu];rfl
  rw [aa,oI] at hj
  cases ae:cs[j]? with
  | none=>rw [ae] at hj;simp at hj
  | some v=>rw [ae] at hj;simp at hj;rw [<-hj];exact h5 j v ae
 ·show Good w' _ _
  have ak:∀ y∈cs,Good w (zW av [] e st.bx) y:=λy hy=>Good.part ao hy
  have al:(D.sub (.ag cs) o m).foot=zC ((cs.drop o).take m):=by simp only [D.sub,D.cells,D.foot]
  refine Good.ag λy hy=>?_
  rcases ab y hy with hy | hy | hy
  ·exact Good.apart hm.old (ak y (oX hy)) λb hb=>by rw [al];exact s1 y hy b hb
  ·exact Good.part aq hy
  ·exact Good.apart hm.old (ak y (oa hy)) λb hb=>by rw [al];exact s2 y hy b hb
theorem zOq {p:PV} {d:D} {v:Value} {bx:List Bx} (I:ValOk av w e pB bx v p) (h:zR7 p=some d):v=d.val/\Good w (zW av pB e bx) d:=by
 cases p<;>simp [zR7] at h
 ·subst h;exact ⟨I.1.resolve_left (by simp),I.2.1⟩
 ·subst h;exact ⟨I.1.resolve_left (by simp),I.2.1.1⟩
theorem zRC (h:Rel av w0 e0 [] [] a w e st) {N0:Option Nat} (I:NOk N0 w0) {d:D} {K:Prop} (hs:MkB N0 st d K):K/\∀ b∈d.foot,w0.heap.size<=b\/some b∈e0:=by
 unfold MkB at hs
 split at hs
 ·rename_i b T O
  exact ⟨hs.2,λx J=>.inr (h.pit b T O x (hs.1.h x J))⟩
 ·rename_i n O
  obtain rfl:=I _ rfl
  exact ⟨hs.2,λx J=>.inl (hs.1.h x J)⟩
 ·exact hs.elim
/-- a slot is told anew -/
theorem zSd (h:Rel av w0 e0 [] [] a w e st) {s:Nat} {q:PV} (O:ValOk av w e [] st.bx (a.tmps.getD s undef) q):Rel av w0 e0 [] [] a w e { st with sl:=st.sl.set s q }:=by
 have I:∀ (i:Nat) (p:PV),(st.sl.set s q)[i]?=some p->(i=s/\p=q)\/st.sl[i]?=some p:=λi p hi=>by
  rw [nZ] at hi
  split at hi
  ·rename_i aa
   split at hi
   ·simp at hi;exact .inl ⟨aa.symm,hi.symm⟩
   ·cases hi
  ·exact .inr hi
 exact { h with
  sz:=by simpa using h.sz
  hs:=λi p hi J=>by
   rcases I i p hi with ⟨rfl,rfl⟩ | hi
   ·exact O.1
   ·exact h.hs i p hi J
  so:=λi p hi J=>by
   rcases I i p hi with ⟨rfl,rfl⟩ | hi
   ·exact O.2.1
   ·exact h.so i p hi J
  sr:=λi p hi J=>by
   rcases I i p hi with ⟨rfl,rfl⟩ | hi
   ·exact O.2.2
   ·exact h.sr i p hi J }
theorem zOB (h:Rel av w0 e0 [] [] a w e st) {N0:Option Nat} (a6:NOk N0 w0) {mh:MkH} {o:Oper} {K:St->Prop} (hs:zTY P N0 mh o st K) {next:Act->World->Prop} {Q:Exit->Act->World->Prop}
  (hn:∀ v w' e' st',K st'->st.bx.length<=st'.bx.length->Rel av w0 e0 [] [] (a.put o.dst v) w' e' st'->next (a.put o.dst v) w'):o.wp P a w next Q:=by
 unfold zTY at hs
 split at hs
 rotate_left
 ·exact hs.elim
 rename_i c aq
 split at hs
 rotate_left
 ·exact hs.elim
 rename_i x y z hc ah
 split at hs
 rotate_left
 ·exact hs.elim
 rename_i f n hf hz
 split at hs
 ·exact hs.elim
 rename_i d hd
 obtain ⟨ai,hs⟩:=hs
 obtain ⟨hs,aa⟩:=zRC h a6 hs
 have ox:=tP (xZ h (x:=x) (by simp)).valOk hf
 have a7:a.eval x=.func (.func f) #[] #[]:=ox.1.resolve_left (by simp)
 obtain ⟨a8,hg⟩:=zOq (xZ h (x:=y) (by simp)).valOk hd
 have ba:a.eval z=.int .i64 n:=by
  have:=(xZ h (x:=z) (by simp)).h.resolve_left (by rw [hz];simp)
  rw [this,hz];rfl
 have ea:c.args=#[y,z]:=by rw [<-nE,ah]
 have au:yW P f=true->(execOp a.eval o).run P w=.ok (.enter f #[d.val,.int .i64 n]) w:=λbb=>by
  obtain ⟨dst,op,ty,pos,after,guard⟩:=o
  simp only at aq
  subst aq
  simp only [execOp,resolve,hc,Deferred.ofValue,a7,invoke]
  simp [zCC bb,ea,a8,ba]
 have aw:∀ b∈d.foot,∃ c t,w.heap[b]?=some (.cells c t (0,0)):=λb hb=>by
  obtain ⟨c,t,zz,h1⟩:=hg.1.block ai.fl b hb
  have:zz=(0,0):=h.fz b c t zz (aa b hb) h1
  subst this
  exact ⟨c,t,h1⟩
 -- the call itself
 have go:∀ (R:D->Int->Nat->Prop),MC P f d n w.heap.size R ->
   (∀ d' n' w',Mk w w' d d'->R d' n' w'.heap.size->∃ e' st',K st'/\st.bx.length<=st'.bx.length/\Rel av w0 e0 [] [] (a.put o.dst (.int .i64 n')) w' e' st')->o.wp P a w next Q:=λR hR hk=>by
  unfold Oper.wp
  rw [au hR.c,Oper.upon_enter]
  refine (hR.h w rfl h.glob (λb hb hc=>by
   rcases aa b hc with h1 | h1
   ·have:=h.avl.lt b (h.avl.ga b hb);omega
   ·exact h.avl.ge b hb h1) hg.1 aw).mono λen w' aj=>?_
  cases en with
  | panicked=>exact aj.elim
  | outgrown=>exact aj.elim
  | returned v=>
    obtain ⟨d',n',rfl,O,hr⟩:=aj
    obtain ⟨e',st',h1,h2,h3⟩:=hk d' n' w' O hr
    exact hn _ w' e' st' h1 h2 h3
 have ab:∀ ds:List D,Dis d (dsL (rl mh.keep 0 st.sl)++ds)->∀ (i:Nat) (q:PV),(rl mh.keep 0 st.sl)[i]?=some q->∃ p,st.sl[i]?=some p/\(q=.any\/(q=p/\rW p=true/\∀ x∈p.ds1,∀ b∈x.foot,b∉d.foot)):=λds J i q hq=>by
  obtain ⟨p,h1,h2⟩:=zLB _ _ _ _ hq
  exact ⟨p,h1,h2.imp id λ⟨h3,h4,h5⟩=>⟨h3,h4,λx hx b hb hc=>J.h x (oY _ (h5 x hx)) b hc hb⟩⟩
 have fin:∀ (ak:List PV) (al:List Bx) (w':World) (n':Int),Rel av w0 e0 [] [] a w' e { st with sl:=ak,bx:=al,N:=w'.heap.size } ->
  Rel av w0 e0 [] [] (a.put o.dst (.int .i64 n')) w' e (St.put { st with sl:=ak,bx:=al,N:=w'.heap.size } o.dst (.int .i64 n')):=λak al w' n' hr=>xz hr z7 λi hi _=>hi
 have ac:∀ (s:St) (p:PV),(s.put o.dst p).bx=s.bx:=λs p=>by cases o.dst<;>rfl
 simp only at hs
 split at hs
 ·-- what is written is not looked at again
  split at hs
  rotate_left
  ·exact hs.elim
  rename_i ds am
  obtain ⟨J,hs⟩:=hs
  have ax:∀ (w':World) (d':D),Mk w w' d d'->Rel av w0 e0 [] [] a w' e { st with sl:=rl mh.keep 0 st.sl,bx:=st.bx,N:=w'.heap.size }:=λw' d' O=>by
   refine zLH h O.toMk0 aa (by rw [pn];exact oB _) rfl (ab ds J) λk B hk=>⟨B,hk,zNu h hg O.toMk0 hk ?_⟩
   rcases zIY _ _ _ am k B hk with ⟨cs,h1,h2,h3⟩ | ⟨h1,h2 | h2⟩
   ·exact .inl ⟨cs,h1,h2,λp hp x hx b hb hc=>J.h x (ow _ (h3 p hp x hx)) b hc hb⟩
   ·cases h2
   ·exact .inr ⟨h1,λx hx b hb hc=>J.h x (ow _ (h2 x hx)) b hc hb⟩
  split at hs
  ·refine go _ (hs w.heap.size h.hN) λd' n' w' O hr=>⟨e,_,hr O.size,by rw [ac];exact oB _,?_⟩
   exact fin _ st.bx w' n' (ax w' d' O)
  ·rename_i s bc
   split at hs
   rotate_left
   ·exact hs.elim
   rename_i a2 z2 es2 c2 ay
   obtain ⟨bd,hs⟩:=hs
   subst bd
   refine go _ (hs w.heap.size h.hN) λd' n' w' O hr=>⟨e,_,hr O.size,by rw [ac];exact oB _,?_⟩
   refine fin _ st.bx w' n' (zSd (ax w' d' O) ?_)
   have hv:=(xZ h (x:=.tmp s) (by simp)).h.resolve_left (by rw [ay];simp)
   rw [ay] at hv
   rcases O.sm with ⟨a3,z3,bh,bg,c3,h1,h2⟩ | ⟨cs,cs',h1,_⟩
   ·cases h1
    subst h2
    have hl:bg.length=es2.length:=by
     have:=O.cv
     simp only [D.cells,oh,mJ,D.cv,List.cons.injEq,Value.slice.injEq,and_true,true_and] at this
     exact this
    refine ⟨.inr ?_,⟨O.hd,λb hb=>hg.2 b (O.ft ▸ hb)⟩,by simp [PV.refs]⟩
    show a.eval (.tmp s)=_
    rw [hv];simp only [PV.val,PV.val1,PV.cv,D.elems,hl]
   ·cases h1
 ·rename_i p hp
  split at hs
  rotate_left
  ·exact hs.elim
  rename_i k zz i oo bi
  split at hs
  rotate_left
  ·exact hs.elim
  rename_i B ds hB am
  -- the place's box
  have key:∀ (I:D->Bx),(∀ w' d',Mk w w' d d'->BAft w' e (zW av [] e st.bx) (e.at k) B (I d')) ->
    (Dis d (dsL (rl mh.keep 0 st.sl)++ds)/\∀ N1,st.N<=N1->MC P f d n N1 λd' n' N2=>N1<=N2->K (St.put { st with sl:=rl mh.keep 0 st.sl,bx:=st.bx.set k (I d'),N:=N2 } o.dst (.int .i64 n')))->o.wp P a w next Q:=λI az hs=>by
   obtain ⟨J,hs⟩:=hs
   refine go _ (hs w.heap.size h.hN) λd' n' w' O hr=>⟨e,_,hr O.size,by rw [ac];simp,?_⟩
   refine fin _ _ w' n' (zLH h O.toMk0 aa (by rw [pn];exact oB _) (by simp) (ab ds J) λj B' hj=>?_)
   rw [nZ] at hj
   split at hj
   ·rename_i ao
    subst ao
    split at hj
    ·simp at hj;subst hj;exact ⟨B,hB,az w' d' O⟩
    ·cases hj
   ·rename_i ao
    refine ⟨B',hj,zNu h hg O.toMk0 hj ?_⟩
    rcases zIY _ _ _ am j B' hj with ⟨cs,h1,h2,h3⟩ | ⟨h1,h2 | h2⟩
    ·exact .inl ⟨cs,h1,h2,λp hp x hx b hb hc=>J.h x (ow _ (h3 p hp x hx)) b hc hb⟩
    ·simp at h2;exact absurd h2 ao
    ·exact .inr ⟨h1,λx hx b hb hc=>J.h x (ow _ (h2 x hx)) b hc hb⟩
  cases hy:opd st.sl y
  case sv ad zy es cy=>
   rw [hy] at hd hs
   simp [zR7] at hd
   have ae:d.isCell:=by rw [<-hd];trivial
   -- the place does not hang on what the call does
   have hK:∃ I:D->Bx,(∀ w' d',Mk w w' d d'->BAft w' e (zW av [] e st.bx) (e.at k) B (I d'))/\(Dis d (dsL (rl mh.keep 0 st.sl)++ds)/\∀ N1,st.N<=N1->MC P f d n N1 λd' n' N2=>N1<=N2->K (St.put { st with sl:=rl mh.keep 0 st.sl,bx:=st.bx.set k (I d'),N:=N2 } o.dst (.int .i64 n'))):=by
    cases B with
    | var cs=>exact hs.elim
    | gone=>exact hs.elim
    | vd x n0=>
      cases i with
      | succ i=>exact hs.elim
      | zero=>
        obtain ⟨h1,h2,h3,h4⟩:=hs
        refine ⟨_,λw' d' O=>?_,h4⟩
        obtain ⟨I,h5,h6⟩:=zFz h hg O ae (i:=0) (o:=oo) (K:=λm=>m=λd'=>Bx.vd (.ag (qh oo [d'] x.cells)) n0) hB ⟨h1,h2,h3,rfl⟩
        subst h5;exact h6
    | arr t z2 es2 c2=>
      cases z2 with
      | zero=>exact hs.elim
      | succ z2=>
        obtain ⟨h1,h2,h3,h4,h5⟩:=hs
        refine ⟨_,λw' d' O=>?_,h5⟩
        obtain ⟨I,h6,h7⟩:=zFz h hg O ae (i:=i) (o:=oo) (K:=λm=>m=λd'=>Bx.arr t (z2+1) (es2.set i (.ag (qh oo [d'] (es2.getD i default).cells))) c2) hB ⟨h1,h2,h3,h4,rfl⟩
        subst h6;exact h7
   obtain ⟨I,h1,h2⟩:=hK
   exact key I h1 h2
  case dg n1 x1=>
   rw [hy] at hs
   have hK:∃ I:D->Bx,(∀ w' d',Mk w w' d d'->BAft w' e (zW av [] e st.bx) (e.at k) B (I d'))/\(Dis d (dsL (rl mh.keep 0 st.sl)++ds)/\∀ N1,st.N<=N1->MC P f d n N1 λd' n' N2=>N1<=N2->K (St.put { st with sl:=rl mh.keep 0 st.sl,bx:=st.bx.set k (I d'),N:=N2 } o.dst (.int .i64 n'))):=by
    cases B with
    | var cs=>exact hs.elim
    | gone=>exact hs.elim
    | arr=>exact hs.elim
    | vd x n0=>
      cases i with
      | succ i=>exact hs.elim
      | zero=>
        simp only [zVz] at hs
        split at hs
        ·obtain ⟨h1,h2⟩:=hs
         refine ⟨_,λw' d' O=>?_,h2⟩
         obtain ⟨I,h5,h6⟩:=zP6 h hg O (K:=λm=>m=λd'=>Bx.vd d' n0) hB ⟨h1,rfl⟩
         subst h5;exact h6
        ·obtain ⟨h1,h2,h3,h4⟩:=hs
         exact ⟨_,λw' d' O=>zS3 h hg O hB h1 h2 h3,h4⟩
   obtain ⟨I,h1,h2⟩:=hK
   exact key I h1 h2
  all_goals (rw [hy] at hd;cases hd)
variable {av:Nat->Prop} {P:Program} {w0 w w':World} {e0 e:Env} {pS pS' pB pB':List Nat} {a:Act} {st st':St}
def zKN (N0:Option Nat) (fs I:List Nat):List Nat->St->(St->Prop)->Prop
 | [],st,K=>K st
 | k::ks,st,K=>zPK N0 st k fs I λst'=>zKN N0 fs I ks st' K
def zVu (ops:Array Oper) (pf:Pend) (t:Nat):Bool:=pf.all λx=>match zAf ops x.1 with
 | some d=>!(d==t)
 | none=>true
/-- the rows that these slots name are closed -/
def zAW (N0:Option Nat) (ops:Array Oper) (pf:Pend) (cl fs:List Nat) (st:St) (K:St->Prop):Prop:=
 match cl with
 | []=>K st
 | t :: cl=>match (zAh st.bx 200 ((t::cl).flatMap λt=>(st.sl.getD t .any).refs) []).filter (zUX st) with
   | []=>K st
   | k::ks=>match zQ9 ops (k::ks) st pf&&((t::cl)++fs).all (zVu ops pf) with
     | true=>zKN N0 fs (zAh st.bx 200 (fs.flatMap λt=>(st.sl.getD t .any).refs) []) (k::ks) st K
     | false=>False
theorem Stp.trans {T:List Nat} {st I st2:St} (J:Stp T T none st I) (O:Stp T T none I st2):Stp T T none st st2:=
 ⟨λi p hi hp hT=>O.sl i p hi (J.sl i p hi hp hT) hT,λk B hk h3 h4=>O.bx k B (J.bx k B hk h3 h4) h3 h4,oZ J.bl O.bl,O.ll.trans J.ll⟩
theorem Stp.wide {T I:List Nat} {dst:Option Nat} (h:Stp T T dst st st') (hT:∀ k∈T,k∈I):Stp I I dst st st':=
 ⟨λi p hi hp J=>h.sl i p hi hp λk O=>J k (hT k O),λk B J h3 h4=>h.bx k B J (λhc=>h3 (hT k hc)) λj hj=>h4 j (hT j hj),h.bl,h.ll⟩
theorem zLQ {k z:Nat} {s p:PV} (h:k∉p.refs):zOd k s z p=p:=by
 cases p<;>simp only [zOd]<;>first
  | exact zFN h
  | (simp [PV.refs] at h;rw [if_neg (Ne.symm h)])
theorem zRf {k z:Nat} {s p:PV} (h:k∉p.refs):Proofs.YtlahkdflngobiaaGreatDoor.clo k s z p=p:=by
 cases p
 case pg cs=>
  simp only [Proofs.YtlahkdflngobiaaGreatDoor.clo]
  rw [if_neg]
  simpa [PV.refs] using h
 all_goals exact @zLQ k z s _ h
theorem stp_clo {k z N:Nat} {s:PV}:Stp [k] [k] none st (st.clo k s z N):=by
 refine ⟨λi p _ I hT=>?_,λj B J O h2=>?_,by simp [St.clo],by simp [St.clo]⟩
 ·simp only [St.clo,oI,I,oe,zRf (hT k (by simp))]
 ·simp only [St.clo]
  rw [nY (by simp at O;omega),oI,J]
  simp only [oe]
  congr 1
  cases B with
  | var cs=>
    simp only [Bx.clo]
    congr 1
    conv=>rhs;rw [<-List.map_id cs]
    refine nC λp I=>zLQ λhc=>h2 k (by simp) ?_
    simp only [Bx.refs];exact PV.refsL_mem.2 ⟨p,I,hc⟩
  | _=>rfl
theorem qn {N0:Option Nat} (I:NOk N0 w0) {fs fb:List Nat} {K:St->Prop} (J:∀ i∈fs,i∉pS) (O:∀ i∈fb,i∉pB) :
  ∀ (ks:List Nat) (st:St),Rel av w0 e0 pS pB a w e st->(∀ k∈ks,k∉pB)->zKN N0 fs fb ks st K->∃ st',K st'/\Stp ks ks none st st'/\Rel av w0 e0 pS pB a w e st'
 | [],st,h,_,hs=>⟨st,hs,Stp.rfl',h⟩
 | k::ks,st,h,hk,hs=>by
   simp only [zKN] at hs
   obtain ⟨s,z,N,h1,h2,_⟩:=zLf h I (hk k (by simp)) J O hs
   obtain ⟨st',h3,h4,h5⟩:=qn I J O ks _ h2 (λj hj=>hk j (by simp [hj])) h1
   exact ⟨st',h3,(stp_clo.wide (by simp)).trans (h4.wide λk hk=>by simp [hk]),h5⟩
theorem zQV {ops:Array Oper} {pf:Pend} {t:Nat} (h:zVu ops pf t=true):∀ x∈pf,zAf ops x.1≠some t:=by
 intro x I hc
 have:=oT.1 h x I
 rw [hc] at this
 simp at this
theorem uc (h:Rel av w0 e0 pS pB a w e st) {N0:Option Nat} (ac:NOk N0 w0) {ops:Array Oper} {pf:Pend} (ae:∀ t∈pS,∃ x∈pf,zAf ops x.1=some t) {cl fs:List Nat} {K:St->Prop} (hs:zAW N0 ops pf cl fs st K) :
  ∃ st' T,K st'/\Stp T T none st st'/\zQ9 ops T st pf=true/\Rel av w0 e0 pS pB a w e st':=by
 unfold zAW at hs
 split at hs
 ·exact ⟨st,[],hs,Stp.rfl',rfl,h⟩
 ·rename_i t cl
  split at hs
  ·exact ⟨st,[],hs,Stp.rfl',rfl,h⟩
  ·rename_i k ks ah
   split at hs
   ·rename_i aa
    simp only [oL] at aa
    obtain ⟨h1,h2⟩:=aa
    have J:∀ i∈(t::cl)++fs,i∉pS:=λi hi hc=>by
     obtain ⟨x,hx,hd⟩:=ae i hc
     exact zQV (oT.1 h2 i hi) x hx hd
    have ab:∀ i,i∈(t::cl)++fs->∀ j∈(st.sl.getD i .any).refs,j∉pB:=λi hi j I=>by
     rw [oA] at I
     cases hp:st.sl[i]? with
     | none=>rw [hp] at I;simp [PV.refs] at I
     | some p=>rw [hp] at I;exact (h.sr i p hp (J i hi) j I).1
    have O:∀ l:List Nat,(∀ i∈l,i∈(t::cl)++fs)->∀ j∈zAh st.bx 200 (l.flatMap λt=>(st.sl.getD t .any).refs) [],j∉pB:=λl hl=>by
     refine pY (A:=λj=>j∉pB) (λk hk j I=>?_) _ _ _ (λj I=>?_) (by simp)
     ·rw [oA] at I
      cases hB:st.bx[k]? with
      | none=>rw [hB] at I;simp [Bx.refs] at I
      | some B=>rw [hB] at I;exact (h.bf k B hB hk j I).1
     ·obtain ⟨i,hi,I⟩:=ny.1 I
      exact ab i (hl i hi) j I
    obtain ⟨st',g1,g2,g3⟩  :=qn ac (λi hi=>J i (ow _ hi)) (O fs λi hi=>ow _ hi) (k::ks) st h (λj I=>by
     rw [<-ah] at I
     exact O (t::cl) (λi hi=>oY _ hi) j (nx.1 I).1) hs
    exact ⟨st',_,g1,g2,h1,g3⟩
   ·exact hs.elim
def zSn (ops:Array Oper) (i j:Nat):Bool:=match ops[j]? with
 | some o=>o.after.any λe=>e.on==i&&Region.binds .any e
 | none=>false
/-- the operations that an operation comes behind -/
def zGi (ops:Array Oper) (j:Nat):List Nat:=match ops[j]? with
 | some o=>(o.after.toList.filter (Region.binds .any)).map (·.on)
 | none=>[]
def zTL (ops:Array Oper):Nat->List Nat->List Nat->List Nat
 | 0,_,I=>I
 | _+1,[],I=>I
 | n+1,k::J,I=>match I.contains k with
   | true=>zTL ops n J I
   | false=>zTL ops n (zGi ops k++J) (k::I)
theorem zJc {ops:Array Oper} {A:Nat->Prop} (hA:∀ k,A k->∀ j∈zGi ops k,A j):∀ (n:Nat) (J I:List Nat),(∀ k∈J,A k)->(∀ k∈I,A k)->∀ k∈zTL ops n J I,A k
 | 0,_,I,_,h=>h
 | _+1,[],I,_,h=>h
 | n + 1,k::J,I,O,h2=>by
   simp only [zTL]
   split
   ·exact zJc hA n J I (λj hj=>O j (by simp [hj])) h2
   ·refine zJc hA n _ _ (λj hj=>?_) λj hj=>?_
    ·rcases oG.1 hj with hj | hj
     ·exact hA k (O k (by simp)) j hj
     ·exact O j (by simp [hj])
    ·rcases oH.1 hj with rfl | hj
     ·exact O j (by simp)
     ·exact h2 j hj
def zRR (I:List Nat) (nv:Pend):Pend:=nv.filter λx=>!I.contains x.1
def zIm (ops:Array Oper) (j:Nat) (nv:Pend):Pend:=match nv with
 | []=>[]
 | nv=>zRR (zTL ops 1000 (zGi ops j) []) nv
/-- the slot whose row an append cuts ahead -/
def zWF (o:Oper):Option Nat:=match o.op with
 | .call c=>match c.callee with
   | .builtin .append=>match c.args.toList with
     | .tmp t::_=>some t
     | _=>none
   | _=>none
 | _=>none
/-- an append behind a row's part, of a row's part -/
def apE (P:Program) (o:Oper) (st:St) (K:St->Prop):Prop:=match o.op with
 | .call c=>match c.callee with
   | .builtin .append=>match c.args.toList,c.argTypes.toList with
     | [x,y],[t,I]=>if t=I then apF true P st o.dst t x y K else False
     | _,_=>False
   | _=>False
 | _=>False
theorem zSI (h:Rel av w0 e0 pS pB a w e st) (ac:∀ k∈pB,k<st.bx.length) {sh:FuncId->List Sh} {o:Oper} {K:St->Prop}
  (hx:∀ x∈o.op.operands,∀ t,x=.tmp t->t∉pS) (hs:apE P o st K)
  {next:Act->World->Prop} {Q:Exit->Act->World->Prop}
  (hn:∀ v w' e' st',K st'->Stp (zAz P sh o st) (zOz st (zAz P sh o st)) o.dst st st'->Rel av w0 e0 pS pB (a.put o.dst v) w' e' st'->next (a.put o.dst v) w'):o.wp P a w next Q:=by
 unfold apE at hs
 split at hs
 rotate_left
 ·exact hs.elim
 rename_i c J
 split at hs
 rotate_left
 ·exact hs.elim
 rename_i hc
 split at hs
 rotate_left
 ·exact hs.elim
 rename_i x y t t' I O
 split at hs
 rotate_left
 ·exact hs.elim
 rename_i aa
 subst aa
 rw [J] at hx
 simp only [Op.operands,Call.operands] at hx
 have hm:∀ z,z∈[x,y]->z∈c.args:=λz hz=>by rw [<-I] at hz;exact ou.1 hz
 have aa:zAz P sh o st=sj P sh o st:=by simp [zAz,J,zQ8,hc]
 obtain ⟨v,w',e',st',h1,⟨h2,h3⟩,h4⟩:=zKE h ac (ty:=o.type) (hx x (by simp [hm])) (hx y (by simp [hm])) (λ_ hi _=>hi) (zKO (T:=sj P sh o st) (by simp only [sj,J,hc,I,O];try rfl) hs)
 have ea:c.args=#[x,y]:=by rw [<-nE,I]
 have et:c.argTypes=#[t,t]:=by rw [<-nE,O]
 have ab:(execOp a.eval o).run P w=.ok (.value v) w':=by
  obtain ⟨dst,op,ty,pos,after,guard⟩:=o
  simp only at J h1
  subst J
  simp [execOp,resolve,hc,invoke,builtin,ea,et,h1]
 unfold Oper.wp
 rw [ab,Oper.upon_value]
 exact hn v w' e' st' h3 (aa ▸ h2) h4
/-- cut a row, then append -/
def zVd (P:Program) (sh:FuncId->List Sh) (ops:Array Oper) (pf:Pend) (o:Oper) (t:Nat) (st:St) (K:St->Prop):Prop:=
 match pf.all (mvP ops) with
 | true=>zFn st (some t) λst=>match zU8 ops (zAz P sh o st) st pf with
   | true=>apE P o st K
   | false=>False
 | false=>False
theorem zO6 {t:Option Nat} {K:St->Prop} (h:zFn st t K):zFn st t λI=>K I/\I.sl=st.sl:=by
 unfold zFn at h ⊢
 cases t with
 | none=>exact ⟨h,by trivial⟩
 | some d=>
   simp only at h ⊢
   cases J:st.sl[d]? with
   | none=>simp only [J] at h ⊢;exact ⟨h,by trivial⟩
   | some p=>
     cases p with
     | sb k z lo n c=>
       simp only [J] at h ⊢
       cases O:st.bx[k]? with
       | none=>simp only [O] at h
       | some B=>
         cases B with
         | arr t z' es c'=>
           simp only [O] at h ⊢
           cases hl:Nat.beq lo 0 with
           | true=>simp only [hl] at h ⊢;exact ⟨h.1,h.2,by trivial⟩
           | false=>simp only [hl] at h
         | _=>simp only [O] at h
     | _=>simp only [J] at h ⊢;exact ⟨h,by trivial⟩
theorem zPk (h:Rel av w0 e0 pS pB a w e st) (hpl:∀ k∈pB,k<st.bx.length) {sh:FuncId->List Sh} {ops:Array Oper} {pf:Pend} {t:Nat} (hpb:∀ k∈pB,∃ x∈pf,x.2=some k) {o:Oper} {K:St->Prop}
  (hx:∀ x∈o.op.operands,∀ t,x=.tmp t->t∉pS) (hs:zVd P sh ops pf o t st K)
  {next:Act->World->Prop} {Q:Exit->Act->World->Prop}
  (hn:∀ v w' e' st',K st'->st.bx.length<=st'.bx.length->(∀ x∈pf,∀ ox,ops[x.1]?=some ox->zO0 ops P st ox x.2->(∀ d,o.dst=some d->d∉ox.looksAt ops/\ox.dst≠some d)->zO0 ops P st' ox x.2) ->
   Rel av w0 e0 pS pB (a.put o.dst v) w' e' st'->next (a.put o.dst v) w'):o.wp P a w next Q:=by
 unfold zVd at hs
 split at hs
 rotate_left
 ·exact hs.elim
 rename_i hmv
 have hmv':∀ x∈pf,mvP ops x=true:=fun x hx=>oT.1 hmv x hx
 have hx2:∀ x∈pf,x.2=none:=fun x hx=>by
  have:=hmv' x hx
  unfold mvP at this
  split at this
  ·assumption
  ·cases this
 have e2:pB=[]:=nH.2 fun t ht=>by
  obtain ⟨x,hx,h2⟩:=hpb t ht
  rw [hx2 x hx] at h2;cases h2
 subst e2
 obtain ⟨st1,⟨k1,k4⟩,k2,k3⟩:=zFD h (zO6 hs)
 split at k1
 rotate_left
 ·exact k1.elim
 rename_i hsf
 refine zSI (sh:=sh) k2 (by simp) hx k1 fun v w' e' st' g1 g2 g3=>hn v w' e' st' g1 (by rw [<-k3];exact g2.bl) (fun x hx ox hox hk hd=>?_) g3
 refine ry (T:=zAz P sh o st1) ?_ g2 zJq (zLN hsf hx hox) hd
 have h2:=hmv' x hx
 unfold mvP at h2
 split at h2
 ·rename_i o2 e1 e3
  rw [hox] at e3
  cases e3
  split at h2
  ·rename_i z hz
   rw [e1] at hk ⊢
   exact zPA (dst:=none) hz hk (fun i p _ hp=>by rw [k4];exact hp) (Nat.le_of_eq k3.symm) (by rw [k4]) fun d hd=>by cases hd
  ·cases h2
 ·cases h2
def zTw (P:Program) (sh:FuncId->List Sh) (N0:Option Nat) (ops:Array Oper) (pf:Pend) (en:Ent) (o:Oper) (st:St) (K:St->Prop):Prop:=
 match en.mh with
 | none=>match en.tr with
   | false=>zAW N0 ops pf en.cl en.fs st λst=>match zU8 ops (zAz P sh o st) st pf with
     | true=>zRT P sh o st K
     | false=>zQM P sh ops pf o st K
   | true=>match zWF o with
     | some t=>zVd P sh ops pf o t st K
     | none=>match pf with
       | []=>zRT P sh o st λst=>zFn st o.dst K
       | _=>False
 | some mh=>match pf with
   | []=>zTY P N0 mh o st K
   | _=>False
def zVk (o:Oper) (st:St):Bool:=o.op.operands.toList.all λy=>(opd st.sl y).refs.all λk=>decide (k<st.bx.length)
def Res.bk (r:Res) (n:Nat):Option Nat:=match r with
 | .v _=>none
 | .b ..=>some n
def zNa (P:Program) (sh:FuncId->List Sh) (N0:Option Nat) (ops:Array Oper):List Ent->Pend->St->(St->Prop)->Prop
 | [],_,st,K=>K st
 | en :: l,nv,st,K=>match ops[en.i]? with
   | none=>False
   | some o=>match en.hard with
     | true=>zQX ops o st (λst=>zTw P sh N0 ops (zIm ops en.i nv) en o st λst=>zNa P sh N0 ops l nv st K) (λst=>zNa P sh N0 ops l nv (st.put o.dst (.tp [])) K)
     | false=>zQX ops o st (λst=>match zQ8 o.op&&zVk o st with
      | true=>nev P (opd st.sl) (λk=>st.bx[k]?) o.op o.type λr=>zNa P sh N0 ops l ((en.i,r.bk st.bx.length)::nv) (st.push o.dst r) K
      | false=>False) (λst=>zNa P sh N0 ops l ((en.i,none)::nv) (st.put o.dst (.tp [])) K)
theorem zFw {bx:List Bx}:ValOk av w e pB bx undef (.tp []):=⟨.inr rfl,by simp [PV.Ok,PV.OkL],by simp [PV.refs,PV.refsL]⟩
theorem vS {ops:Array Oper} {o:Oper} {y:Operand} {t:Nat} (I:y∈o.op.operands) (J:y=.tmp t):t∈o.looksAt ops:=by
 subst J
 exact oY _ (nR.2 ⟨.tmp t,ou.2 I,rfl⟩)
/-- a hard entry, carried out -/
theorem zLI (h:Rel av w0 e0 pS pB a w e st) {N0:Option Nat} (hN0:NOk N0 w0) (hpl:∀ k∈pB,k<st.bx.length) {sh:FuncId->List Sh} {ops:Array Oper} {pf:Pend} (hpf:∀ t∈pS,∃ x∈pf,zAf ops x.1=some t) (hpb:∀ k∈pB,∃ x∈pf,x.2=some k)
  {en:Ent} {o:Oper} (ho:ops[en.i]?=some o) (hl:∀ t∈o.looksAt ops,t∉pS) {K:St->Prop}
  (hs:zQX ops o st (fun st=>zTw P sh N0 ops pf en o st K) (fun st=>K (st.put o.dst (.tp [])))) {next:Act->World->Prop} {Q:Exit->Act->World->Prop}
  (hn:∀ v w' e' st',K st'->st.bx.length<=st'.bx.length->(∀ x∈pf,∀ ox,ops[x.1]?=some ox->zO0 ops P st ox x.2->(∀ d,o.dst=some d->d∉ox.looksAt ops/\ox.dst≠some d)->zO0 ops P st' ox x.2) ->
   Rel av w0 e0 pS pB (a.put o.dst v) w' e' st'->next (a.put o.dst v) w'):wpOp P ops Q en.i next a w:=by
 unfold wpOp
 rw [ho]
 simp only
 rcases zHo hs with ⟨hw,hs⟩ | ⟨hw,hs⟩
 ·rw [if_pos (zKe h hw hl)]
  refine .inl ?_
  unfold zTw at hs
  split at hs
  rotate_left
  ·split at hs
   rotate_left
   ·exact hs.elim
   have e1:pS=[]:=nH.2 fun t ht=>by obtain ⟨x,hx,_⟩:=hpf t ht;simp at hx
   have e2:pB=[]:=nH.2 fun t ht=>by obtain ⟨x,hx,_⟩:=hpb t ht;simp at hx
   subst e1;subst e2
   have hn':=fun v w' e' st' g1 g2 g3=>hn v w' e' st' g1 g2 (fun x hx=>by simp at hx) g3
   exact zOB h hN0 hs hn'
  split at hs
  rotate_left
  ·split at hs
   ·exact zPk h hpl hpb (fun y hy t ht=>hl t (vS hy ht)) hs hn
   split at hs
   rotate_left
   ·exact hs.elim
   have e1:pS=[]:=nH.2 fun t ht=>by obtain ⟨x,hx,_⟩:=hpf t ht;simp at hx
   have e2:pB=[]:=nH.2 fun t ht=>by obtain ⟨x,hx,_⟩:=hpb t ht;simp at hx
   subst e1;subst e2
   refine zKc h hpl (fun y hy t ht=>hl t (vS hy ht)) hs fun v w' e' st' g1 g2 g3=>?_
   obtain ⟨st2,k1,k2,k3⟩:=zFD g3 g1
   exact hn v w' e' st2 k1 (by rw [k3];exact g2.bl) (fun x hx=>by simp at hx) k2
  obtain ⟨st1,T,h1,h2,h3,h4⟩:=uc h hN0 hpf hs
  split at h1
  ·rename_i hsf
   refine zKc h4 (fun k hk=>o5 (hpl k hk) h2.bl) (fun y hy t ht=>hl t (vS hy ht)) h1 fun v w' e' st' g1 g2 g3=>hn v w' e' st' g1 (oZ h2.bl g2.bl) (fun x hx ox hox hk hd=>?_) g3
   exact ry (ry hk h2 (fun _ h=>h) (.inl (zHg h3 hx hox)) fun d hd=>by cases hd) g2 zJq (zLN hsf hx hox) hd
  ·exact zMS h4 (fun y hy t ht=>hl t (vS hy ht)) h1 fun v w' e' st' g1 g2 g3 g4=>hn v w' e' st' g1 (oZ h2.bl g2) (fun x hx ox hox hk hd=>g3 x hx ox hox (ry hk h2 (fun _ h=>h) (.inl (zHg h3 hx hox)) fun d hd=>by cases hd) hd) g4
 ·rw [if_neg (by rw [zLO h hw hl];simp)]
  exact hn undef w e _ hs (by cases o.dst<;>exact oB _) (fun x hx ox hox hk hd=>ry hk (Stp.put (T:=[]) (TA:=[]) Stp.rfl' _) (fun _ h=>h) (.inl zEx) hd) (xz h zFw fun i hi _=>hi)
theorem zKT {N0:Option Nat} (I:NOk N0 w0) {sh:FuncId->List Sh} {ops:Array Oper} {K:St->Prop} {Q:Exit->Act->World->Prop} (O:∀ a w e st,K st->Rel av w0 e0 [] [] a w e st->Q .normal a w) :
  ∀ (l:List Ent) (a:Act) (w:World) (e:Env) (st:St),(∀ en∈l,en.hard=true)->Rel av w0 e0 [] [] a w e st->zNa P sh N0 ops l [] st K->wpOps P ops Q (l.map (·.i)) a w
 | [],a,w,e,st,_,h,hs=>O a w e st hs h
 | en::l,a,w,e,st,hh,h,hs=>by
   rw [oh,wpOps_cons]
   simp only [zNa] at hs
   cases J:ops[en.i]? with
   | none=>rw [J] at hs;exact hs.elim
   | some o=>
     rw [J] at hs
     simp only [hh en (by simp)] at hs
     exact zLI h I (by simp) (by simp) (by simp) J (by simp) hs λv w' e' st' h1 _ _ h2=>zKT I O l _ _ _ _ (λx hx=>hh x (by simp [hx])) h2 h1
/-- entries in order, all of them hard -/
def zLz (n:Nat) (l:List Ent):Bool:=(l.map (·.i))==List.range n&&l.all (·.hard)
theorem zOL {N0:Option Nat} (I:NOk N0 w0) {sh:FuncId->List Sh} {id:Nat} {ops:Array Oper} {l:List Ent} {K:St->Prop} {Q:Exit->Act->World->Prop} (J:zLz ops.size l=true) (h:Rel av w0 e0 [] [] a w e st)
  (hs:zNa P sh N0 ops l [] st K) (O:∀ a w e st,K st->Rel av w0 e0 [] [] a w e st->Q .normal a w):(Code.region id ops false).wp P Q a w:=by
 simp only [zLz,oL,mE,oT] at J
 refine wp_region ?_
 rw [<-J.1]
 exact zKT I O l a w e st J.2 h hs
end Go.Proofs.YtlahkdflngobiaaGreatDoor
