/- Calls that write the data that they are handed. -/
import Derived.Test.YtkdjhkfiolhkiaaGreatJq
set_option linter.unusedVariables false
set_option linter.unusedSimpArgs false
namespace Go.Proofs.YtkdjhkfiolhkiaaGreat
open Go
variable {av:Nat->Prop} {P:Program} {w0 w w':World} {e0 e:Env} {pS pS' pB pB':List Nat} {a:Act} {st st':St}
mutual
/-- every slice in it begins its block -/
def D.Flat0:D->Prop
 | .lit _=>True
 | .ag cs=>xQ cs
 | .sl a _ es _=>(∀ ad,a=some ad->ad.off=0)/\xQ es
 | .pt ..=>False
 | .fn ..=>False
def xQ:List D->Prop
 | []=>True
 | d::ds=>d.Flat0/\xQ ds
end
/-- data of its own: no block twice, every slice at its block's beginning -/
structure Tree (d:D):Prop where
 nd:d.foot.Nodup
 fl:d.Flat0
structure Low (N:Nat) (d:D):Prop where
 h:∀ b∈d.foot,N<=b
structure In (T:List Nat) (d:D):Prop where
 h:∀ b∈d.foot,b∈T
/-- none of the others shares a block with it -/
structure Dis (d:D) (ds:List D):Prop where
 h:∀ x∈ds,∀ b∈d.foot,b∉x.foot
structure Once (ds:List D):Prop where
 h:(zE ds).Nodup
def zRw (d d':D):Prop:=(∃ a z es es' c,d=.sl a z es c/\d'=.sl a z es' c)\/(∃ cs cs',d=.ag cs/\d'=.ag cs'/\∀ c∈cs',c.isCell)
/-- what such a call has done -/
structure Mk (w0 w:World) (d d':D):Prop where
 size:w0.heap.size<=w.heap.size
 old:∀ b,b<w0.heap.size->b∉d.foot->w.heap[b]?=w0.heap[b]?
 fz:∀ (b:Nat) (c:Array Value) (t:TypeId) (z:Nat × Nat),(w0.heap.size<=b\/b∈d.foot)->w.heap[b]?=some (.cells c t z)->z=(0,0)
 hd:Holds w d'
 ft:d'.foot=d.foot
 cv:d'.cells.map D.cv=d.cells.map D.cv
 sm:zRw d d'
 ku:KU w0 w
structure MC (P:Program) (f:FuncId) (d:D) (k:Int) (N:Nat) (R:D->Int->Nat->Prop):Prop where
 c:yb P f=true
 h : ∀ w0:World,w0.heap.size=N->GlobIs w0->(∀ b,avG b->b∉d.foot)->Holds w0 d->(∀ b∈d.foot,∃ c t,w0.heap[b]?=some (.cells c t (0,0))) ->
   Calls P f #[d.val,.int .i64 k] w0 fun en w=>match en with
    | .returned v=>∃ d' k',v=.int .i64 k'/\Mk w0 w d d'/\R d' k' w.heap.size
    | _=>False
def D.elems:D->List D
 | .sl _ _ es _=>es
 | _=>[]
def zN5:PV->Option D
 | .sv a z es c=>some (.sl a z es c)
 | .dg _ x=>some x
 | _=>none
def ui:PV->Bool
 | .any=>true
 | .int ..=>true
 | .bool ..=>true
 | .str ..=>true
 | .lit ..=>true
 | .sb ..=>true
 | .pb ..=>true
 | .sv ..=>true
 | .d ..=>true
 | .dc ..=>true
 | .dg ..=>true
 | _=>false
def zOF:PV->Bool
 | .any=>true
 | .int ..=>true
 | .bool ..=>true
 | .str ..=>true
 | .lit ..=>true
 | .sb ..=>true
 | .pb ..=>true
 | _=>false
/-- the slots behind the call -/
def ux (ks:List Nat):Nat->List PV->List PV
 | _,[]=>[]
 | i,p::ps=>(match zOF p with
   | true=>p
   | false=>match ks.contains i&&ui p with
     | true=>p
     | false=>.any)::ux ks (i+1) ps
def dsL:List PV->List D
 | []=>[]
 | p::ps=>p.ds1++dsL ps
/-- the other boxes' data -/
def dsB (k:Option Nat):Nat->List Bx->Option (List D)
 | _,[]=>some []
 | i,B::bs=>match dsB k (i+1) bs with
   | none=>none
   | some ds=>match B with
     | .var cs=>match cs.all ui with
       | true=>some (dsL cs++ds)
       | false=>none
     | B => match (match k with
         | some k=>Nat.beq k i
         | none=>false) with
       | true=>some ds
       | false=>some (B.ds++ds)
def MkB (N0:Option Nat) (st:St) (d:D) (K:Prop):Prop:=match st.pin,N0 with
 | some (_,T),_=>In T d/\K
 | none,some n=>Low n d/\K
 | none,none=>False
/-- a place's data with a part made anew -/
def zMH (B:Bx) (i o:Nat) (d:D) (K:(D->Bx)->Prop):Prop:=
 match B with
 | .arr t z es c=>match z with
   | 0=>False
   | z+1=>i<es.length/\o<(es.getD i default).cells.length/\(es.getD i default).cell o=d/\Once es/\K fun d'=>.arr t (z+1) (es.set i (.ag (rH o [d'] (es.getD i default).cells))) c
 | .vd x n=>match i with
   | 0=>o<x.cells.length/\x.cell o=d/\Once x.cells/\K fun d'=>.vd (.ag (rH o [d'] x.cells)) n
   | _+1=>False
 | _=>False
def zQj (B:Bx) (d:D) (K:(D->Bx)->Prop):Prop:=
 match B with
 | .vd x n=>x=d/\K fun d'=>.vd d' n
 | _=>False
/-- a place's data with a run of its cells made anew -/
def zRx (B:Bx) (i o m:Nat) (d:D) (K:(D->Bx)->Prop):Prop:=
 match B with
 | .vd x n=>match i with
   | 0=>match Nat.beq o 0&&Nat.beq m n with
     | true=>x=d/\K fun d'=>.vd d' n
     | false=>o+m<=x.cells.length/\D.sub x o m=d/\Once x.cells/\K fun d'=>.vd (.ag (rH o d'.cells x.cells)) n
   | _+1=>False
 | _=>False
def zPj (P : Program) (N0:Option Nat) (h:MkH) (o:Oper) (st:St) (K:St->Prop):Prop:=
 match o.op with
 | .call c => match c.callee,c.args.toList with
   | .value x, [y,z]=>match zOT (opd st.sl x),opd st.sl z with
     | some (f,[]),.int .i64 n=>match zN5 (opd st.sl y) with
       | none=>False
       | some d=>Tree d/\MkB N0 st d (
         let sl':=ux h.keep 0 st.sl
         match h.place with
         | none=>match dsB none 0 st.bx with
           | some ds=>Dis d (dsL sl'++ds)/\(match h.same with
             | none=>∀ N1,st.N<=N1->MC P f d n N1 fun d' n' N2=>N1<=N2->K (St.put { st with sl:=sl',N:=N2 } o.dst (.int .i64 n'))
             | some s=>match opd st.sl (.tmp s) with
               | .sv a2 z2 es2 c2=>D.sl a2 z2 es2 c2=d/\∀ N1,st.N<=N1->MC P f d n N1 fun d' n' N2=>N1<=N2->K (St.put { st with sl:=sl'.set s (.sv a2 z2 d'.elems c2),N:=N2 } o.dst (.int .i64 n'))
               | _=>False)
           | none=>False
         | some p=>match opd st.sl (.tmp p) with
           | .pb k _ i oo=>match st.bx[k]?,dsB (some k) 0 st.bx with
             | some B,some ds=>(match opd st.sl y with
               | .sv ..=>zMH B i oo d
               | .dg m _=>zRx B i oo m d
               | _=>fun _=>False) fun mkB=>Dis d (dsL sl'++ds)/\∀ N1,st.N<=N1->MC P f d n N1 fun d' n' N2=>N1<=N2->K (St.put { st with sl:=sl',bx:=st.bx.set k (mkB d'),N:=N2 } o.dst (.int .i64 n'))
             | _,_=>False
           | _=>False)
     | _,_=>False
   | _,_=>False
 | _=>False
theorem sT {ks:List Nat}:∀ (l:List PV) (i:Nat),(ux ks i l).length=l.length
 | [],i=>rfl
 | p::l,i=>by simp [ux,sT l]
theorem zGj {ks:List Nat}:∀ (l:List PV) (i j:Nat) (q:PV),(ux ks i l)[j]?=some q->∃ p,l[j]?=some p/\(q=.any\/(q=p/\ui p=true/\∀ x∈p.ds1,x∈dsL (ux ks i l)))
 | [],i,j,q,h=>by simp [ux] at h
 | p :: l,i,j,q,h=>by
   cases j with
   | zero=>
     simp only [ux,mY,o0] at h
     refine ⟨p,rfl,?_⟩
     cases hb:zOF p with
     | true=>
       rw [hb] at h
       refine .inr ⟨h.symm,by cases p<;>simp [zOF] at hb<;>rfl,fun x hx=>?_⟩
       cases p<;>simp [zOF] at hb<;>simp [PV.ds1] at hx
     | false=>
       rw [hb] at h
       cases hc:(ks.contains i&&ui p) with
       | true=>
         rw [hc] at h
         simp only [oL] at hc
         refine .inr ⟨h.symm,hc.2,fun x hx=>?_⟩
         simp only [ux,hb,hc.1,hc.2,Bool.and_self,dsL]
         exact oY _ hx
       | false=>rw [hc] at h;exact .inl h.symm
   | succ j=>
     simp only [ux,nS] at h ⊢
     obtain ⟨p',h1,h2⟩:=zGj l (i+1) j q h
     refine ⟨p',h1,h2.imp id fun ⟨h3,h4,h5⟩=>⟨h3,h4,fun x hx=>?_⟩⟩
     simp only [dsL]
     exact oi _ (h5 x hx)
theorem zPH {l:List PV} {p:PV} (hp:p∈l):∀ x∈p.ds1,x∈dsL l:=by
 induction l with
 | nil=>simp at hp
 | cons q l ih=>
   intro x hx
   simp only [dsL]
   rcases oG.1 hp with rfl | hp
   ·exact oY _ hx
   ·exact oi _ (ih hp x hx)
theorem zFX {k:Option Nat}:∀ (l:List Bx) (i:Nat) (ds:List D),dsB k i l=some ds->∀ (j:Nat) (B:Bx),l[j]?=some B ->
  (∃ cs,B=.var cs/\(∀ p∈cs,ui p=true)/\∀ p∈cs,∀ x∈p.ds1,x∈ds)\/((∀ cs,B≠.var cs)/\(k=some (i+j)\/∀ x∈B.ds,x∈ds))
 | [],i,ds,h,j,B,hj=>by simp at hj
 | C :: l,i,ds,h,j,B,hj=>by
   simp only [dsB] at h
   split at h
   ·cases h
   ·rename_i ds' hds
    have tail:∀ j,l[j]?=some B->(∃ cs,B=.var cs/\(∀ p∈cs,ui p=true)/\∀ p∈cs,∀ x∈p.ds1,x∈ds')\/((∀ cs,B≠.var cs)/\(k=some (i+(j+1))\/∀ x∈B.ds,x∈ds')):=fun j hj=>by
     have:=zFX l (i+1) ds' hds j B hj
     rwa [show i+1+j=i+(j+1) by omega] at this
    have up:(∀ x∈ds',x∈ds)->∀ j,l[j]?=some B->(∃ cs,B=.var cs/\(∀ p∈cs,ui p=true)/\∀ p∈cs,∀ x∈p.ds1,x∈ds)\/((∀ cs,B≠.var cs)/\(k=some (i+(j+1))\/∀ x∈B.ds,x∈ds)):=fun hsub j hj=>by
     rcases tail j hj with ⟨cs,h1,h2,h3⟩ | ⟨h1,h2⟩
     ·exact .inl ⟨cs,h1,h2,fun p hp x hx=>hsub x (h3 p hp x hx)⟩
     ·exact .inr ⟨h1,h2.imp id fun h3 x hx=>hsub x (h3 x hx)⟩
    have other:(∀ cs,C≠.var cs)->(match (match k with
      | some k=>Nat.beq k i
      | none=>false) with
     | true=>some ds'
     | false=>some (C.ds++ds'))=some ds->(∃ cs,B=.var cs/\(∀ p∈cs,ui p=true)/\∀ p∈cs,∀ x∈p.ds1,x∈ds)\/((∀ cs,B≠.var cs)/\(k=some (i+j)\/∀ x∈B.ds,x∈ds)):=fun hC h=>by
     split at h
     ·rename_i hk
      cases h
      cases j with
      | zero=>
        simp at hj;subst hj
        refine .inr ⟨hC,.inl ?_⟩
        cases k with
        | none=>cases hk
        | some k=>simp at hk;simp [hk]
      | succ j=>exact up (fun _=>id) j (by simpa using hj)
     ·cases h
      cases j with
      | zero=>simp at hj;subst hj;exact .inr ⟨hC,.inr fun x hx=>oY _ hx⟩
      | succ j=>exact up (fun x hx=>oi _ hx) j (by simpa using hj)
    cases C with
    | var cs=>
      simp only at h
      split at h
      ·rename_i hall
       cases h
       cases j with
       | zero=>
         simp at hj;subst hj
         exact .inl ⟨cs,rfl,fun p hp=>oW.1 hall p hp,fun p hp x hx=>oY _ (zPH hp x hx)⟩
       | succ j=>exact up (fun x hx=>oi _ hx) j (by simpa using hj)
      ·cases h
    | vd x n=>exact other (by simp) h
    | arr t z es c=>exact other (by simp) h
    | gone=>exact other (by simp) h
theorem Good.apart {F:List Nat} {live:Nat->Prop} (hold:∀ b,b<w.heap.size->b∉F->w'.heap[b]?=w.heap[b]?) {x:D} (h:Good w live x) (hx:∀ b∈x.foot,b∉F):Good w' live x:=
 ⟨h.1.mono fun b hb=>hold b (h.1.lt b hb) (hx b hb),h.2⟩
theorem zJf {F:List Nat} {live:Nat->Prop} (hold:∀ b,b<w.heap.size->b∉F->w'.heap[b]?=w.heap[b]?) {p:PV} (hp:ui p=true) (h:p.Ok w live) (hx:∀ x∈p.ds1,∀ b∈x.foot,b∉F):p.Ok w' live:=by
 cases p<;>simp [ui] at hp<;>simp only [PV.Ok] at h ⊢<;>simp only [PV.ds1] at hx
 ·exact h
 ·exact h.apart hold (hx _ (by simp))
 ·exact h.apart hold (hx _ (by simp))
 ·exact ⟨h.1.apart hold (hx _ (by simp)),h.2⟩
 ·exact ⟨h.1.apart hold (hx _ (by simp)),h.2⟩
theorem Holds.block {w:World} {d:D} (h:Holds w d):∀ b∈d.foot,∃ c t z,w.heap[b]?=some (.cells c t z):=by
 induction h with
 | lit=>simp [D.foot]
 | ag _ ih=>
   intro b hb
   simp only [D.foot] at hb
   obtain ⟨c,hc,hbc⟩:=zG.1 hb
   exact ih c hc b hbc
 | nil=>simp [D.foot,zE]
 | @sl ad z es cap h1 h2 h3 _ h5 ih=>
   intro b hb
   by_cases hes:es=[]
   ·subst hes;simp [D.foot] at hb
   ·have hf:(D.sl (some ad) z es cap).foot=ad.block::zE es:=by simp [D.foot,hes]
    rw [hf] at hb
    rcases oG.1 hb with rfl | hb
    ·rcases h5 with h5 | ⟨c,t,fz,h6,_⟩
     ·exfalso
      have:=zL h3
      rw [h5] at this
      have hp:=rN z
      have h0:0<es.length:=mV.2 hes
      have:=Nat.mul_pos h0 hp
      simp at *;omega
     ·exact ⟨c,t,fz,h6⟩
    ·obtain ⟨c,hc,hbc⟩:=zG.1 hb
     exact ih c hc b hbc
 | @pt ad z x h1 h2 h3 _ ih=>
   intro b hb
   simp only [D.foot] at hb
   rcases oG.1 hb with rfl | hb
   ·rcases h3 with h3 | ⟨c,t,fz,h6,_⟩
    ·exfalso
     have h4:=yI h2
     have:=rN z
     rw [h3] at h4
     simp at h4;omega
    ·exact ⟨c,t,fz,h6⟩
   ·exact ih b hb
 | @fn f caps h1 _ ih=>
   intro b hb
   simp only [D.foot] at hb
   obtain ⟨c,hc,hbc⟩:=zG.1 hb
   exact ih c hc b hbc
structure BAft (w':World) (e:Env) (live:Nat->Prop) (at_:Option Nat) (B B':Bx):Prop where
 g:B'=.gone↔B=.gone
 rf:B'.refs=B.refs
 rel:B'.Rel w' e at_
 ok:B'.Ok w' live
/-- behind a call that has written the data d -/
theorem zHM (h:Rel av w0 e0 [] [] a w e st) {d d':D} (hm:Mk w w' d d') (hb:∀ b∈d.foot,w0.heap.size<=b\/some b∈e0) {sl':List PV} {bx':List Bx}
  (hll:sl'.length<=st.sl.length) (hbl:bx'.length=st.bx.length)
  (hsl:∀ (i:Nat) (q:PV),sl'[i]?=some q->∃ p,st.sl[i]?=some p/\(q=.any\/(q=p/\ui p=true/\∀ x∈p.ds1,∀ b∈x.foot,b∉d.foot)))
  (hbx:∀ (k:Nat) (B':Bx),bx'[k]?=some B'->∃ B,st.bx[k]?=some B/\BAft w' e (zK av [] e st.bx) (e.at k) B B') :
  Rel av w0 e0 [] [] a w' e { st with sl:=sl',bx:=bx',N:=w'.heap.size }:=by
 have hlives:∀ k b,Lives [] e bx' k b->Lives [] e st.bx k b:=fun k b ⟨h1,h2,B',h3,h4⟩=>by
  obtain ⟨B,h5,h6⟩:=hbx k B' h3
  exact ⟨h1,h2,B,h5,fun hc=>h4 (h6.g.2 hc)⟩
 have hlive:∀ b,zK av [] e bx' b->zK av [] e st.bx b:=fun b hl=>hl.imp id fun ⟨k,hk⟩=>⟨k,hlives k b hk⟩
 exact {
  el:=h.el.trans hbl.symm
  br:=fun k B' hk _=>by obtain ⟨B,_,h6⟩:=hbx k B' hk;exact h6.rel
  bo:=fun k B' hk _=>by
   obtain ⟨B,_,h6⟩:=hbx k B' hk
   exact h6.ok.mono (fun _ _ _=>rfl) (oD _) fun b _=>hlive b
  bf:=fun k B' hk _ j hj=>by
   obtain ⟨B,h5,h6⟩:=hbx k B' hk
   rw [h6.rf] at hj
   have:=h.bf k B h5 (by simp) j hj
   exact ⟨by simp,by show j<bx'.length;rw [hbl];exact this.2⟩
  inj:=fun k j b hk hj=>h.inj k j b (hlives k b hk) (hlives j b hj)
  ku:=h.ku.trans hm.ku
  size:=oS h.size hm.size
  old:=fun b hb' hn=>by
   rw [hm.old b (oq hb' h.size) (fun hc=>by
    rcases hb b hc with h1 | h1
    ·omega
    ·exact hn h1)]
   exact h.old b hb' hn
  fz:=fun b c t z hb' hc=>by
   by_cases hlt:b<w.heap.size
   ·by_cases hf:b∈d.foot
    ·exact hm.fz b c t z (.inr hf) hc
    ·rw [hm.old b hlt hf] at hc;exact h.fz b c t z hb' hc
   ·exact hm.fz b c t z (.inl (by omega)) hc
  nd:=h.nd
  sz:=oS hll h.sz
  hN:=oD _
  hs:=fun i q hi _=>by
   obtain ⟨p,h1,h2 | ⟨rfl,h3,h4⟩⟩:=hsl i q hi
   ·exact .inl h2
   ·exact h.hs i q h1 (by simp)
  so:=fun i q hi _=>by
   obtain ⟨p,h1,h2 | ⟨rfl,h3,h4⟩⟩:=hsl i q hi
   ·subst h2;trivial
   ·exact PV.Ok.mono (fun _ _ _=>rfl) (oD _) (fun b _=>hlive b) q (zJf hm.old h3 (h.so i q h1 (by simp)) h4)
  sr:=fun i q hi _ k hk=>by
   obtain ⟨p,h1,h2 | ⟨rfl,h3,h4⟩⟩:=hsl i q hi
   ·subst h2;simp [PV.refs] at hk
   ·have:=h.sr i q h1 (by simp) k hk
    exact ⟨by simp,by show k<bx'.length;rw [hbl];exact this.2⟩
  own:=fun k b hk=>h.own k b (hlives k b hk)
  avl:=h.avl
  avn:=fun k b hk=>h.avn k b (hlives k b hk)
  pin:=h.pin
  pit:=h.pit }
/-- a box that the call has left alone -/
theorem zI4 (h:Rel av w0 e0 [] [] a w e st) {d d':D} (hg:Good w (zK av [] e st.bx) d) (hm:Mk w w' d d') {k:Nat} {B:Bx} (hk:st.bx[k]?=some B)
  (hp:(∃ cs,B=.var cs/\(∀ p∈cs,ui p=true)/\∀ p∈cs,∀ x∈p.ds1,∀ b∈x.foot,b∉d.foot)\/((∀ cs,B≠.var cs)/\∀ x∈B.ds,∀ b∈x.foot,b∉d.foot)):BAft w' e (zK av [] e st.bx) (e.at k) B B:=by
 refine ⟨mq,rfl,?_,?_⟩
 ·by_cases hgn:B=.gone
  ·subst hgn;exact True.intro
  ·refine (h.br k B hk (by simp)).congr (fun b hb=>?_) fun _ _=>rfl
   have hl:Lives [] e st.bx k b:=⟨by simp,hb,B,hk,hgn⟩
   exact hm.old b (Lives.lt h.toMem hl) fun hc=>hg.2 b hc (.inr ⟨k,hl⟩)
 ·have ho:=h.bo k B hk (by simp)
  cases B with
  | var cs=>
    rcases hp with ⟨cs',h1,h2,h3⟩ | ⟨h1,_⟩
    ·cases h1
     have ho1:=ho.1
     rw [PV.OkL_iff] at ho1
     exact ⟨PV.OkL_iff.2 fun p hp=>zJf hm.old (h2 p hp) (ho1 p hp) (h3 p hp),ho.2⟩
    ·exact absurd rfl (h1 cs)
  | vd x n=>
    rcases hp with ⟨cs',h1,_⟩ | ⟨_,h2⟩
    ·cases h1
    ·exact Good.apart hm.old ho (h2 x (by simp [Bx.ds]))
  | arr t z es c=>
    rcases hp with ⟨cs',h1,_⟩ | ⟨_,h2⟩
    ·cases h1
    ·intro x hx
     refine Good.apart hm.old (ho x hx) fun b hb=>h2 (.ag es) (by simp [Bx.ds]) b ?_
     simp only [D.foot];exact zG.2 ⟨x,hx,hb⟩
  | gone=>exact True.intro
theorem zAb {l1 l2:List D} {d:D} (h:(zE (l1++d::l2)).Nodup):(∀ x∈l1,∀ b∈x.foot,b∉d.foot)/\∀ x∈l2,∀ b∈x.foot,b∉d.foot:=by
 rw [zD] at h
 simp only [zE] at h
 rw [ou] at h
 obtain ⟨h1,h2,h3⟩:=h
 rw [ou] at h2
 refine ⟨fun x hx b hb hc=>h3 b (zG.2 ⟨x,hx,hb⟩) b (oY _ hc) rfl,fun x hx b hb hc=>h2.2.2 b hc b (zG.2 ⟨x,hx,hb⟩) rfl⟩
theorem uW {α:Type} {l:List α} {i:Nat} {x:α} (h:l[i]?=some x):l=l.take i++x::l.drop (i+1):=by
 have hlt:=(oC.1 h).1
 have hx:=(oC.1 h).2
 rw [<-hx]
 simp
theorem zJI {cs:List D} {o:Nat} {d d':D} (hd:cs[o]?=some d) (hcv:d'.cv=d.cv):(rH o [d'] cs).map D.cv=cs.map D.cv:=by
 conv=>rhs;rw [uW hd]
 simp [rH,hcv]
theorem zMX {d d':D} (hs:zRw d d') (hc:d.isCell):d'.isCell/\(d'.cells.map D.cv=d.cells.map D.cv->d'.cv=d.cv):=by
 rcases hs with ⟨a,z,es,es',c,rfl,rfl⟩ | ⟨cs,cs',rfl,rfl,_⟩
 ·exact ⟨trivial,fun h=>by simpa [D.cells] using h⟩
 ·exact hc.elim
theorem zDE {d d':D} {live:Nat->Prop} (hg:Good w live d) (hm:Mk w w' d d'):Good w' live d':=⟨hm.hd,fun b hb=>hg.2 b (hm.ft ▸ hb)⟩
theorem zCF (h:Rel av w0 e0 [] [] a w e st) {d d':D} (hg:Good w (zK av [] e st.bx) d) (hm:Mk w w' d d') (hcell:d.isCell) {k i o:Nat} {B:Bx} {K:(D->Bx)->Prop} (hk:st.bx[k]?=some B) (hr:zMH B i o d K) :
  ∃ mkB,K mkB/\BAft w' e (zK av [] e st.bx) (e.at k) B (mkB d'):=by
 obtain ⟨hc',hcv⟩:=zMX hm.sm hcell
 have hcv:=hcv hm.cv
 have hg':=zDE hg hm
 have hbr:=h.br k B hk (by simp)
 have hbo:=h.bo k B hk (by simp)
 have hblk:∀ b,e.at k=some b->B≠.gone->w'.heap[b]?=w.heap[b]?:=fun b hb hgn=>by
  have hl:Lives [] e st.bx k b:=⟨by simp,hb,B,hk,hgn⟩
  exact hm.old b (Lives.lt h.toMem hl) fun hc=>hg.2 b hc (.inr ⟨k,hl⟩)
 cases B with
 | var cs=>exact hr.elim
 | gone=>exact hr.elim
 | vd x n=>
   cases i with
   | succ i=>exact hr.elim
   | zero=>
     obtain ⟨ho,hd,honce,hK⟩:=hr
     refine ⟨_,hK,by simp,rfl,?_,?_⟩
     ·obtain ⟨b,c,t,h1,h2,h3,h4,h5⟩:=hbr
      obtain ⟨cs,rfl,hl,hcs⟩:=h4
      have hdo:cs[o]?=some d:=by rw [<-hd];simp only [D.cells] at ho;simp [D.cell,D.cells,oA,oF ho]
      have hmap:=zJI hdo hcv
      refine ⟨b,c,t,h1,(hblk b h1 (by simp)).trans h2,h3,⟨_,rfl,?_,fun y hy=>?_⟩,fun j u hu=>?_⟩
      ·have:=mU List.length hmap;simpa [hl,D.cells] using this
      ·simp only [D.cells,rH,oI,nJ] at hy
       rcases hy with (hy | rfl) | hy
       ·exact hcs y (oU hy)
       ·exact hc'
       ·exact hcs y (oX hy)
      ·simp only [D.cells] at hu
       have hj:((rH o [d'] cs).map D.cv)[j]?=some u.cv:=by rw [oE,hu];rfl
       rw [hmap,oE] at hj
       cases hcj:cs[j]? with
       | none=>rw [hcj] at hj;simp at hj
       | some v=>rw [hcj] at hj;simp at hj;rw [<-hj];exact h5 j v hcj
     ·show Good w' _ _
      obtain ⟨b,c,t,h1,h2,h3,h4,h5⟩:=hbr
      obtain ⟨cs,rfl,hl,hcs⟩:=h4
      have hdo:cs[o]?=some d:=by rw [<-hd];simp only [D.cells] at ho;simp [D.cell,D.cells,oA,oF ho]
      have hon:(zE cs).Nodup:=honce.h
      rw [uW hdo] at hon
      obtain ⟨s1,s2⟩:=zAb hon
      have hgc:∀ y∈cs,Good w (zK av [] e st.bx) y:=fun y hy=>Good.part hbo hy
      refine Good.ag fun y hy=>?_
      simp only [D.cells,rH,oI,nJ] at hy
      rcases hy with (hy | rfl) | hy
      ·exact Good.apart hm.old (hgc y (oU hy)) fun b hb=>s1 y hy b hb
      ·exact hg'
      ·exact Good.apart hm.old (hgc y (oX hy)) fun b hb=>s2 y hy b hb
 | arr t z es c=>
   cases z with
   | zero=>exact hr.elim
   | succ z=>
     obtain ⟨hi,ho,hd,honce,hK⟩:=hr
     have hei:es[i]?=some (es.getD i default):=by simp [oA,oF hi]
     rcases hbr with ⟨_,h2,_⟩ | ⟨b,cc,h1,h2,h3,h4,h5,h6,h7⟩
     ·subst h2;simp at hi
     generalize he:es.getD i default=x at *
     have hxo:=h6 x (oB hei)
     simp only [eOk,Nat.add_one_ne_zero,nX] at hxo
     obtain ⟨cs,rfl,hl,hcs⟩:=hxo
     simp only [D.cells] at ho hK
     have hdo:cs[o]?=some d:=by rw [<-hd];simp [D.cell,D.cells,oA,oF ho]
     have hmap:=zJI hdo hcv
     have hcells:∀ y∈rH o [d'] cs,y.isCell:=fun y hy=>by
      simp only [rH,oI,nJ] at hy
      rcases hy with (hy | rfl) | hy
      ·exact hcs y (oU hy)
      ·exact hc'
      ·exact hcs y (oX hy)
     have hlen:(rH o [d'] cs).length=z+1:=by have:=mU List.length hmap;simpa [hl] using this
     have hfl:(zt (es.set i (.ag (rH o [d'] cs)))).map D.cv=(zt es).map D.cv:=by
      conv=>rhs;rw [uW hei]
      rw [mQ,if_pos hi]
      simp [yc,wk,D.cells,hmap]
     refine ⟨_,hK,by simp,rfl,.inr ⟨b,cc,h1,(hblk b h1 (by simp)).trans h2,h3,by simpa using h4,h5,fun y hy=>?_,fun j u hu=>?_⟩,fun y hy=>?_⟩
     ·rcases nK hy with hy | rfl
      ·exact h6 y hy
      ·simp only [eOk,Nat.add_one_ne_zero,nX];exact ⟨_,rfl,hlen,hcells⟩
     ·have hj:((zt (es.set i (.ag (rH o [d'] cs)))).map D.cv)[j]?=some u.cv:=by rw [oE,hu];rfl
      rw [hfl,oE] at hj
      cases hcj:(zt es)[j]? with
      | none=>rw [hcj] at hj;simp at hj
      | some v=>rw [hcj] at hj;simp at hj;rw [<-hj];exact h7 j v hcj
     ·have hon:(zE es).Nodup:=honce.h
      rw [uW hei] at hon
      obtain ⟨s1,s2⟩:=zAb hon
      have hoc:(zE cs).Nodup:=by
       rw [zD] at hon
       simp only [zE,D.foot] at hon
       rw [ou] at hon
       have:=hon.2.1
       rw [ou] at this
       exact this.1
      rw [uW hdo] at hoc
      obtain ⟨r1,r2⟩:=zAb hoc
      have hsub:∀ b∈d.foot,b∈(D.ag cs).foot:=fun b hb=>by simp only [D.foot];exact zG.2 ⟨d,oB hdo,hb⟩
      rw [mQ,if_pos hi] at hy
      rcases oI.1 hy with hy | hy
      ·exact Good.apart hm.old (hbo y (oU hy)) fun b hb hc=>s1 y hy b hb (hsub b hc)
      ·rcases oG.1 hy with rfl | hy
       ·have hgx:=hbo (.ag cs) (oB hei)
        refine Good.ag fun q hq=>?_
        simp only [rH,oI,nJ] at hq
        rcases hq with (hq | rfl) | hq
        ·exact Good.apart hm.old (hgx.part (oU hq)) fun b hb=>r1 q hq b hb
        ·exact hg'
        ·exact Good.apart hm.old (hgx.part (oX hq)) fun b hb=>r2 q hq b hb
       ·exact Good.apart hm.old (hbo y (oX hy)) fun b hb hc=>s2 y hy b hb (hsub b hc)
variable {av:Nat->Prop} {P:Program} {w0 w w':World} {e0 e:Env} {pS pS' pB pB':List Nat} {a:Act} {st st':St}
theorem zMU (h:Rel av w0 e0 [] [] a w e st) {d d':D} (hg:Good w (zK av [] e st.bx) d) (hm:Mk w w' d d') {k:Nat} {B:Bx} {K:(D->Bx)->Prop} (hk:st.bx[k]?=some B) (hr:zQj B d K) :
  ∃ mkB,K mkB/\BAft w' e (zK av [] e st.bx) (e.at k) B (mkB d'):=by
 have hbr:=h.br k B hk (by simp)
 cases B with
 | vd x n=>
   obtain ⟨rfl,hK⟩:=hr
   obtain ⟨b,c,t,h1,h2,h3,h4,h5⟩:=hbr
   have hblk:w'.heap[b]?=w.heap[b]?:=by
    have hl:Lives [] e st.bx k b:=⟨by simp,h1,_,hk,by simp⟩
    exact hm.old b (Lives.lt h.toMem hl) fun hc=>hg.2 b hc (.inr ⟨k,hl⟩)
   obtain ⟨cs,rfl,hl,hcs⟩:=h4
   rcases hm.sm with ⟨_,_,_,_,_,h6,_⟩ | ⟨cs0,cs',h6,h7,h8⟩
   ·cases h6
   ·cases h6;subst h7
    have hcv:=hm.cv
    simp only [D.cells] at hcv
    refine ⟨_,hK,by simp,rfl,⟨b,c,t,h1,hblk.trans h2,h3,⟨cs',rfl,?_,h8⟩,fun j u hu=>?_⟩,zDE hg hm⟩
    ·have:=mU List.length hcv;simpa [hl] using this
    ·simp only [D.cells] at hu
     have hj:(cs'.map D.cv)[j]?=some u.cv:=by rw [oE,hu];rfl
     rw [hcv,oE] at hj
     cases hcj:cs[j]? with
     | none=>rw [hcj] at hj;simp at hj
     | some v=>rw [hcj] at hj;simp at hj;rw [<-hj];exact h5 j v hcj
 | var cs=>exact hr.elim
 | arr t z es c=>exact hr.elim
 | gone=>exact hr.elim
theorem zKJ {a b c:List D} (h:(zE (a++(b++c))).Nodup):(∀ y∈a,∀ x∈y.foot,x∉zE b)/\∀ y∈c,∀ x∈y.foot,x∉zE b:=by
 rw [zD,zD,ou,ou] at h
 obtain ⟨_,⟨_,_,h1⟩,h2⟩:=h
 refine ⟨fun y hy x hx hb=>h2 x (zG.2 ⟨y,hy,hx⟩) x (oY _ hb) rfl,fun y hy x hx hb=>h1 x hb x (zG.2 ⟨y,hy,hx⟩) rfl⟩
theorem zPp (h:Rel av w0 e0 [] [] a w e st) {o m n:Nat} {x d d':D} (hg:Good w (zK av [] e st.bx) d) (hm:Mk w w' d d') {k:Nat} (hk:st.bx[k]?=some (.vd x n)) (ho:o+m<=x.cells.length) (hd:D.sub x o m=d) (honce:Once x.cells) :
  BAft w' e (zK av [] e st.bx) (e.at k) (.vd x n) (.vd (.ag (rH o d'.cells x.cells)) n):=by
 have hbr:=h.br k _ hk (by simp)
 have hbo:=h.bo k _ hk (by simp)
 have hg':=zDE hg hm
 obtain ⟨b,c,t,h1,h2,h3,h4,h5⟩:=hbr
 have hblk:w'.heap[b]?=w.heap[b]?:=by
  have hl:Lives [] e st.bx k b:=⟨by simp,h1,_,hk,by simp⟩
  exact hm.old b (Lives.lt h.toMem hl) fun hc=>hg.2 b hc (.inr ⟨k,hl⟩)
 obtain ⟨cs,rfl,hl,hcs⟩:=h4
 simp only [D.cells] at ho honce
 subst hd
 rcases hm.sm with ⟨_,_,_,_,_,h6,_⟩ | ⟨cs0,cs',h6,h7,h8⟩
 ·cases h6
 subst h7
 have hcv:=hm.cv
 simp only [D.sub,D.cells] at hcv
 have hlen:cs'.length=m:=by
  have:=mU List.length hcv
  simp at this
  omega
 have hsplit:cs=cs.take o++((cs.drop o).take m++cs.drop (o+m)):=by
  conv=>lhs;rw [<-nQ o cs,<-nQ m (cs.drop o),List.drop_drop]
 have hput:rH o cs' cs=cs.take o++(cs'++cs.drop (o+m)):=by simp [rH,hlen]
 have hmap:(rH o cs' cs).map D.cv=cs.map D.cv:=by
  rw [hput]
  conv=>rhs;rw [hsplit]
  simp only [nj,hcv]
 have hmem:∀ y∈rH o cs' cs,y∈cs.take o\/y∈cs'\/y∈cs.drop (o+m):=fun y hy=>by
  rw [hput] at hy
  simpa using hy
 have hon:(zE cs).Nodup:=honce.h
 rw [hsplit] at hon
 obtain ⟨s1,s2⟩:=zKJ hon
 refine ⟨by simp,rfl,⟨b,c,t,h1,hblk.trans h2,h3,⟨_,rfl,?_,fun y hy=>?_⟩,fun j u hu=>?_⟩,?_⟩
 ·have:=mU List.length hmap;simpa [hl,D.cells] using this
 ·rcases hmem y hy with hy | hy | hy
  ·exact hcs y (oU hy)
  ·exact h8 y hy
  ·exact hcs y (oX hy)
 ·simp only [D.cells] at hu
  have hj:((rH o cs' cs).map D.cv)[j]?=some u.cv:=by rw [oE,hu];rfl
  rw [hmap,oE] at hj
  cases hcj:cs[j]? with
  | none=>rw [hcj] at hj;simp at hj
  | some v=>rw [hcj] at hj;simp at hj;rw [<-hj];exact h5 j v hcj
 ·show Good w' _ _
  have hgc:∀ y∈cs,Good w (zK av [] e st.bx) y:=fun y hy=>Good.part hbo hy
  have hft:(D.sub (.ag cs) o m).foot=zE ((cs.drop o).take m):=by simp only [D.sub,D.cells,D.foot]
  refine Good.ag fun y hy=>?_
  rcases hmem y hy with hy | hy | hy
  ·exact Good.apart hm.old (hgc y (oU hy)) fun b hb=>by rw [hft];exact s1 y hy b hb
  ·exact Good.part hg' hy
  ·exact Good.apart hm.old (hgc y (oX hy)) fun b hb=>by rw [hft];exact s2 y hy b hb
theorem zJs {p:PV} {d:D} {v:Value} {bx:List Bx} (hv:ValOk av w e pB bx v p) (h:zN5 p=some d):v=d.val/\Good w (zK av pB e bx) d:=by
 cases p<;>simp [zN5] at h
 ·subst h;exact ⟨hv.1.resolve_left (by simp),hv.2.1⟩
 ·subst h;exact ⟨hv.1.resolve_left (by simp),hv.2.1.1⟩
theorem zNX (h:Rel av w0 e0 [] [] a w e st) {N0:Option Nat} (hN0:NOk N0 w0) {d:D} {K:Prop} (hs:MkB N0 st d K):K/\∀ b∈d.foot,w0.heap.size<=b\/some b∈e0:=by
 unfold MkB at hs
 split at hs
 ·rename_i b T hp
  exact ⟨hs.2,fun x hx=>.inr (h.pit b T hp x (hs.1.h x hx))⟩
 ·rename_i n hp
  obtain rfl:=hN0 _ rfl
  exact ⟨hs.2,fun x hx=>.inl (hs.1.h x hx)⟩
 ·exact hs.elim
/-- a slot is told anew -/
theorem zNP (h:Rel av w0 e0 [] [] a w e st) {s:Nat} {q:PV} (hv:ValOk av w e [] st.bx (a.tmps.getD s undef) q):Rel av w0 e0 [] [] a w e { st with sl:=st.sl.set s q }:=by
 have hget:∀ (i:Nat) (p:PV),(st.sl.set s q)[i]?=some p->(i=s/\p=q)\/st.sl[i]?=some p:=fun i p hi=>by
  rw [nC] at hi
  split at hi
  ·rename_i hsi
   split at hi
   ·simp at hi;exact .inl ⟨hsi.symm,hi.symm⟩
   ·cases hi
  ·exact .inr hi
 exact { h with
  sz:=by simpa using h.sz
  hs:=fun i p hi hn=>by
   rcases hget i p hi with ⟨rfl,rfl⟩ | hi
   ·exact hv.1
   ·exact h.hs i p hi hn
  so:=fun i p hi hn=>by
   rcases hget i p hi with ⟨rfl,rfl⟩ | hi
   ·exact hv.2.1
   ·exact h.so i p hi hn
  sr:=fun i p hi hn=>by
   rcases hget i p hi with ⟨rfl,rfl⟩ | hi
   ·exact hv.2.2
   ·exact h.sr i p hi hn }
theorem zKd (h:Rel av w0 e0 [] [] a w e st) {N0:Option Nat} (hN0:NOk N0 w0) {mh:MkH} {o:Oper} {K:St->Prop} (hs:zPj P N0 mh o st K) {next:Act->World->Prop} {Q:Exit->Act->World->Prop}
  (hn:∀ v w' e' st',K st'->st.bx.length<=st'.bx.length->Rel av w0 e0 [] [] (a.put o.dst v) w' e' st'->next (a.put o.dst v) w'):o.wp P a w next Q:=by
 unfold zPj at hs
 split at hs
 rotate_left
 ·exact hs.elim
 rename_i c hop
 split at hs
 rotate_left
 ·exact hs.elim
 rename_i x y z hc hargs
 split at hs
 rotate_left
 ·exact hs.elim
 rename_i f n hf hz
 split at hs
 ·exact hs.elim
 rename_i d hd
 obtain ⟨htree,hs⟩:=hs
 obtain ⟨hs,hbound⟩:=zNX h hN0 hs
 have ox:=sa (yr h (x:=x) (by simp)).valOk hf
 have hxv:a.eval x=.func (.func f) #[] #[]:=ox.1.resolve_left (by simp)
 obtain ⟨hyv,hg⟩:=zJs (yr h (x:=y) (by simp)).valOk hd
 have hzv:a.eval z=.int .i64 n:=by
  have:=(yr h (x:=z) (by simp)).h.resolve_left (by rw [hz];simp)
  rw [this,hz];rfl
 have ea:c.args=#[y,z]:=by rw [<-nI,hargs]
 have hrun:yb P f=true->(execOp a.eval o).run P w=.ok (.enter f #[d.val,.int .i64 n]) w:=fun hcl=>by
  obtain ⟨dst,op,ty,pos,after,guard⟩:=o
  simp only at hop
  subst hop
  simp only [execOp,resolve,hc,Deferred.ofValue,hxv,invoke]
  simp [zCw hcl,ea,hyv,hzv]
 have hunf:∀ b∈d.foot,∃ c t,w.heap[b]?=some (.cells c t (0,0)):=fun b hb=>by
  obtain ⟨c,t,zz,h1⟩:=hg.1.block b hb
  have:=h.fz b c t zz (hbound b hb) h1
  subst this
  exact ⟨c,t,h1⟩
 -- the call itself
 have go:∀ (R:D->Int->Nat->Prop),MC P f d n w.heap.size R ->
   (∀ d' n' w',Mk w w' d d'->R d' n' w'.heap.size->∃ e' st',K st'/\st.bx.length<=st'.bx.length/\Rel av w0 e0 [] [] (a.put o.dst (.int .i64 n')) w' e' st')->o.wp P a w next Q:=fun R hR hk=>by
  unfold Oper.wp
  rw [hrun hR.c,Oper.upon_enter]
  refine (hR.h w rfl h.glob (fun b hb hc=>by
   rcases hbound b hc with h1 | h1
   ·have:=h.avl.lt b (h.avl.ga b hb);omega
   ·exact h.avl.ge b hb h1) hg.1 hunf).mono fun en w' hen=>?_
  cases en with
  | panicked=>exact hen.elim
  | outgrown=>exact hen.elim
  | returned v=>
    obtain ⟨d',n',rfl,hm,hr⟩:=hen
    obtain ⟨e',st',h1,h2,h3⟩:=hk d' n' w' hm hr
    exact hn _ w' e' st' h1 h2 h3
 have hslots:∀ ds:List D,Dis d (dsL (ux mh.keep 0 st.sl)++ds)->∀ (i:Nat) (q:PV),(ux mh.keep 0 st.sl)[i]?=some q->∃ p,st.sl[i]?=some p/\(q=.any\/(q=p/\ui p=true/\∀ x∈p.ds1,∀ b∈x.foot,b∉d.foot)):=fun ds hdis i q hq=>by
  obtain ⟨p,h1,h2⟩:=zGj _ _ _ _ hq
  exact ⟨p,h1,h2.imp id fun ⟨h3,h4,h5⟩=>⟨h3,h4,fun x hx b hb hc=>hdis.h x (oY _ (h5 x hx)) b hc hb⟩⟩
 have fin:∀ (sl':List PV) (bx':List Bx) (w':World) (n':Int),Rel av w0 e0 [] [] a w' e { st with sl:=sl',bx:=bx',N:=w'.heap.size } ->
  Rel av w0 e0 [] [] (a.put o.dst (.int .i64 n')) w' e (St.put { st with sl:=sl',bx:=bx',N:=w'.heap.size } o.dst (.int .i64 n')):=fun sl' bx' w' n' hr=>xI hr zS fun i hi _=>hi
 have hput:∀ (s:St) (p:PV),(s.put o.dst p).bx=s.bx:=fun s p=>by cases o.dst<;>rfl
 simp only at hs
 split at hs
 ·-- what is written is not looked at again
  split at hs
  rotate_left
  ·exact hs.elim
  rename_i ds hds
  obtain ⟨hdis,hs⟩:=hs
  have aft:∀ (w':World) (d':D),Mk w w' d d'->Rel av w0 e0 [] [] a w' e { st with sl:=ux mh.keep 0 st.sl,bx:=st.bx,N:=w'.heap.size }:=fun w' d' hm=>by
   refine zHM h hm hbound (by rw [sT];exact oD _) rfl (hslots ds hdis) fun k B hk=>⟨B,hk,zI4 h hg hm hk ?_⟩
   rcases zFX _ _ _ hds k B hk with ⟨cs,h1,h2,h3⟩ | ⟨h1,h2 | h2⟩
   ·exact .inl ⟨cs,h1,h2,fun p hp x hx b hb hc=>hdis.h x (oi _ (h3 p hp x hx)) b hc hb⟩
   ·cases h2
   ·exact .inr ⟨h1,fun x hx b hb hc=>hdis.h x (oi _ (h2 x hx)) b hc hb⟩
  split at hs
  ·refine go _ (hs w.heap.size h.hN) fun d' n' w' hm hr=>⟨e,_,hr hm.size,by rw [hput];exact oD _,?_⟩
   exact fin _ st.bx w' n' (aft w' d' hm)
  ·rename_i s hsame
   split at hs
   rotate_left
   ·exact hs.elim
   rename_i a2 z2 es2 c2 hsl
   obtain ⟨hde,hs⟩:=hs
   subst hde
   refine go _ (hs w.heap.size h.hN) fun d' n' w' hm hr=>⟨e,_,hr hm.size,by rw [hput];exact oD _,?_⟩
   refine fin _ st.bx w' n' (zNP (aft w' d' hm) ?_)
   have hv:=(yr h (x:=.tmp s) (by simp)).h.resolve_left (by rw [hsl];simp)
   rw [hsl] at hv
   rcases hm.sm with ⟨a3,z3,es3,es',c3,h1,h2⟩ | ⟨cs,cs',h1,_⟩
   ·cases h1
    subst h2
    have hl:es'.length=es2.length:=by
     have:=hm.cv
     simp only [D.cells,o6,mt,D.cv,List.cons.injEq,Value.slice.injEq,and_true,true_and] at this
     exact this
    refine ⟨.inr ?_,⟨hm.hd,fun b hb=>hg.2 b (hm.ft ▸ hb)⟩,by simp [PV.refs]⟩
    show a.eval (.tmp s)=_
    rw [hv];simp only [PV.val,PV.val1,PV.cv,D.elems,hl]
   ·cases h1
 ·rename_i p hp
  split at hs
  rotate_left
  ·exact hs.elim
  rename_i k zz i oo hpl
  split at hs
  rotate_left
  ·exact hs.elim
  rename_i B ds hB hds
  -- the place's box
  have key:∀ (mkB:D->Bx),(∀ w' d',Mk w w' d d'->BAft w' e (zK av [] e st.bx) (e.at k) B (mkB d')) ->
    (Dis d (dsL (ux mh.keep 0 st.sl)++ds)/\∀ N1,st.N<=N1->MC P f d n N1 fun d' n' N2=>N1<=N2->K (St.put { st with sl:=ux mh.keep 0 st.sl,bx:=st.bx.set k (mkB d'),N:=N2 } o.dst (.int .i64 n')))->o.wp P a w next Q:=fun mkB haft hs=>by
   obtain ⟨hdis,hs⟩:=hs
   refine go _ (hs w.heap.size h.hN) fun d' n' w' hm hr=>⟨e,_,hr hm.size,by rw [hput];simp,?_⟩
   refine fin _ _ w' n' (zHM h hm hbound (by rw [sT];exact oD _) (by simp) (hslots ds hdis) fun j B' hj=>?_)
   rw [nC] at hj
   split at hj
   ·rename_i hkj
    subst hkj
    split at hj
    ·simp at hj;subst hj;exact ⟨B,hB,haft w' d' hm⟩
    ·cases hj
   ·rename_i hkj
    refine ⟨B',hj,zI4 h hg hm hj ?_⟩
    rcases zFX _ _ _ hds j B' hj with ⟨cs,h1,h2,h3⟩ | ⟨h1,h2 | h2⟩
    ·exact .inl ⟨cs,h1,h2,fun p hp x hx b hb hc=>hdis.h x (oi _ (h3 p hp x hx)) b hc hb⟩
    ·simp at h2;exact absurd h2 hkj
    ·exact .inr ⟨h1,fun x hx b hb hc=>hdis.h x (oi _ (h2 x hx)) b hc hb⟩
  cases hy:opd st.sl y
  case sv ad zy es cy=>
   rw [hy] at hd hs
   simp [zN5] at hd
   have hcell:d.isCell:=by rw [<-hd];trivial
   -- the place does not hang on what the call does
   have hK:∃ mkB:D->Bx,(∀ w' d',Mk w w' d d'->BAft w' e (zK av [] e st.bx) (e.at k) B (mkB d'))/\(Dis d (dsL (ux mh.keep 0 st.sl)++ds)/\∀ N1,st.N<=N1->MC P f d n N1 fun d' n' N2=>N1<=N2->K (St.put { st with sl:=ux mh.keep 0 st.sl,bx:=st.bx.set k (mkB d'),N:=N2 } o.dst (.int .i64 n'))):=by
    cases B with
    | var cs=>exact hs.elim
    | gone=>exact hs.elim
    | vd x n0=>
      cases i with
      | succ i=>exact hs.elim
      | zero=>
        obtain ⟨h1,h2,h3,h4⟩:=hs
        refine ⟨_,fun w' d' hm=>?_,h4⟩
        obtain ⟨mkB,h5,h6⟩:=zCF h hg hm hcell (i:=0) (o:=oo) (K:=fun m=>m=fun d'=>Bx.vd (.ag (rH oo [d'] x.cells)) n0) hB ⟨h1,h2,h3,rfl⟩
        subst h5;exact h6
    | arr t z2 es2 c2=>
      cases z2 with
      | zero=>exact hs.elim
      | succ z2=>
        obtain ⟨h1,h2,h3,h4,h5⟩:=hs
        refine ⟨_,fun w' d' hm=>?_,h5⟩
        obtain ⟨mkB,h6,h7⟩:=zCF h hg hm hcell (i:=i) (o:=oo) (K:=fun m=>m=fun d'=>Bx.arr t (z2+1) (es2.set i (.ag (rH oo [d'] (es2.getD i default).cells))) c2) hB ⟨h1,h2,h3,h4,rfl⟩
        subst h6;exact h7
   obtain ⟨mkB,h1,h2⟩:=hK
   exact key mkB h1 h2
  case dg n1 x1=>
   rw [hy] at hs
   have hK:∃ mkB:D->Bx,(∀ w' d',Mk w w' d d'->BAft w' e (zK av [] e st.bx) (e.at k) B (mkB d'))/\(Dis d (dsL (ux mh.keep 0 st.sl)++ds)/\∀ N1,st.N<=N1->MC P f d n N1 fun d' n' N2=>N1<=N2->K (St.put { st with sl:=ux mh.keep 0 st.sl,bx:=st.bx.set k (mkB d'),N:=N2 } o.dst (.int .i64 n'))):=by
    cases B with
    | var cs=>exact hs.elim
    | gone=>exact hs.elim
    | arr=>exact hs.elim
    | vd x n0=>
      cases i with
      | succ i=>exact hs.elim
      | zero=>
        simp only [zRx] at hs
        split at hs
        ·obtain ⟨h1,h2⟩:=hs
         refine ⟨_,fun w' d' hm=>?_,h2⟩
         obtain ⟨mkB,h5,h6⟩:=zMU h hg hm (K:=fun m=>m=fun d'=>Bx.vd d' n0) hB ⟨h1,rfl⟩
         subst h5;exact h6
        ·obtain ⟨h1,h2,h3,h4⟩:=hs
         exact ⟨_,fun w' d' hm=>zPp h hg hm hB h1 h2 h3,h4⟩
   obtain ⟨mkB,h1,h2⟩:=hK
   exact key mkB h1 h2
  all_goals (rw [hy] at hd;cases hd)
variable {av:Nat->Prop} {P:Program} {w0 w w':World} {e0 e:Env} {pS pS' pB pB':List Nat} {a:Act} {st st':St}
def zGm (N0:Option Nat) (fs fb:List Nat):List Nat->St->(St->Prop)->Prop
 | [],st,K=>K st
 | k::ks,st,K=>zLt N0 st k fs fb fun st'=>zGm N0 fs fb ks st' K
def zRs (ops:Array Oper) (pf:Pend) (t:Nat):Bool:=pf.all fun x=>match rB ops x.1 with
 | some d=>!(d==t)
 | none=>true
/-- the rows that these slots name are closed -/
def sc (N0:Option Nat) (ops:Array Oper) (pf:Pend) (cl fs:List Nat) (st:St) (K:St->Prop):Prop:=
 match cl with
 | []=>K st
 | t :: cl=>match (qb st.bx 200 ((t::cl).flatMap fun t=>(st.sl.getD t .any).refs) []).filter (zQm st) with
   | []=>K st
   | k::ks=>match zNV ops (k::ks) st pf&&((t::cl)++fs).all (zRs ops pf) with
     | true=>zGm N0 fs (qb st.bx 200 (fs.flatMap fun t=>(st.sl.getD t .any).refs) []) (k::ks) st K
     | false=>False
theorem Stp.trans {T:List Nat} {st st1 st2:St} (h1:Stp T T none st st1) (h2:Stp T T none st1 st2):Stp T T none st st2:=
 ⟨fun i p hi hp hT=>h2.sl i p hi (h1.sl i p hi hp hT) hT,fun k B hk h3 h4=>h2.bx k B (h1.bx k B hk h3 h4) h3 h4,oS h1.bl h2.bl,h2.ll.trans h1.ll⟩
theorem Stp.wide {T T':List Nat} {dst:Option Nat} (h:Stp T T dst st st') (hT:∀ k∈T,k∈T'):Stp T' T' dst st st':=
 ⟨fun i p hi hp hk=>h.sl i p hi hp fun k hkT=>hk k (hT k hkT),fun k B hk h3 h4=>h.bx k B hk (fun hc=>h3 (hT k hc)) fun j hj=>h4 j (hT j hj),h.bl,h.ll⟩
theorem zG0 {k z:Nat} {s p:PV} (h:k∉p.refs):zKX k s z p=p:=by
 cases p<;>simp only [zKX]<;>first
  | exact zCi h
  | (simp [PV.refs] at h;rw [if_neg (Ne.symm h)])
theorem zNC {k z:Nat} {s p:PV} (h:k∉p.refs):Proofs.YtkdjhkfiolhkiaaGreat.clo k s z p=p:=by
 cases p
 case pg cs=>
  simp only [Proofs.YtkdjhkfiolhkiaaGreat.clo]
  rw [if_neg]
  simpa [PV.refs] using h
 all_goals exact @zG0 k z s _ h
theorem stp_clo {k z N:Nat} {s:PV}:Stp [k] [k] none st (st.clo k s z N):=by
 refine ⟨fun i p _ hp hT=>?_,fun j B hj h1 h2=>?_,by simp [St.clo],by simp [St.clo]⟩
 ·simp only [St.clo,oE,hp,oc,zNC (hT k (by simp))]
 ·simp only [St.clo]
  rw [o9 (by simp at h1;omega),oE,hj]
  simp only [oc]
  congr 1
  cases B with
  | var cs=>
    simp only [Bx.clo]
    congr 1
    conv=>rhs;rw [<-List.map_id cs]
    refine ow fun p hp=>zG0 fun hc=>h2 k (by simp) ?_
    simp only [Bx.refs];exact PV.refsL_mem.2 ⟨p,hp,hc⟩
  | _=>rfl
theorem sV {N0:Option Nat} (hN0:NOk N0 w0) {fs fb:List Nat} {K:St->Prop} (hfs:∀ i∈fs,i∉pS) (hfb:∀ i∈fb,i∉pB) :
  ∀ (ks:List Nat) (st:St),Rel av w0 e0 pS pB a w e st->(∀ k∈ks,k∉pB)->zGm N0 fs fb ks st K->∃ st',K st'/\Stp ks ks none st st'/\Rel av w0 e0 pS pB a w e st'
 | [],st,h,_,hs=>⟨st,hs,Stp.rfl',h⟩
 | k::ks,st,h,hk,hs=>by
   simp only [zGm] at hs
   obtain ⟨s,z,N,h1,h2,_⟩:=zHg h hN0 (hk k (by simp)) hfs hfb hs
   obtain ⟨st',h3,h4,h5⟩:=sV hN0 hfs hfb ks _ h2 (fun j hj=>hk j (by simp [hj])) h1
   exact ⟨st',h3,(stp_clo.wide (by simp)).trans (h4.wide fun k hk=>by simp [hk]),h5⟩
theorem zK1 {ops:Array Oper} {pf:Pend} {t:Nat} (h:zRs ops pf t=true):∀ x∈pf,rB ops x.1≠some t:=by
 intro x hx hc
 have:=oW.1 h x hx
 rw [hc] at this
 simp at this
theorem wg (h:Rel av w0 e0 pS pB a w e st) {N0:Option Nat} (hN0:NOk N0 w0) {ops:Array Oper} {pf:Pend} (hpf:∀ t∈pS,∃ x∈pf,rB ops x.1=some t) {cl fs:List Nat} {K:St->Prop} (hs:sc N0 ops pf cl fs st K) :
  ∃ st' T,K st'/\Stp T T none st st'/\zNV ops T st pf=true/\Rel av w0 e0 pS pB a w e st':=by
 unfold sc at hs
 split at hs
 ·exact ⟨st,[],hs,Stp.rfl',rfl,h⟩
 ·rename_i t cl
  split at hs
  ·exact ⟨st,[],hs,Stp.rfl',rfl,h⟩
  ·rename_i k ks hks
   split at hs
   ·rename_i hsf
    simp only [oL] at hsf
    obtain ⟨h1,h2⟩:=hsf
    have hoff:∀ i∈(t::cl)++fs,i∉pS:=fun i hi hc=>by
     obtain ⟨x,hx,hd⟩:=hpf i hc
     exact zK1 (oW.1 h2 i hi) x hx hd
    have href:∀ i,i∈(t::cl)++fs->∀ j∈(st.sl.getD i .any).refs,j∉pB:=fun i hi j hj=>by
     rw [oA] at hj
     cases hp:st.sl[i]? with
     | none=>rw [hp] at hj;simp [PV.refs] at hj
     | some p=>rw [hp] at hj;exact (h.sr i p hp (hoff i hi) j hj).1
    have hout:∀ l:List Nat,(∀ i∈l,i∈(t::cl)++fs)->∀ j∈qb st.bx 200 (l.flatMap fun t=>(st.sl.getD t .any).refs) [],j∉pB:=fun l hl=>by
     refine qO (A:=fun j=>j∉pB) (fun k hk j hj=>?_) _ _ _ (fun j hj=>?_) (by simp)
     ·rw [oA] at hj
      cases hB:st.bx[k]? with
      | none=>rw [hB] at hj;simp [Bx.refs] at hj
      | some B=>rw [hB] at hj;exact (h.bf k B hB hk j hj).1
     ·obtain ⟨i,hi,hj⟩:=nk.1 hj
      exact href i (hl i hi) j hj
    obtain ⟨st',g1,g2,g3⟩  :=sV hN0 (fun i hi=>hoff i (oi _ hi)) (hout fs fun i hi=>oi _ hi) (k::ks) st h (fun j hj=>by
     rw [<-hks] at hj
     exact hout (t::cl) (fun i hi=>oY _ hi) j (nu.1 hj).1) hs
    exact ⟨st',_,g1,g2,h1,g3⟩
   ·exact hs.elim
def zON (ops:Array Oper) (i j:Nat):Bool:=match ops[j]? with
 | some o=>o.after.any fun e=>e.on==i&&Region.binds .any e
 | none=>false
/-- the operations that an operation comes behind -/
def zDm (ops:Array Oper) (j:Nat):List Nat:=match ops[j]? with
 | some o=>(o.after.toList.filter (Region.binds .any)).map (·.on)
 | none=>[]
def zPZ (ops:Array Oper):Nat->List Nat->List Nat->List Nat
 | 0,_,dn=>dn
 | _+1,[],dn=>dn
 | n+1,k::td,dn=>match dn.contains k with
   | true=>zPZ ops n td dn
   | false=>zPZ ops n (zDm ops k++td) (k::dn)
theorem zGI {ops:Array Oper} {A:Nat->Prop} (hA:∀ k,A k->∀ j∈zDm ops k,A j):∀ (n:Nat) (td dn:List Nat),(∀ k∈td,A k)->(∀ k∈dn,A k)->∀ k∈zPZ ops n td dn,A k
 | 0,_,dn,_,h=>h
 | _+1,[],dn,_,h=>h
 | n + 1,k::td,dn,h1,h2=>by
   simp only [zPZ]
   split
   ·exact zGI hA n td dn (fun j hj=>h1 j (by simp [hj])) h2
   ·refine zGI hA n _ _ (fun j hj=>?_) fun j hj=>?_
    ·rcases oI.1 hj with hj | hj
     ·exact hA k (h1 k (by simp)) j hj
     ·exact h1 j (by simp [hj])
    ·rcases oG.1 hj with rfl | hj
     ·exact h1 j (by simp)
     ·exact h2 j hj
def zMv (ac:List Nat) (nv:Pend):Pend:=nv.filter fun x=>!ac.contains x.1
def zFs (ops:Array Oper) (j:Nat) (nv:Pend):Pend:=match nv with
 | []=>[]
 | nv=>zMv (zPZ ops 1000 (zDm ops j) []) nv
def zOu (P:Program) (sh:FuncId->List Sh) (N0:Option Nat) (ops:Array Oper) (pf:Pend) (en:Ent) (o:Oper) (st:St) (K:St->Prop):Prop:=
 match en.mh with
 | none=>match en.tr with
   | false=>sc N0 ops pf en.cl en.fs st fun st=>match zRI ops (zJX P sh o st) st pf with
     | true=>zNS P sh o st K
     | false=>False
   | true=>match pf with
     | []=>zNS P sh o st fun st=>zKw st o.dst K
     | _=>False
 | some mh=>match pf with
   | []=>zPj P N0 mh o st K
   | _=>False
def zRW (o:Oper) (st:St):Bool:=o.op.operands.toList.all fun y=>(opd st.sl y).refs.all fun k=>decide (k<st.bx.length)
def Res.bk (r:Res) (n:Nat):Option Nat:=match r with
 | .v _=>none
 | .b ..=>some n
def zI2 (P:Program) (sh:FuncId->List Sh) (N0:Option Nat) (ops:Array Oper):List Ent->Pend->St->(St->Prop)->Prop
 | [],_,st,K=>K st
 | en :: l,nv,st,K=>match ops[en.i]? with
   | none=>False
   | some o=>match en.hard with
     | true=>zLO ops o st (fun st=>zOu P sh N0 ops (zFs ops en.i nv) en o st fun st=>zI2 P sh N0 ops l nv st K) (fun st=>zI2 P sh N0 ops l nv (st.put o.dst (.tp [])) K)
     | false=>zLO ops o st (fun st=>match zOz o.op&&zRW o st with
      | true=>nev P (opd st.sl) (fun k=>st.bx[k]?) o.op o.type fun r=>zI2 P sh N0 ops l ((en.i,r.bk st.bx.length)::nv) (st.push o.dst r) K
      | false=>False) (fun st=>zI2 P sh N0 ops l ((en.i,none)::nv) (st.put o.dst (.tp [])) K)
theorem zCN {bx:List Bx}:ValOk av w e pB bx undef (.tp []):=⟨.inr rfl,by simp [PV.Ok,PV.OkL],by simp [PV.refs,PV.refsL]⟩
theorem vo {ops:Array Oper} {o:Oper} {y:Operand} {t:Nat} (hy:y∈o.op.operands) (ht:y=.tmp t):t∈o.looksAt ops:=by
 subst ht
 exact oY _ (nV.2 ⟨.tmp t,ol.2 hy,rfl⟩)
/-- a hard entry, carried out -/
theorem zHu (h:Rel av w0 e0 pS pB a w e st) {N0:Option Nat} (hN0:NOk N0 w0) (hpl:∀ k∈pB,k<st.bx.length) {sh:FuncId->List Sh} {ops:Array Oper} {pf:Pend} (hpf:∀ t∈pS,∃ x∈pf,rB ops x.1=some t) (hpb:∀ k∈pB,∃ x∈pf,x.2=some k)
  {en:Ent} {o:Oper} (ho:ops[en.i]?=some o) (hl:∀ t∈o.looksAt ops,t∉pS) {K:St->Prop}
  (hs:zLO ops o st (fun st=>zOu P sh N0 ops pf en o st K) (fun st=>K (st.put o.dst (.tp [])))) {next:Act->World->Prop} {Q:Exit->Act->World->Prop}
  (hn:∀ v w' e' st',K st'->st.bx.length<=st'.bx.length->(∀ x∈pf,∀ ox,ops[x.1]?=some ox->zPy ops P st ox x.2->(∀ d,o.dst=some d->d∉ox.looksAt ops/\ox.dst≠some d)->zPy ops P st' ox x.2) ->
   Rel av w0 e0 pS pB (a.put o.dst v) w' e' st'->next (a.put o.dst v) w'):wpOp P ops Q en.i next a w:=by
 unfold wpOp
 rw [ho]
 simp only
 rcases zEe hs with ⟨hw,hs⟩ | ⟨hw,hs⟩
 ·rw [if_pos (zHl h hw hl)]
  refine .inl ?_
  unfold zOu at hs
  split at hs
  rotate_left
  ·split at hs
   rotate_left
   ·exact hs.elim
   have e1:pS=[]:=nM.2 fun t ht=>by obtain ⟨x,hx,_⟩:=hpf t ht;simp at hx
   have e2:pB=[]:=nM.2 fun t ht=>by obtain ⟨x,hx,_⟩:=hpb t ht;simp at hx
   subst e1;subst e2
   exact zKd h hN0 hs fun v w' e' st' g1 g2 g3=>hn v w' e' st' g1 g2 (fun x hx=>by simp at hx) g3
  split at hs
  rotate_left
  ·split at hs
   rotate_left
   ·exact hs.elim
   have e1:pS=[]:=nM.2 fun t ht=>by obtain ⟨x,hx,_⟩:=hpf t ht;simp at hx
   have e2:pB=[]:=nM.2 fun t ht=>by obtain ⟨x,hx,_⟩:=hpb t ht;simp at hx
   subst e1;subst e2
   refine zHw h hpl (fun y hy t ht=>hl t (vo hy ht)) hs fun v w' e' st' g1 g2 g3=>?_
   obtain ⟨st2,k1,k2,k3⟩:=zIZ g3 g1
   exact hn v w' e' st2 k1 (by rw [k3];exact g2.bl) (fun x hx=>by simp at hx) k2
  obtain ⟨st1,T,h1,h2,h3,h4⟩:=wg h hN0 hpf hs
  split at h1
  ·rename_i hsf
   refine zHw h4 (fun k hk=>oq (hpl k hk) h2.bl) (fun y hy t ht=>hl t (vo hy ht)) h1 fun v w' e' st' g1 g2 g3=>hn v w' e' st' g1 (oS h2.bl g2.bl) (fun x hx ox hox hk hd=>?_) g3
   exact zBe (zBe hk h2 (fun _ h=>h) (.inl (zJ8 h3 hx hox)) fun d hd=>by cases hd) g2 zNT (zMW hsf hx hox) hd
  ·exact h1.elim
 ·rw [if_neg (by rw [zGr h hw hl];simp)]
  exact hn undef w e _ hs (by cases o.dst<;>exact oD _) (fun x hx ox hox hk hd=>zBe hk (Stp.put (T:=[]) (TA:=[]) Stp.rfl' _) (fun _ h=>h) (.inl zBd) hd) (xI h zCN fun i hi _=>hi)
theorem zHv {N0:Option Nat} (hN0:NOk N0 w0) {sh:FuncId->List Sh} {ops:Array Oper} {K:St->Prop} {Q:Exit->Act->World->Prop} (hQ:∀ a w e st,K st->Rel av w0 e0 [] [] a w e st->Q .normal a w) :
  ∀ (l:List Ent) (a:Act) (w:World) (e:Env) (st:St),(∀ en∈l,en.hard=true)->Rel av w0 e0 [] [] a w e st->zI2 P sh N0 ops l [] st K->wpOps P ops Q (l.map (·.i)) a w
 | [],a,w,e,st,_,h,hs=>hQ a w e st hs h
 | en::l,a,w,e,st,hh,h,hs=>by
   rw [o6,wpOps_cons]
   simp only [zI2] at hs
   cases ho:ops[en.i]? with
   | none=>rw [ho] at hs;exact hs.elim
   | some o=>
     rw [ho] at hs
     simp only [hh en (by simp)] at hs
     exact zHu h hN0 (by simp) (by simp) (by simp) ho (by simp) hs fun v w' e' st' h1 _ _ h2=>zHv hN0 hQ l _ _ _ _ (fun x hx=>hh x (by simp [hx])) h2 h1
/-- entries in order, all of them hard -/
def zIm (n:Nat) (l:List Ent):Bool:=(l.map (·.i))==List.range n&&l.all (·.hard)
theorem zKf {N0:Option Nat} (hN0:NOk N0 w0) {sh:FuncId->List Sh} {id:Nat} {ops:Array Oper} {l:List Ent} {K:St->Prop} {Q:Exit->Act->World->Prop} (hl:zIm ops.size l=true) (h:Rel av w0 e0 [] [] a w e st)
  (hs:zI2 P sh N0 ops l [] st K) (hQ:∀ a w e st,K st->Rel av w0 e0 [] [] a w e st->Q .normal a w):(Code.region id ops false).wp P Q a w:=by
 simp only [zIm,oL,nz,oW] at hl
 refine wp_region ?_
 rw [<-hl.1]
 exact zHv hN0 hQ l a w e st hl.2 h hs
end Go.Proofs.YtkdjhkfiolhkiaaGreat
