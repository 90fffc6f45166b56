/- Calls that write the data that they are handed. -/
import Derived.Test.YtmfjakahanbnlaaGreatDoorJq
set_option linter.unusedVariables false
set_option linter.unusedSimpArgs false
namespace Go.Proofs.YtmfjakahanbnlaaGreatDoor
open Go
variable {av:Nat->Prop} {P:Program} {w0 w w':World} {e0 e:Env} {pS pS' pB pB':List Nat} {a:Act} {st st':St}
mutual
/-- every slice in it begins its block -/
def D.Flat0:D->Prop
 | .lit _=>True
 | .ag cs=>xU cs
 | .sl a _ es _=>(∀ ad,a=some ad->ad.off=0)/\xU es
 | .pt ..=>False
 | .fn ..=>False
 | .mp ..=>False
def xU:List D->Prop
 | []=>True
 | d::ds=>d.Flat0/\xU ds
end
/-- none of the others shares a block with it -/
structure Dis (d:D) (ds:List D):Prop where
 h:∀ x∈ds,∀ b∈d.foot,b∉x.foot
/-- what such a call has done -/
structure Mk0 (w0 w:World) (d d':D):Prop where
 size:w0.heap.size<=w.heap.size
 old:∀ b,b<w0.heap.size->b∉d.foot->w.heap[b]?=w0.heap[b]?
 fz:∀ (b:Nat) (c:Array Value) (t:TypeId) (z:Nat × Nat),(w0.heap.size<=b\/b∈d.foot)->w.heap[b]?=some (.cells c t z)->Fz z
 hd:Holds w d'
 ft:d'.foot=d.foot
 ku:KU w0 w
def D.elems:D->List D
 | .sl _ _ es _=>es
 | _=>[]
def w6:PV->Bool
 | .any=>true
 | .int ..=>true
 | .bool ..=>true
 | .str ..=>true
 | .lit ..=>true
 | .sb ..=>true
 | .pb ..=>true
 | .sv ..=>true
 | .d ..=>true
 | .dc ..=>true
 | .dg ..=>true
 | _=>false
def zHj:PV->Bool
 | .any=>true
 | .int ..=>true
 | .bool ..=>true
 | .str ..=>true
 | .lit ..=>true
 | .sb ..=>true
 | .pb ..=>true
 | _=>false
/-- the slots behind the call -/
def tV (ks:List Nat):Nat->List PV->List PV
 | _,[]=>[]
 | i,p::ps=>(match zHj p with
   | true=>p
   | false=>match ks.contains i&&w6 p with
     | true=>p
     | false=>.any)::tV ks (i+1) ps
def dsL:List PV->List D
 | []=>[]
 | p::ps=>p.ds1++dsL ps
/-- the other boxes' data -/
def dsB (k:Option Nat):Nat->List Bx->Option (List D)
 | _,[]=>some []
 | i,B::bs=>match dsB k (i+1) bs with
   | none=>none
   | some ds=>match B with
     | .var cs=>match cs.all w6 with
       | true=>some (dsL cs++ds)
       | false=>none
     | B => match (match k with
         | some k=>Nat.beq k i
         | none=>false) with
       | true=>some ds
       | false=>some (B.ds++ds)
theorem uK {ks:List Nat}:∀ (l:List PV) (i:Nat),(tV ks i l).length=l.length
 | [],i=>rfl
 | p::l,i=>by simp [tV,uK l]
theorem pD {ks:List Nat}:∀ (l:List PV) (i j:Nat) (q:PV),(tV ks i l)[j]?=some q->∃ p,l[j]?=some p/\(q=.any\/(q=p/\w6 p=true/\∀ x∈p.ds1,x∈dsL (tV ks i l)))
 | [],i,j,q,h=>by simp [tV] at h
 | p :: l,i,j,q,h=>by
   cases j with
   | zero=>
     simp only [tV,nu,oZ] at h
     refine ⟨p,rfl,?_⟩
     cases hb:zHj p with
     | true=>
       rw [hb] at h
       refine .inr ⟨h.symm,by cases p<;>simp [zHj] at hb<;>rfl,fun x hx=>?_⟩
       cases p<;>simp [zHj] at hb<;>simp [PV.ds1] at hx
     | false=>
       rw [hb] at h
       cases hc:(ks.contains i&&w6 p) with
       | true=>
         rw [hc] at h
         simp only [oL] at hc
         refine .inr ⟨h.symm,hc.2,fun x hx=>?_⟩
         simp only [tV,hb,hc.1,hc.2,Bool.and_self,dsL]
         exact oW _ hx
       | false=>rw [hc] at h;exact .inl h.symm
   | succ j=>
     simp only [tV,nF] at h ⊢
     obtain ⟨p',h1,h2⟩:=pD l (i+1) j q h
     refine ⟨p',h1,h2.imp id fun ⟨h3,h4,h5⟩=>⟨h3,h4,fun x hx=>?_⟩⟩
     simp only [dsL]
     exact o5 _ (h5 x hx)
theorem zJO {l:List PV} {p:PV} (hp:p∈l):∀ x∈p.ds1,x∈dsL l:=by
 induction l with
 | nil=>simp at hp
 | cons q l ih=>
   intro x hx
   simp only [dsL]
   rcases oI.1 hp with rfl | hp
   ·exact oW _ hx
   ·exact o5 _ (ih hp x hx)
theorem zBU {k:Option Nat}:∀ (l:List Bx) (i:Nat) (ds:List D),dsB k i l=some ds->∀ (j:Nat) (B:Bx),l[j]?=some B ->
  (∃ cs,B=.var cs/\(∀ p∈cs,w6 p=true)/\∀ p∈cs,∀ x∈p.ds1,x∈ds)\/((∀ cs,B≠.var cs)/\(k=some (i+j)\/∀ x∈B.ds,x∈ds))
 | [],i,ds,h,j,B,hj=>by simp at hj
 | C :: l,i,ds,h,j,B,hj=>by
   simp only [dsB] at h
   split at h
   ·cases h
   ·rename_i ds' hds
    have tail:∀ j,l[j]?=some B->(∃ cs,B=.var cs/\(∀ p∈cs,w6 p=true)/\∀ p∈cs,∀ x∈p.ds1,x∈ds')\/((∀ cs,B≠.var cs)/\(k=some (i+(j+1))\/∀ x∈B.ds,x∈ds')):=fun j hj=>by
     have:=zBU l (i+1) ds' hds j B hj
     rwa [show i+1+j=i+(j+1) by omega] at this
    have up:(∀ x∈ds',x∈ds)->∀ j,l[j]?=some B->(∃ cs,B=.var cs/\(∀ p∈cs,w6 p=true)/\∀ p∈cs,∀ x∈p.ds1,x∈ds)\/((∀ cs,B≠.var cs)/\(k=some (i+(j+1))\/∀ x∈B.ds,x∈ds)):=fun hsub j hj=>by
     rcases tail j hj with ⟨cs,h1,h2,h3⟩ | ⟨h1,h2⟩
     ·exact .inl ⟨cs,h1,h2,fun p hp x hx=>hsub x (h3 p hp x hx)⟩
     ·exact .inr ⟨h1,h2.imp id fun h3 x hx=>hsub x (h3 x hx)⟩
    have other:(∀ cs,C≠.var cs)->(match (match k with
      | some k=>Nat.beq k i
      | none=>false) with
     | true=>some ds'
     | false=>some (C.ds++ds'))=some ds->(∃ cs,B=.var cs/\(∀ p∈cs,w6 p=true)/\∀ p∈cs,∀ x∈p.ds1,x∈ds)\/((∀ cs,B≠.var cs)/\(k=some (i+j)\/∀ x∈B.ds,x∈ds)):=fun hC h=>by
     split at h
     ·rename_i hk
      cases h
      cases j with
      | zero=>
        simp at hj;subst hj
        refine .inr ⟨hC,.inl ?_⟩
        cases k with
        | none=>cases hk
        | some k=>simp at hk;simp [hk]
      | succ j=>exact up (fun _=>id) j (by simpa using hj)
     ·cases h
      cases j with
      | zero=>simp at hj;subst hj;exact .inr ⟨hC,.inr fun x hx=>oW _ hx⟩
      | succ j=>exact up (fun x hx=>o5 _ hx) j (by simpa using hj)
    cases C with
    | var cs=>
      simp only at h
      split at h
      ·rename_i hall
       cases h
       cases j with
       | zero=>
         simp at hj;subst hj
         exact .inl ⟨cs,rfl,fun p hp=>oS.1 hall p hp,fun p hp x hx=>oW _ (zJO hp x hx)⟩
       | succ j=>exact up (fun x hx=>o5 _ hx) j (by simpa using hj)
      ·cases h
    | vd x n=>exact other (by simp) h
    | arr t z es c=>exact other (by simp) h
    | gone=>exact other (by simp) h
theorem Good.apart {F:List Nat} {live:Nat->Prop} (hold:∀ b,b<w.heap.size->b∉F->w'.heap[b]?=w.heap[b]?) {x:D} (h:Good w live x) (hx:∀ b∈x.foot,b∉F):Good w' live x:=
 ⟨h.1.mono fun b hb=>hold b (h.1.lt b hb) (hx b hb),h.2⟩
theorem zEz {F:List Nat} {live:Nat->Prop} (hold:∀ b,b<w.heap.size->b∉F->w'.heap[b]?=w.heap[b]?) {p:PV} (hp:w6 p=true) (h:p.Ok w live) (hx:∀ x∈p.ds1,∀ b∈x.foot,b∉F):p.Ok w' live:=by
 cases p<;>simp [w6] at hp<;>simp only [PV.Ok] at h ⊢<;>simp only [PV.ds1] at hx
 ·exact h
 ·exact h.apart hold (hx _ (by simp))
 ·exact h.apart hold (hx _ (by simp))
 ·exact ⟨h.1.apart hold (hx _ (by simp)),h.2⟩
 ·exact ⟨h.1.apart hold (hx _ (by simp)),h.2⟩
structure BAft (w':World) (e:Env) (live:Nat->Prop) (at_:Option Nat) (B B':Bx):Prop where
 g:B'=.gone↔B=.gone
 rf:B'.refs=B.refs
 rel:B'.Rel w' e at_
 ok:B'.Ok w' live
/-- behind a call that has written the data d -/
theorem zDB (h:Rel av w0 e0 [] [] a w e st) {d d':D} (hm:Mk0 w w' d d') (hb:∀ b∈d.foot,w0.heap.size<=b\/some b∈e0) {sl':List PV} {bx':List Bx}
  (hll:sl'.length<=st.sl.length) (hbl:bx'.length=st.bx.length)
  (hsl:∀ (i:Nat) (q:PV),sl'[i]?=some q->∃ p,st.sl[i]?=some p/\(q=.any\/(q=p/\w6 p=true/\∀ x∈p.ds1,∀ b∈x.foot,b∉d.foot)))
  (hbx:∀ (k:Nat) (B':Bx),bx'[k]?=some B'->∃ B,st.bx[k]?=some B/\BAft w' e (zJ av [] e st.bx) (e.at k) B B') :
  Rel av w0 e0 [] [] a w' e { st with sl:=sl',bx:=bx',N:=w'.heap.size }:=by
 have hlives:∀ k b,Lives [] e bx' k b->Lives [] e st.bx k b:=fun k b ⟨h1,h2,B',h3,h4⟩=>by
  obtain ⟨B,h5,h6⟩:=hbx k B' h3
  exact ⟨h1,h2,B,h5,fun hc=>h4 (h6.g.2 hc)⟩
 have hlive:∀ b,zJ av [] e bx' b->zJ av [] e st.bx b:=fun b hl=>hl.imp id fun ⟨k,hk⟩=>⟨k,hlives k b hk⟩
 exact {
  el:=h.el.trans hbl.symm
  br:=fun k B' hk _=>by obtain ⟨B,_,h6⟩:=hbx k B' hk;exact h6.rel
  bo:=fun k B' hk _=>by
   obtain ⟨B,_,h6⟩:=hbx k B' hk
   exact h6.ok.mono (fun _ _ _=>rfl) (oF _) fun b _=>hlive b
  bf:=fun k B' hk _ j hj=>by
   obtain ⟨B,h5,h6⟩:=hbx k B' hk
   rw [h6.rf] at hj
   have:=h.bf k B h5 (by simp) j hj
   exact ⟨by simp,by show j<bx'.length;rw [hbl];exact this.2⟩
  inj:=fun k j b hk hj=>h.inj k j b (hlives k b hk) (hlives j b hj)
  ku:=h.ku.trans hm.ku
  size:=ol h.size hm.size
  old:=fun b hb' hn=>by
   rw [hm.old b (ow hb' h.size) (fun hc=>by
    rcases hb b hc with h1 | h1
    ·omega
    ·exact hn h1)]
   exact h.old b hb' hn
  fz:=fun b c t z hb' hc=>by
   by_cases hlt:b<w.heap.size
   ·by_cases hf:b∈d.foot
    ·exact hm.fz b c t z (.inr hf) hc
    ·rw [hm.old b hlt hf] at hc;exact h.fz b c t z hb' hc
   ·exact hm.fz b c t z (.inl (by omega)) hc
  nd:=h.nd
  sz:=ol hll h.sz
  hN:=oF _
  hs:=fun i q hi _=>by
   obtain ⟨p,h1,h2 | ⟨rfl,h3,h4⟩⟩:=hsl i q hi
   ·exact .inl h2
   ·exact h.hs i q h1 (by simp)
  so:=fun i q hi _=>by
   obtain ⟨p,h1,h2 | ⟨rfl,h3,h4⟩⟩:=hsl i q hi
   ·subst h2;trivial
   ·exact PV.Ok.mono (fun _ _ _=>rfl) (oF _) (fun b _=>hlive b) q (zEz hm.old h3 (h.so i q h1 (by simp)) h4)
  sr:=fun i q hi _ k hk=>by
   obtain ⟨p,h1,h2 | ⟨rfl,h3,h4⟩⟩:=hsl i q hi
   ·subst h2;simp [PV.refs] at hk
   ·have:=h.sr i q h1 (by simp) k hk
    exact ⟨by simp,by show k<bx'.length;rw [hbl];exact this.2⟩
  own:=fun k b hk=>h.own k b (hlives k b hk)
  avl:=h.avl
  avn:=fun k b hk=>h.avn k b (hlives k b hk)
  pin:=h.pin
  pit:=h.pit }
/-- a box that the call has left alone -/
theorem zFC (h:Rel av w0 e0 [] [] a w e st) {d d':D} (hg:Good w (zJ av [] e st.bx) d) (hm:Mk0 w w' d d') {k:Nat} {B:Bx} (hk:st.bx[k]?=some B)
  (hp:(∃ cs,B=.var cs/\(∀ p∈cs,w6 p=true)/\∀ p∈cs,∀ x∈p.ds1,∀ b∈x.foot,b∉d.foot)\/((∀ cs,B≠.var cs)/\∀ x∈B.ds,∀ b∈x.foot,b∉d.foot)):BAft w' e (zJ av [] e st.bx) (e.at k) B B:=by
 refine ⟨mS,rfl,?_,?_⟩
 ·by_cases hgn:B=.gone
  ·subst hgn;exact True.intro
  ·refine (h.br k B hk (by simp)).congr (fun b hb=>?_) fun _ _=>rfl
   have hl:Lives [] e st.bx k b:=⟨by simp,hb,B,hk,hgn⟩
   exact hm.old b (Lives.lt h.toMem hl) fun hc=>hg.2 b hc (.inr ⟨k,hl⟩)
 ·have ho:=h.bo k B hk (by simp)
  cases B with
  | var cs=>
    rcases hp with ⟨cs',h1,h2,h3⟩ | ⟨h1,_⟩
    ·cases h1
     have ho1:=ho.1
     rw [PV.OkL_iff] at ho1
     exact ⟨PV.OkL_iff.2 fun p hp=>zEz hm.old (h2 p hp) (ho1 p hp) (h3 p hp),ho.2⟩
    ·exact absurd rfl (h1 cs)
  | vd x n=>
    rcases hp with ⟨cs',h1,_⟩ | ⟨_,h2⟩
    ·cases h1
    ·exact Good.apart hm.old ho (h2 x (by simp [Bx.ds]))
  | arr t z es c=>
    rcases hp with ⟨cs',h1,_⟩ | ⟨_,h2⟩
    ·cases h1
    ·intro x hx
     refine Good.apart hm.old (ho x hx) fun b hb=>h2 (.ag es) (by simp [Bx.ds]) b ?_
     simp only [D.foot];exact zD.2 ⟨x,hx,hb⟩
  | gone=>exact True.intro
theorem zGl {d d':D} {live:Nat->Prop} (hg:Good w live d) (hm:Mk0 w w' d d'):Good w' live d':=⟨hm.hd,fun b hb=>hg.2 b (hm.ft ▸ hb)⟩
variable {av:Nat->Prop} {P:Program} {w0 w w':World} {e0 e:Env} {pS pS' pB pB':List Nat} {a:Act} {st st':St}
/-- a slot is told anew -/
theorem zHx (h:Rel av w0 e0 [] [] a w e st) {s:Nat} {q:PV} (hv:ValOk av w e [] st.bx (a.tmps.getD s undef) q):Rel av w0 e0 [] [] a w e { st with sl:=st.sl.set s q }:=by
 have hget:∀ (i:Nat) (p:PV),(st.sl.set s q)[i]?=some p->(i=s/\p=q)\/st.sl[i]?=some p:=fun i p hi=>by
  rw [nI] at hi
  split at hi
  ·rename_i hsi
   split at hi
   ·simp at hi;exact .inl ⟨hsi.symm,hi.symm⟩
   ·cases hi
  ·exact .inr hi
 exact { h with
  sz:=by simpa using h.sz
  hs:=fun i p hi hn=>by
   rcases hget i p hi with ⟨rfl,rfl⟩ | hi
   ·exact hv.1
   ·exact h.hs i p hi hn
  so:=fun i p hi hn=>by
   rcases hget i p hi with ⟨rfl,rfl⟩ | hi
   ·exact hv.2.1
   ·exact h.so i p hi hn
  sr:=fun i p hi hn=>by
   rcases hget i p hi with ⟨rfl,rfl⟩ | hi
   ·exact hv.2.2
   ·exact h.sr i p hi hn }
variable {av:Nat->Prop} {P:Program} {w0 w w':World} {e0 e:Env} {pS pS' pB pB':List Nat} {a:Act} {st st':St}
/-- a string put into a map of strings -/
def zE8 (P:Program) (t:TypeId) (es:Array MapEntry) (c:Nat) (s u:ByteArray) (es':Array MapEntry) (c':Nat):Prop:=∀ (w:World) (b:Nat),w.heap[b]?=some (.map es c) ->
 ∃ w',(Instr.mapUpdate t (.map (some b)) (.string s) (.string u)).run P w=.ok () w'/\w'.heap.size=w.heap.size/\w'.heap[b]?=some (.map es' c')/\(∀ j,j≠b->w'.heap[j]?=w.heap[j]?)/\KU w w'
def zLS (P:Program) (N0:Option Nat) (h:MkH) (o:Oper) (st:St) (K:St->Prop):Prop:=
 match o.op,o.dst,h.same,N0 with
 | .mapUpdate t m k v,none,some sl,some n0=>match P.underlying t with
   | some (.map kt et)=>frc P kt (opd st.sl k) fun p=>frc P et (opd st.sl v) fun q=>match p,q,opd st.sl m,st.sl[sl]? with
     | .str s,.str u,.dc y,some (.dc y')=>match dsB none 0 st.bx with
       | some ds=>∃ b es c,y=.mp b es c/\y'=y/\n0<=b/\Dis y (dsL (tV h.keep 0 st.sl)++ds)/\∃ es' c',zE8 P t es c s u es' c'/\K { st with sl:=(tV h.keep 0 st.sl).set sl (.dc (.mp b es' c')) }
       | none=>False
     | _,_,_,_=>False
   | _=>False
 | _,_,_,_=>False
theorem zHL (h:Rel av w0 e0 [] [] a w e st) {N0:Option Nat} (hN0:NOk N0 w0) {mh:MkH} {o:Oper} {K:St->Prop} (hs:zLS P N0 mh o st K) {next:Act->World->Prop} {Q:Exit->Act->World->Prop}
  (hn:∀ v w' e' st',K st'->st.bx.length<=st'.bx.length->Rel av w0 e0 [] [] (a.put o.dst v) w' e' st'->next (a.put o.dst v) w'):o.wp P a w next Q:=by
 unfold zLS at hs
 split at hs
 rotate_left
 ·exact hs.elim
 rename_i t m k v sl n0 hop hdst hsame
 split at hs
 rotate_left
 ·exact hs.elim
 rename_i kt et hu
 obtain ⟨p,h1,h2, -⟩:=zQ (yP h (x:=k) (by simp)).valOk hs
 obtain ⟨q,h3,h4, -⟩:=zQ (yP h (x:=v) (by simp)).valOk h1
 split at h3
 rotate_left
 ·exact h3.elim
 rename_i s u y y' hm hy'
 split at h3
 rotate_left
 ·exact h3.elim
 rename_i ds hds
 obtain ⟨b,es,c,rfl,rfl,hb,hdis,es',c',hput,hK⟩:=h3
 obtain rfl:=hN0 _ rfl
 have hmv:=(yP h (x:=m) (by simp)).h.resolve_left (by rw [hm];simp)
 have hmo:=(yP h (x:=m) (by simp)).ok
 rw [hm] at hmv hmo
 simp only [PV.Ok] at hmo
 have hg:=hmo.1
 have hheap:w.heap[b]?=some (.map es c):=by
  cases hg.1
  assumption
 have hsv:=h2.1.resolve_left (by simp)
 have huv:=h4.1.resolve_left (by simp)
 obtain ⟨w',hrun,hsz,hb',hoth,hku⟩:=hput w b hheap
 have hm0:Mk0 w w' (.mp b es c) (.mp b es' c'):=by
  refine ⟨by omega,fun j hj hn=>hoth j (by simpa [D.foot] using hn),fun j cc tt zz hj hc=>?_,.mp hb',rfl,hku⟩
  exfalso
  rcases hj with hj | hj
  ·have:=(oN.1 hc).1
   omega
  ·simp only [D.foot,o8] at hj
   subst hj
   rw [hb'] at hc
   cases hc
 have hslots:∀ (i:Nat) (q:PV),(tV mh.keep 0 st.sl)[i]?=some q->∃ p,st.sl[i]?=some p/\(q=.any\/(q=p/\w6 p=true/\∀ x∈p.ds1,∀ j∈x.foot,j∉(D.mp b es c).foot)):=fun i q hq=>by
  obtain ⟨p,h1,h2⟩:=pD _ _ _ _ hq
  exact ⟨p,h1,h2.imp id fun ⟨h3,h4,h5⟩=>⟨h3,h4,fun x hx j hj hc=>hdis.h x (oW _ (h5 x hx)) j hc hj⟩⟩
 have hr:=zDB h hm0 (fun j hj=>by simp only [D.foot,o8] at hj;subst hj;exact .inl hb) (by rw [uK];exact oF _) rfl hslots fun k B hk=>⟨B,hk,zFC h hg hm0 hk (by
  rcases zBU _ _ _ hds k B hk with ⟨cs,h1,h2,h3⟩ | ⟨h1,h2 | h2⟩
  ·exact .inl ⟨cs,h1,h2,fun p hp x hx j hj hc=>hdis.h x (o5 _ (h3 p hp x hx)) j hc hj⟩
  ·cases h2
  ·exact .inr ⟨h1,fun x hx j hj hc=>hdis.h x (o5 _ (h2 x hx)) j hc hj⟩)⟩
 have hslv:=(h.hs sl _ hy' (by simp)).resolve_left (by simp)
 have hr2:=zHx hr (s:=sl) (q:=.dc (.mp b es' c')) ⟨.inr (by rw [hslv];rfl),⟨zGl hg hm0,trivial⟩,by simp [PV.refs]⟩
 unfold Oper.wp
 have he:(execOp a.eval o).run P w=.ok .skip w':=by
  obtain ⟨dst,op,ty,pos,after,guard⟩:=o
  simp only at hop
  subst hop
  simp only [execOp,hmv,hsv,huv,PV.val,PV.val1,PV.cv,D.cv,Sem.run_bind,hrun,Result.andThen_ok,Sem.run_pure]
 rw [he,Oper.upon_skip]
 refine hn undef w' e _ hK (oF _) ?_
 rw [hdst]
 exact { hr2 with hN:=ol h.hN (by omega) }
/-- a map is made -/
def zLL (P:Program) (h:MkH) (o:Oper) (st:St) (K:St->Prop):Prop:=
 match o.op,dsB none 0 st.bx with
 | .makeMap _ none,some _=>∀ b N,st.N<=b->b<N->K ({ st with sl:=tV h.keep 0 st.sl,N:=N }.put o.dst (.dc (.mp b #[] 0)))
 | _,_=>False
theorem zF7 (h:Rel av w0 e0 [] [] a w e st) {mh:MkH} {o:Oper} {K:St->Prop} (hs:zLL P mh o st K) {next:Act->World->Prop} {Q:Exit->Act->World->Prop}
  (hn:∀ v w' e' st',K st'->st.bx.length<=st'.bx.length->Rel av w0 e0 [] [] (a.put o.dst v) w' e' st'->next (a.put o.dst v) w'):o.wp P a w next Q:=by
 unfold zLL at hs
 split at hs
 rotate_left
 ·exact hs.elim
 rename_i t ds hop hds
 have hm0:Mk0 w (w.alloc (.map #[] 0)) (.lit undef) (.lit undef):=by
  refine ⟨by simp,fun j hj _=>vB hj,fun j cc tt zz hj hc=>?_,.lit,rfl,⟨rfl,rfl⟩⟩
  exfalso
  rcases hj with hj | hj
  ·by_cases hjw:j=w.heap.size
   ·subst hjw;rw [w7] at hc;cases hc
   ·have:=(oN.1 hc).1
    simp at this
    omega
  ·simp [D.foot] at hj
 have hr:=zDB h hm0 (fun j hj=>by simp [D.foot] at hj) (sl':=tV mh.keep 0 st.sl) (by rw [uK];exact oF _) rfl (fun i q hq=>by
  obtain ⟨p,h1,h2⟩:=pD _ _ _ _ hq
  exact ⟨p,h1,h2.imp id fun ⟨h3,h4,h5⟩=>⟨h3,h4,fun x hx j hj hc=>by simp [D.foot] at hc⟩⟩) fun k B hk=>⟨B,hk,zFC h Good.lit hm0 hk (by
  rcases zBU _ _ _ hds k B hk with ⟨cs,h1,h2,h3⟩ | ⟨h1,h2 | h2⟩
  ·exact .inl ⟨cs,h1,h2,fun p hp x hx j hj hc=>by simp [D.foot] at hc⟩
  ·cases h2
  ·exact .inr ⟨h1,fun x hx j hj hc=>by simp [D.foot] at hc⟩)⟩
 unfold Oper.wp
 have he:(execOp a.eval o).run P w=.ok (.value (.map (some w.heap.size))) (w.alloc (.map #[] 0)):=by
  obtain ⟨dst,op,ty,pos,after,guard⟩:=o
  simp only at hop
  subst hop
  simp only [execOp,Instr.makeMap,nj,newObj,Sem.run_bind,Sem.run_pure,Sem.run,Result.andThen_ok]
  rfl
 rw [he,Oper.upon_value]
 have hsz:(w.alloc (.map #[] 0)).heap.size=w.heap.size+1:=by simp
 refine hn _ _ e _ (hs w.heap.size (w.heap.size+1) h.hN (Nat.lt_succ_self _)) (by cases o.dst<;>exact oF _) ?_
 have hr':Rel av w0 e0 [] [] a (w.alloc (.map #[] 0)) e { st with sl:=tV mh.keep 0 st.sl,N:=w.heap.size+1 }:={ hr with hN:=by show w.heap.size+1<=_;omega }
 refine yX hr' ⟨.inr rfl,⟨⟨.mp w7,fun b hb=>?_⟩,trivial⟩,by simp [PV.refs]⟩ fun i hi _=>hi
 simp only [D.foot,o8] at hb
 subst hb
 intro hl
 rcases hl with hl | ⟨k,hk⟩
 ·have:=h.avl.lt _ hl;have:=h.size;omega
 ·have:=Lives.lt h.toMem hk;omega
variable {av:Nat->Prop} {P:Program} {w0 w w':World} {e0 e:Env} {pS pS' pB pB':List Nat} {a:Act} {st st':St}
def zCZ (N0:Option Nat) (fs fb:List Nat):List Nat->St->(St->Prop)->Prop
 | [],st,K=>K st
 | k::ks,st,K=>zGY N0 st k fs fb fun st'=>zCZ N0 fs fb ks st' K
def zLi (ops:Array Oper) (pf:Pend) (t:Nat):Bool:=pf.all fun x=>match uw ops x.1 with
 | some d=>!(d==t)
 | none=>true
/-- the rows that these slots name are closed -/
def uR (N0:Option Nat) (ops:Array Oper) (pf:Pend) (cl fs:List Nat) (st:St) (K:St->Prop):Prop:=
 match cl with
 | []=>K st
 | t :: cl=>match (sB st.bx 200 ((t::cl).flatMap fun t=>(st.sl.getD t .any).refs) []).filter (zKs st) with
   | []=>K st
   | k::ks=>match zIc ops (k::ks) st pf&&((t::cl)++fs).all (zLi ops pf) with
     | true=>zCZ N0 fs (sB st.bx 200 (fs.flatMap fun t=>(st.sl.getD t .any).refs) []) (k::ks) st K
     | false=>False
theorem Stp.trans {T:List Nat} {st st1 st2:St} (h1:Stp T T none st st1) (h2:Stp T T none st1 st2):Stp T T none st st2:=
 ⟨fun i p hi hp hT=>h2.sl i p hi (h1.sl i p hi hp hT) hT,fun k B hk h3 h4=>h2.bx k B (h1.bx k B hk h3 h4) h3 h4,ol h1.bl h2.bl,h2.ll.trans h1.ll⟩
theorem Stp.wide {T T':List Nat} {dst:Option Nat} (h:Stp T T dst st st') (hT:∀ k∈T,k∈T'):Stp T' T' dst st st':=
 ⟨fun i p hi hp hk=>h.sl i p hi hp fun k hkT=>hk k (hT k hkT),fun k B hk h3 h4=>h.bx k B hk (fun hc=>h3 (hT k hc)) fun j hj=>h4 j (hT j hj),h.bl,h.ll⟩
theorem zDT {k z:Nat} {s p:PV} (h:k∉p.refs):zFG k s z p=p:=by
 cases p<;>simp only [zFG]<;>first
  | exact pN h
  | (simp [PV.refs] at h;rw [if_neg (Ne.symm h)])
theorem zIT {k z:Nat} {s p:PV} (h:k∉p.refs):Proofs.YtmfjakahanbnlaaGreatDoor.clo k s z p=p:=by
 cases p
 case pg cs=>
  simp only [Proofs.YtmfjakahanbnlaaGreatDoor.clo]
  rw [if_neg]
  simpa [PV.refs] using h
 all_goals exact @zDT k z s _ h
theorem stp_clo {k z N:Nat} {s:PV}:Stp [k] [k] none st (st.clo k s z N):=by
 refine ⟨fun i p _ hp hT=>?_,fun j B hj h1 h2=>?_,by simp [St.clo],by simp [St.clo]⟩
 ·simp only [St.clo,oE,hp,oT,zIT (hT k (by simp))]
 ·simp only [St.clo]
  rw [nV (by simp at h1;omega),oE,hj]
  simp only [oT]
  congr 1
  cases B with
  | var cs=>
    simp only [Bx.clo]
    congr 1
    conv=>rhs;rw [<-List.map_id cs]
    refine oe fun p hp=>zDT fun hc=>h2 k (by simp) ?_
    simp only [Bx.refs];exact PV.refsL_mem.2 ⟨p,hp,hc⟩
  | _=>rfl
theorem uB {N0:Option Nat} (hN0:NOk N0 w0) {fs fb:List Nat} {K:St->Prop} (hfs:∀ i∈fs,i∉pS) (hfb:∀ i∈fb,i∉pB) :
  ∀ (ks:List Nat) (st:St),Rel av w0 e0 pS pB a w e st->(∀ k∈ks,k∉pB)->zCZ N0 fs fb ks st K->∃ st',K st'/\Stp ks ks none st st'/\Rel av w0 e0 pS pB a w e st'
 | [],st,h,_,hs=>⟨st,hs,Stp.rfl',h⟩
 | k::ks,st,h,hk,hs=>by
   simp only [zCZ] at hs
   obtain ⟨s,z,N,h1,h2,_⟩:=zCa h hN0 (hk k (by simp)) hfs hfb hs
   obtain ⟨st',h3,h4,h5⟩:=uB hN0 hfs hfb ks _ h2 (fun j hj=>hk j (by simp [hj])) h1
   exact ⟨st',h3,(stp_clo.wide (by simp)).trans (h4.wide fun k hk=>by simp [hk]),h5⟩
theorem zHW {ops:Array Oper} {pf:Pend} {t:Nat} (h:zLi ops pf t=true):∀ x∈pf,uw ops x.1≠some t:=by
 intro x hx hc
 have:=oS.1 h x hx
 rw [hc] at this
 simp at this
theorem xb (h:Rel av w0 e0 pS pB a w e st) {N0:Option Nat} (hN0:NOk N0 w0) {ops:Array Oper} {pf:Pend} (hpf:∀ t∈pS,∃ x∈pf,uw ops x.1=some t) {cl fs:List Nat} {K:St->Prop} (hs:uR N0 ops pf cl fs st K) :
  ∃ st' T,K st'/\Stp T T none st st'/\zIc ops T st pf=true/\Rel av w0 e0 pS pB a w e st':=by
 unfold uR at hs
 split at hs
 ·exact ⟨st,[],hs,Stp.rfl',rfl,h⟩
 ·rename_i t cl
  split at hs
  ·exact ⟨st,[],hs,Stp.rfl',rfl,h⟩
  ·rename_i k ks hks
   split at hs
   ·rename_i hsf
    simp only [oL] at hsf
    obtain ⟨h1,h2⟩:=hsf
    have hoff:∀ i∈(t::cl)++fs,i∉pS:=fun i hi hc=>by
     obtain ⟨x,hx,hd⟩:=hpf i hc
     exact zHW (oS.1 h2 i hi) x hx hd
    have href:∀ i,i∈(t::cl)++fs->∀ j∈(st.sl.getD i .any).refs,j∉pB:=fun i hi j hj=>by
     rw [oA] at hj
     cases hp:st.sl[i]? with
     | none=>rw [hp] at hj;simp [PV.refs] at hj
     | some p=>rw [hp] at hj;exact (h.sr i p hp (hoff i hi) j hj).1
    have hout:∀ l:List Nat,(∀ i∈l,i∈(t::cl)++fs)->∀ j∈sB st.bx 200 (l.flatMap fun t=>(st.sl.getD t .any).refs) [],j∉pB:=fun l hl=>by
     refine sO (A:=fun j=>j∉pB) (fun k hk j hj=>?_) _ _ _ (fun j hj=>?_) (by simp)
     ·rw [oA] at hj
      cases hB:st.bx[k]? with
      | none=>rw [hB] at hj;simp [Bx.refs] at hj
      | some B=>rw [hB] at hj;exact (h.bf k B hB hk j hj).1
     ·obtain ⟨i,hi,hj⟩:=nX.1 hj
      exact href i (hl i hi) j hj
    obtain ⟨st',g1,g2,g3⟩  :=uB hN0 (fun i hi=>hoff i (o5 _ hi)) (hout fs fun i hi=>o5 _ hi) (k::ks) st h (fun j hj=>by
     rw [<-hks] at hj
     exact hout (t::cl) (fun i hi=>oW _ hi) j (nk.1 hj).1) hs
    exact ⟨st',_,g1,g2,h1,g3⟩
   ·exact hs.elim
def zIy (ops:Array Oper) (i j:Nat):Bool:=match ops[j]? with
 | some o=>o.after.any fun e=>e.on==i&&Region.binds .any e
 | none=>false
/-- the operations that an operation comes behind -/
def zAS (ops:Array Oper) (j:Nat):List Nat:=match ops[j]? with
 | some o=>(o.after.toList.filter (Region.binds .any)).map (·.on)
 | none=>[]
def zJI (ops:Array Oper):Nat->List Nat->List Nat->List Nat
 | 0,_,dn=>dn
 | _+1,[],dn=>dn
 | n+1,k::td,dn=>match dn.contains k with
   | true=>zJI ops n td dn
   | false=>zJI ops n (zAS ops k++td) (k::dn)
theorem zBy {ops:Array Oper} {A:Nat->Prop} (hA:∀ k,A k->∀ j∈zAS ops k,A j):∀ (n:Nat) (td dn:List Nat),(∀ k∈td,A k)->(∀ k∈dn,A k)->∀ k∈zJI ops n td dn,A k
 | 0,_,dn,_,h=>h
 | _+1,[],dn,_,h=>h
 | n + 1,k::td,dn,h1,h2=>by
   simp only [zJI]
   split
   ·exact zBy hA n td dn (fun j hj=>h1 j (by simp [hj])) h2
   ·refine zBy hA n _ _ (fun j hj=>?_) fun j hj=>?_
    ·rcases oO.1 hj with hj | hj
     ·exact hA k (h1 k (by simp)) j hj
     ·exact h1 j (by simp [hj])
    ·rcases oI.1 hj with rfl | hj
     ·exact h1 j (by simp)
     ·exact h2 j hj
def zIO (ac:List Nat) (nv:Pend):Pend:=nv.filter fun x=>!ac.contains x.1
def zB1 (ops:Array Oper) (j:Nat) (nv:Pend):Pend:=match nv with
 | []=>[]
 | nv=>zIO (zJI ops 1000 (zAS ops j) []) nv
def zJV (P:Program) (sh:FuncId->List Sh) (N0:Option Nat) (ops:Array Oper) (pf:Pend) (en:Ent) (o:Oper) (st:St) (K:St->Prop):Prop:=
 match en.mh with
 | none=>match en.tr with
   | false=>uR N0 ops pf en.cl en.fs st fun st=>match zLa ops (zEf P sh o st) st pf with
     | true=>zHz P sh o st K
     | false=>False
   | true=>match pf with
     | []=>zHz P sh o st fun st=>zGN st o.dst K
     | _=>False
 | some mh=>match pf with
   | []=>match o.op with
     | .mapUpdate ..=>zLS P N0 mh o st K
     | .makeMap ..=>zLL P mh o st K
     | _=>False
   | _=>False
def zLb (o:Oper) (st:St):Bool:=o.op.operands.toList.all fun y=>(opd st.sl y).refs.all fun k=>decide (k<st.bx.length)
def Res.bk (r:Res) (n:Nat):Option Nat:=match r with
 | .v _=>none
 | .b ..=>some n
def zEh (P:Program) (sh:FuncId->List Sh) (N0:Option Nat) (ops:Array Oper):List Ent->Pend->St->(St->Prop)->Prop
 | [],_,st,K=>K st
 | en :: l,nv,st,K=>match ops[en.i]? with
   | none=>False
   | some o=>match en.hard with
     | true=>zGd ops o st (fun st=>zJV P sh N0 ops (zB1 ops en.i nv) en o st fun st=>zEh P sh N0 ops l nv st K) (fun st=>zEh P sh N0 ops l nv (st.put o.dst (.tp [])) K)
     | false=>zGd ops o st (fun st=>match zJu o.op&&zLb o st with
      | true=>nev P (opd st.sl) (fun k=>st.bx[k]?) o.op o.type fun r=>zEh P sh N0 ops l ((en.i,r.bk st.bx.length)::nv) (st.push o.dst r) K
      | false=>False) (fun st=>zEh P sh N0 ops l ((en.i,none)::nv) (st.put o.dst (.tp [])) K)
theorem pj {bx:List Bx}:ValOk av w e pB bx undef (.tp []):=⟨.inr rfl,by simp [PV.Ok,PV.OkL],by simp [PV.refs,PV.refsL]⟩
theorem wZ {ops:Array Oper} {o:Oper} {y:Operand} {t:Nat} (hy:y∈o.op.operands) (ht:y=.tmp t):t∈o.looksAt ops:=by
 subst ht
 exact oW _ (nK.2 ⟨.tmp t,oa.2 hy,rfl⟩)
/-- a hard entry, carried out -/
theorem zCg (h:Rel av w0 e0 pS pB a w e st) {N0:Option Nat} (hN0:NOk N0 w0) (hpl:∀ k∈pB,k<st.bx.length) {sh:FuncId->List Sh} {ops:Array Oper} {pf:Pend} (hpf:∀ t∈pS,∃ x∈pf,uw ops x.1=some t) (hpb:∀ k∈pB,∃ x∈pf,x.2=some k)
  {en:Ent} {o:Oper} (ho:ops[en.i]?=some o) (hl:∀ t∈o.looksAt ops,t∉pS) {K:St->Prop}
  (hs:zGd ops o st (fun st=>zJV P sh N0 ops pf en o st K) (fun st=>K (st.put o.dst (.tp [])))) {next:Act->World->Prop} {Q:Exit->Act->World->Prop}
  (hn:∀ v w' e' st',K st'->st.bx.length<=st'.bx.length->(∀ x∈pf,∀ ox,ops[x.1]?=some ox->zJ6 ops P st ox x.2->(∀ d,o.dst=some d->d∉ox.looksAt ops/\ox.dst≠some d)->zJ6 ops P st' ox x.2) ->
   Rel av w0 e0 pS pB (a.put o.dst v) w' e' st'->next (a.put o.dst v) w'):wpOp P ops Q en.i next a w:=by
 unfold wpOp
 rw [ho]
 simp only
 rcases zAk hs with ⟨hw,hs⟩ | ⟨hw,hs⟩
 ·rw [if_pos (zCw h hw hl)]
  refine .inl ?_
  unfold zJV at hs
  split at hs
  rotate_left
  ·split at hs
   rotate_left
   ·exact hs.elim
   have e1:pS=[]:=nA.2 fun t ht=>by obtain ⟨x,hx,_⟩:=hpf t ht;simp at hx
   have e2:pB=[]:=nA.2 fun t ht=>by obtain ⟨x,hx,_⟩:=hpb t ht;simp at hx
   subst e1;subst e2
   have hn':=fun v w' e' st' g1 g2 g3=>hn v w' e' st' g1 g2 (fun x hx=>by simp at hx) g3
   split at hs
   ·exact zHL h hN0 hs hn'
   ·exact zF7 h hs hn'
   ·exact hs.elim
  split at hs
  rotate_left
  ·split at hs
   rotate_left
   ·exact hs.elim
   have e1:pS=[]:=nA.2 fun t ht=>by obtain ⟨x,hx,_⟩:=hpf t ht;simp at hx
   have e2:pB=[]:=nA.2 fun t ht=>by obtain ⟨x,hx,_⟩:=hpb t ht;simp at hx
   subst e1;subst e2
   refine zDE h hpl (fun y hy t ht=>hl t (wZ hy ht)) hs fun v w' e' st' g1 g2 g3=>?_
   obtain ⟨st2,k1,k2,k3⟩:=zEF g3 g1
   exact hn v w' e' st2 k1 (by rw [k3];exact g2.bl) (fun x hx=>by simp at hx) k2
  obtain ⟨st1,T,h1,h2,h3,h4⟩:=xb h hN0 hpf hs
  split at h1
  ·rename_i hsf
   refine zDE h4 (fun k hk=>ow (hpl k hk) h2.bl) (fun y hy t ht=>hl t (wZ hy ht)) h1 fun v w' e' st' g1 g2 g3=>hn v w' e' st' g1 (ol h2.bl g2.bl) (fun x hx ox hox hk hd=>?_) g3
   exact rz (rz hk h2 (fun _ h=>h) (.inl (zFI h3 hx hox)) fun d hd=>by cases hd) g2 zIi (zG6 hsf hx hox) hd
  ·exact h1.elim
 ·rw [if_neg (by rw [zDR h hw hl];simp)]
  exact hn undef w e _ hs (by cases o.dst<;>exact oF _) (fun x hx ox hox hk hd=>rz hk (Stp.put (T:=[]) (TA:=[]) Stp.rfl' _) (fun _ h=>h) (.inl r6) hd) (yX h pj fun i hi _=>hi)
theorem zCn {N0:Option Nat} (hN0:NOk N0 w0) {sh:FuncId->List Sh} {ops:Array Oper} {K:St->Prop} {Q:Exit->Act->World->Prop} (hQ:∀ a w e st,K st->Rel av w0 e0 [] [] a w e st->Q .normal a w) :
  ∀ (l:List Ent) (a:Act) (w:World) (e:Env) (st:St),(∀ en∈l,en.hard=true)->Rel av w0 e0 [] [] a w e st->zEh P sh N0 ops l [] st K->wpOps P ops Q (l.map (·.i)) a w
 | [],a,w,e,st,_,h,hs=>hQ a w e st hs h
 | en::l,a,w,e,st,hh,h,hs=>by
   rw [oq,wpOps_cons]
   simp only [zEh] at hs
   cases ho:ops[en.i]? with
   | none=>rw [ho] at hs;exact hs.elim
   | some o=>
     rw [ho] at hs
     simp only [hh en (by simp)] at hs
     exact zCg h hN0 (by simp) (by simp) (by simp) ho (by simp) hs fun v w' e' st' h1 _ _ h2=>zCn hN0 hQ l _ _ _ _ (fun x hx=>hh x (by simp [hx])) h2 h1
/-- entries in order, all of them hard -/
def zDp (n:Nat) (l:List Ent):Bool:=(l.map (·.i))==List.range n&&l.all (·.hard)
theorem zFc {N0:Option Nat} (hN0:NOk N0 w0) {sh:FuncId->List Sh} {id:Nat} {ops:Array Oper} {l:List Ent} {K:St->Prop} {Q:Exit->Act->World->Prop} (hl:zDp ops.size l=true) (h:Rel av w0 e0 [] [] a w e st)
  (hs:zEh P sh N0 ops l [] st K) (hQ:∀ a w e st,K st->Rel av w0 e0 [] [] a w e st->Q .normal a w):(Code.region id ops false).wp P Q a w:=by
 simp only [zDp,oL,mJ,oS] at hl
 refine wp_region ?_
 rw [<-hl.1]
 exact zCn hN0 hQ l a w e st hl.2 h hs
end Go.Proofs.YtmfjakahanbnlaaGreatDoor
