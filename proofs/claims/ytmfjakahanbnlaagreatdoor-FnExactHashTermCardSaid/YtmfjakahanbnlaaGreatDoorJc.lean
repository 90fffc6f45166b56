/- How a real state that fits an abstract one goes on fitting: a slot is set, a box is made, a box is written. -/
import Derived.Test.YtmfjakahanbnlaaGreatDoorJb
set_option linter.unusedVariables false
set_option linter.unusedSimpArgs false
namespace Go.Proofs.YtmfjakahanbnlaaGreatDoor
open Go
def St.put (st:St) (dst:Option Nat) (p:PV):St:=
 match dst with
 | some d=>{ st with sl:=st.sl.set d p }
 | none=>st
variable {av:Nat->Prop} {P:Program} {w0 w w':World} {e0 e:Env} {pS pS' pB:List Nat} {a:Act} {st:St}
theorem vB {w:World} {o:Obj} {b:Nat} (h:b<w.heap.size):(w.alloc o).heap[b]?=w.heap[b]?:=by
 show (w.heap.push o)[b]?=w.heap[b]?
 rw [Array.getElem?_push,if_neg (Nat.ne_of_lt h)]
theorem w7 {w:World} {o:Obj}:(w.alloc o).heap[w.heap.size]?=some o:=by
 show (w.heap.push o)[w.heap.size]?=some o
 simp
theorem yX (h:Rel av w0 e0 pS pB a w e st) {dst:Option Nat} {v:Value} {p:PV} (hv:ValOk av w e pB st.bx v p) (hp:∀ i,i∈pS->some i≠dst->i∈pS'):Rel av w0 e0 pS' pB (a.put dst v) w e (st.put dst p):=by
 cases dst with
 | none=>exact { h with hs:=fun i q hi hn=>h.hs i q hi (fun hc=>hn (hp i hc (by simp))),so:=fun i q hi hn=>h.so i q hi (fun hc=>hn (hp i hc (by simp))),sr:=fun i q hi hn=>h.sr i q hi (fun hc=>hn (hp i hc (by simp))) }
 | some d=>
   have hnot:∀ i,i∉pS'->i≠d->i∉pS:=fun i hn hd hc=>hn (hp i hc (by simp [hd]))
   have hsl:∀ (i:Nat) (q:PV),(st.sl.set d p)[i]?=some q->(i=d/\q=p/\d<st.sl.length)\/(i≠d/\st.sl[i]?=some q):=fun i q hi=>by
    rw [nI] at hi
    split at hi
    ·rename_i hd
     subst hd
     split at hi
     ·rename_i hlt;simp at hi;exact .inl ⟨rfl,hi.symm,hlt⟩
     ·cases hi
    ·rename_i hd;exact .inr ⟨fun hh=>hd hh.symm,hi⟩
   refine { h with nd:=h.nd,sz:=?_,hs:=?_,so:=?_,sr:=?_ }
   ·simp [St.put,Act.put];exact h.sz
   ·intro i q hi hn
    rcases hsl i q hi with ⟨rfl,rfl,hlt⟩ | ⟨hd,hi⟩
    ·rcases hv.1 with h1 | h1
     ·exact .inl h1
     ·right
      have:i<a.tmps.size:=by have:=h.sz;omega
      simp [Act.put,this,h1]
    ·have:=h.hs i q hi (hnot i hn hd)
     simp only [Act.put]
     rw [o0,Array.getElem?_setIfInBounds_ne (Ne.symm hd),<-o0]
     exact this
   ·intro i q hi hn
    rcases hsl i q hi with ⟨rfl,rfl,hlt⟩ | ⟨hd,hi⟩
    ·exact hv.2.1
    ·exact h.so i q hi (hnot i hn hd)
   ·intro i q hi hn
    rcases hsl i q hi with ⟨rfl,rfl,hlt⟩ | ⟨hd,hi⟩
    ·exact hv.2.2
    ·exact h.sr i q hi (hnot i hn hd)
theorem y8 {pB:List Nat} {e:Env} {bx:List Bx} {B:Bx} (hl:e.length=bx.length) {k b:Nat}:Lives (bx.length::pB) (e++[none]) (bx++[B]) k b↔Lives (bx.length::pB) e bx k b:=by
 constructor
 ·rintro ⟨h1,h2,B',h3,h4⟩
  have hk:k≠bx.length:=fun h=>h1 (by simp [h])
  by_cases hlt:k<bx.length
  ·rw [Env.at_append_lt (by omega)] at h2
   rw [oK hlt] at h3
   exact ⟨h1,h2,B',h3,h4⟩
  ·rw [oU (by simp;omega)] at h3;cases h3
 ·rintro ⟨h1,h2,B',h3,h4⟩
  have hlt:k<bx.length:=(oB.1 h3).1
  exact ⟨h1,by rw [Env.at_append_lt (by omega)];exact h2,B',by rw [oK hlt];exact h3,h4⟩
theorem sD {pB:List Nat} {e:Env} {bx:List Bx} {j b:Nat} (h:zJ av (j::pB) e bx b):zJ av pB e bx b:=by
 rcases h with h | ⟨k,h1,h2⟩
 ·exact .inl h
 ·exact .inr ⟨k,fun hc=>h1 (by simp [hc]),h2⟩
/-- a box is promised: it stands in the list, and has no memory yet -/
theorem vJ (h:Rel av w0 e0 pS pB a w e st) {B:Bx} :
  Rel av w0 e0 pS (st.bx.length::pB) a w (e++[none]) { st with bx:=st.bx++[B] }:=by
 have hsub:∀ b,zJ av (st.bx.length::pB) (e++[none]) (st.bx++[B]) b->zJ av pB e st.bx b:=fun b hb=>sD (hb.imp id fun ⟨k,hk⟩=>⟨k,(y8 h.el).1 hk⟩)
 have hget:∀ (k:Nat) (B':Bx),(st.bx++[B])[k]?=some B'->(k<st.bx.length/\st.bx[k]?=some B')\/(k=st.bx.length/\B'=B):=fun k B' hk=>by
  by_cases hlt:k<st.bx.length
  ·rw [oK hlt] at hk;exact .inl ⟨hlt,hk⟩
  ·rw [oM (by omega)] at hk
   have:k - st.bx.length=0:=by
    rcases mX (k - st.bx.length) with h0 | h0
    ·exact h0
    ·rw [oU (by simp;omega)] at hk;cases hk
   rw [this] at hk
   simp at hk
   exact .inr ⟨by omega,hk.symm⟩
 have hat:∀ k,k<st.bx.length->Env.at (e++[none]) k=e.at k:=fun k hk=>Env.at_append_lt (by rw [h.el];exact hk)
 have hokm:∀ (B':Bx),B'.Ok w (zJ av pB e st.bx)->B'.Ok w (zJ av (st.bx.length::pB) (e++[none]) (st.bx++[B])):=fun B' hb=>hb.mono (fun _ _ _=>rfl) (oF _) (fun b _=>hsub b)
 exact {
  el:=by simp [h.el]
  br:=fun k B' hk hn=>by
   rcases hget k B' hk with ⟨hlt,hk⟩ | ⟨rfl,_⟩
   ·rw [hat k hlt]
    have hn':k∉pB:=fun hc=>hn (by simp [hc])
    exact (h.br k B' hk hn').congr (fun _ _=>rfl) (fun j hj=>hat j (h.bf k B' hk hn' j hj).2)
   ·exact absurd (by simp) hn
  bo:=fun k B' hk hn=>by
   rcases hget k B' hk with ⟨hlt,hk⟩ | ⟨rfl,_⟩
   ·exact hokm _ (h.bo k B' hk fun hc=>hn (by simp [hc]))
   ·exact absurd (by simp) hn
  bf:=fun k B' hk hn j hj=>by
   rcases hget k B' hk with ⟨hlt,hk⟩ | ⟨rfl,_⟩
   ·have:=h.bf k B' hk (fun hc=>hn (by simp [hc])) j hj
    exact ⟨by simp;exact ⟨by omega,this.1⟩,by simp;omega⟩
   ·exact absurd (by simp) hn
  inj:=fun k j b hk hj=>by
   have h1:=(y8 h.el).1 hk
   have h2:=(y8 h.el).1 hj
   exact h.inj k j b ⟨fun hc=>h1.1 (by simp [hc]),h1.2⟩ ⟨fun hc=>h2.1 (by simp [hc]),h2.2⟩
  ku:=h.ku
  size:=h.size
  old:=h.old
  fz:=h.fz
  nd:=h.nd
  sz:=h.sz
  hN:=h.hN
  hs:=fun i p hi hn=>by
   have h1:=h.hs i p hi hn
   rcases h1 with h1 | h1
   ·exact .inl h1
   ·refine .inr (h1.trans (PV.val_congr p fun k hk=>?_).symm)
    exact hat k (h.sr i p hi hn k hk).2
  so:=fun i p hi hn=>PV.Ok.mono (fun _ _ _=>rfl) (oF _) (fun b _=>hsub b) p (h.so i p hi hn)
  sr:=fun i p hi hn k hk=>by
   have:=h.sr i p hi hn k hk
   exact ⟨by simp;exact ⟨by omega,this.1⟩,by simp;omega⟩
  own:=fun k b hk=>by
   have h1:=(y8 h.el).1 hk
   exact h.own k b ⟨fun hc=>h1.1 (by simp [hc]),h1.2⟩
  avl:=h.avl
  avn:=fun k b hk=>by
   have h1:=(y8 h.el).1 hk
   exact h.avn k b ⟨fun hc=>h1.1 (by simp [hc]),h1.2⟩
  pin:=fun k b hb=>by
   have:=h.pin k b hb
   have hl:k<e.length:=mf fun hc=>by
    rw [Env.at_ge hc] at this;simp at this
   rw [Env.at_append_lt hl]
   exact ⟨this.1,by simp;exact ⟨by rw [<-h.el];omega,this.2⟩⟩
  pit:=h.pit }
/-- a promised box gets its memory -/
theorem tQ (h:Rel av w0 e0 pS pB a w e st) {k:Nat} {B:Bx} {v:Value} {c:Array Value} {t:TypeId} {f:Nat->PV} (hk:st.bx[k]?=some B) (hkp:k∈pB)
  (nb:NewBox av w e pB st.bx v (w.alloc (.cells c t)) B f) :
  Rel av w0 e0 pS (pB.filter (·≠k)) a (w.alloc (.cells c t)) (e.set k (some w.heap.size)) st:=by
 have hklt:k<st.bx.length:=(oB.1 hk).1
 have hke':k<e.length:=by rw [h.el];exact hklt
 have hmem:∀ j,j∉pB.filter (·≠k)↔(j∉pB\/j=k):=fun j=>by simp;exact Decidable.imp_iff_not_or
 have hat:∀ j,j≠k->Env.at (e.set k (some w.heap.size)) j=e.at j:=fun j hj=>Env.at_set_ne hj
 have hatk:Env.at (e.set k (some w.heap.size)) k=some w.heap.size:=Env.at_set_eq hke'
 have hlives:∀ j b,Lives (pB.filter (·≠k)) (e.set k (some w.heap.size)) st.bx j b->(j=k/\b=w.heap.size)\/(j≠k/\Lives pB e st.bx j b):=fun j b ⟨h1,h2,B',h3,h4⟩=>by
  by_cases hj:j=k
  ·subst hj;rw [hatk] at h2;exact .inl ⟨rfl,(o1 h2).symm⟩
  ·rw [hat j hj] at h2
   rcases (hmem j).1 h1 with h5 | h5
   ·exact .inr ⟨hj,h5,h2,B',h3,h4⟩
   ·exact absurd h5 hj
 have hblk:∀ b,b<w.heap.size->(w.alloc (.cells c t)).heap[b]?=w.heap[b]?:=fun b hb=>vB hb
 have hsub:∀ b,b<w.heap.size->zJ av (pB.filter (·≠k)) (e.set k (some w.heap.size)) st.bx b->zJ av pB e st.bx b:=fun b hb hl=>by
  rcases hl with hl | ⟨j,hj⟩
  ·exact .inl hl
  rcases hlives j b hj with ⟨_,rfl⟩ | ⟨_,h1⟩
  ·omega
  ·exact .inr ⟨j,h1⟩
 have hsz:w.heap.size<=(w.alloc (.cells c t)).heap.size:=by simp
 have hrk:∀ j,j∉pB->j≠k:=fun j hj hh=>hj (hh ▸ hkp)
 exact {
  el:=by simp [h.el]
  br:=fun j B' hj hn=>by
   by_cases hjk:j=k
   ·subst hjk
    rw [hk] at hj
    have:=o1 hj
    subst this
    rw [hatk]
    exact nb.rel _ fun i hi=>hat i (hrk i (nb.rf i hi).1)
   ·have hjp:j∉pB:=((hmem j).1 hn).resolve_right hjk
    rw [hat j hjk]
    have hr:=h.br j B' hj hjp
    by_cases hg:B'=.gone
    ·subst hg;exact True.intro
    ·exact hr.congr (fun b hb=>hblk b (Lives.lt h.toMem ⟨hjp,hb,B',hj,hg⟩)) (fun i hi=>hat i (hrk i (h.bf j B' hj hjp i hi).1))
  bo:=fun j B' hj hn=>by
   rcases (hmem j).1 hn with h1 | h1
   ·exact (h.bo j B' hj h1).mono (fun b hb _=>hblk b hb) hsz hsub
   ·subst h1
    rw [hk] at hj
    have:=o1 hj
    subst this
    exact nb.ok.mono (fun b hb _=>hblk b hb) hsz hsub
  bf:=fun j B' hj hn i hi=>by
   rcases (hmem j).1 hn with h1 | h1
   ·have:=h.bf j B' hj h1 i hi;exact ⟨(hmem i).2 (.inl this.1),this.2⟩
   ·subst h1
    rw [hk] at hj
    have:=o1 hj
    subst this
    have:=nb.rf i hi
    exact ⟨(hmem i).2 (.inl this.1),this.2⟩
  inj:=fun i j b hi hj=>by
   rcases hlives i b hi with ⟨rfl,rfl⟩ | ⟨h1,h2⟩
   ·rcases hlives j _ hj with ⟨rfl,_⟩ | ⟨h3,h4⟩
    ·rfl
    ·have:=Lives.lt h.toMem h4;omega
   ·rcases hlives j b hj with ⟨rfl,rfl⟩ | ⟨h3,h4⟩
    ·have:=Lives.lt h.toMem h2;omega
    ·exact h.inj i j b h2 h4
  ku:=⟨h.ku.os,h.ku.out⟩
  size:=by have:=h.size;simp;omega
  old:=fun b hb hn=>by rw [hblk b (by have:=h.size;omega)];exact h.old b hb hn
  fz:=fun b c' t' z hb hc=>by
   by_cases hlt:b<w.heap.size
   ·rw [hblk b hlt] at hc;exact h.fz b c' t' z hb hc
   ·have hb2:b=w.heap.size:=by have:=(oN.1 hc).1;simp at this;omega
    subst hb2
    rw [w7] at hc
    cases hc;exact fz0
  nd:=h.nd
  sz:=h.sz
  hN:=by have:=h.hN;simp;omega
  hs:=fun i p hi hn=>by
   rcases h.hs i p hi hn with h1 | h1
   ·exact .inl h1
   ·exact .inr (h1.trans (PV.val_congr p fun j hj=>hat j (hrk j (h.sr i p hi hn j hj).1)).symm)
  so:=fun i p hi hn=>PV.Ok.mono (fun b hb _=>hblk b hb) hsz hsub p (h.so i p hi hn)
  sr:=fun i p hi hn j hj=>by
   have:=h.sr i p hi hn j hj
   exact ⟨(hmem j).2 (.inl this.1),this.2⟩
  own:=fun j b hj=>by
   rcases hlives j b hj with ⟨rfl,rfl⟩ | ⟨_,h2⟩
   ·left;exact h.size
   ·exact h.own j b h2
  avl:=h.avl
  avn:=fun j b hj=>by
   rcases hlives j b hj with ⟨rfl,rfl⟩ | ⟨_,h2⟩
   ·intro hc;have h3:=h.avl.lt _ hc;have h4:=h.size;omega
   ·exact h.avn j b h2
  pin:=fun j b hb=>by
   have:=h.pin j b hb
   have hk0:j≠k:=fun hc=>this.2 (hc ▸ hkp)
   rw [hat j hk0]
   exact ⟨this.1,(hmem j).2 (.inl this.2)⟩
  pit:=h.pit }
inductive Res where
 | v (p:PV)
 | b (B:Bx) (f:Nat->PV)
/-- what a function value has captured -/
def zFJ (ds:List D):List PV:=ds.map fun d=>match d with
 | .pt ad z x=>.pd ad z x
 | d=>.dc d
/-- what is read is brought to its type's form at once, where the type has one -/
def zJd (P:Program) (t:TypeId) (p:PV) (R:PV->Prop):Prop:=
 match p with
 | .dc x=>match P.underlying t with
   | some (.int k)=>∃ n,x=.lit (.int k n)/\R (.int k n)
   | some .bool=>∃ v,x=.lit (.bool v)/\R (.bool v)
   | some .string=>∃ v,x=.lit (.string v)/\R (.str v)
   | some (.slice el)=>match kz P el with
     | some z=>∃ a es cap,x=.sl a z es cap/\R (.sv a z es cap)
     | none=>R (.dc x)
   | some (.pointer _)=>match x with
     | .pt ad z y=>R (.pd ad z y)
     | x=>R (.dc x)
   | some (.func _ _ _)=>match x with
     | .fn f ds=>R (.fn f (zFJ ds))
     | x=>R (.dc x)
   | _=>R (.dc x)
 | p=>R p
def zJu:Op->Bool
 | .alloc _ | .box .. | .buildSlice .. | .makeSlice .. | .build ..=>true
 | .move _ | .assign _ | .pick .. | .load .. | .nilCheck _ | .binOp .. | .unOp .. | .convert .. | .fieldAddr .. | .indexAddr .. | .index .. | .slice .. | .field .. | .extract .. | .makeFunc .. | .lookup ..=>true
 | .call c=>match c.callee with
   | .builtin .len=>true
   | .builtin .max=>true
   | .builtin .min=>true
   | _=>false
 | _=>false
def nev (P:Program) (ρ:Operand->PV) (rb:Nat->Option Bx) (op:Op) (ty:TypeId) (R:Res->Prop):Prop:=
 match op with
 | .alloc t=>zET P ρ (.alloc t) fun B f=>R (.b B f)
 | .box t x=>zET P ρ (.box t x) fun B f=>R (.b B f)
 | .buildSlice t n parts=>zET P ρ (.buildSlice t n parts) fun B f=>R (.b B f)
 | .makeSlice t l c=>zET P ρ (.makeSlice t l c) fun B f=>R (.b B f)
 | .build t parts=>rM P ρ t parts.toList fun p=>R (.v p)
 | op=>tw P ρ rb op ty fun p=>zJd P ty p fun q=>R (.v q)
/-- a functional that picks one: what it asks of its continuation it asks at one place -/
def Lin {α:Type} (F:(α->Prop)->Prop):Prop:=∀ R,F R->∃ x,R x/\∀ R':α->Prop,R' x->F R'
theorem Lin.pure {α:Type} (x:α):Lin (fun R:α->Prop=>R x):=fun R h=>⟨x,h,fun _ h=>h⟩
theorem Lin.bind {α β:Type} {F:(α->Prop)->Prop} {G:α->(β->Prop)->Prop} (hF:Lin F) (hG:∀ x,Lin (G x)):Lin (fun R=>F fun x=>G x R):=fun R h=>by
 obtain ⟨x,h1,h2⟩:=hF _ h
 obtain ⟨y,h3,h4⟩:=hG x R h1
 exact ⟨y,h3,fun R' h=>h2 _ (h4 R' h)⟩
theorem Lin.and {α:Type} {p:Prop} {F:(α->Prop)->Prop} (hF:Lin F):Lin (fun R=>p/\F R):=fun R h=>by
 obtain ⟨y,h3,h4⟩:=hF R h.2
 exact ⟨y,h3,fun R' h'=>⟨h.1,h4 R' h'⟩⟩
theorem Lin.ex {α β:Type} {F:β->(α->Prop)->Prop} (hF:∀ b,Lin (F b)):Lin (fun R=>∃ b,F b R):=fun R ⟨b,h⟩=>by
 obtain ⟨y,h3,h4⟩:=hF b R h
 exact ⟨y,h3,fun R' h'=>⟨b,h4 R' h'⟩⟩
theorem Lin.no {α:Type}:Lin (fun _:α->Prop=>False):=fun _ h=>h.elim
theorem Lin.ite {α:Type} {p:Prop} [Decidable p] {F G:(α->Prop)->Prop} (hF:Lin F) (hG:Lin G):Lin (fun R=>if p then F R else G R):=by
 by_cases h:p
 ·simp only [h,mg];exact hF
 ·simp only [h,nO];exact hG
theorem xZ {P:Program} {t:TypeId} {p:PV}:Lin (frc P t p):=by
 unfold frc
 cases p
 case dc x=>
  simp only
  cases P.underlying t with
  | none=>exact Lin.no
  | some d=>
    cases d<;>simp only<;>first
     | exact Lin.no
     | exact Lin.ex fun n=>Lin.and (Lin.pure _)
     | skip
    rename_i el
    cases kz P el with
    | none=>exact Lin.no
    | some z=>exact Lin.ex fun a=>Lin.ex fun es=>Lin.ex fun c=>Lin.and (Lin.pure _)
 all_goals exact Lin.pure _
theorem zIg {P:Program} {t:TypeId} {p:PV}:Lin (zJd P t p):=by
 unfold zJd
 cases p
 case dc x=>
  simp only
  cases P.underlying t with
  | none=>exact Lin.pure _
  | some d=>
    cases d<;>simp only<;>first
     | exact Lin.pure _
     | exact Lin.ex fun n=>Lin.and (Lin.pure _)
     | skip
    ·cases x<;>exact Lin.pure _
    ·rename_i el
     cases kz P el with
     | none=>exact Lin.pure _
     | some z=>exact Lin.ex fun a=>Lin.ex fun es=>Lin.ex fun c=>Lin.and (Lin.pure _)
    ·cases x<;>exact Lin.pure _
 all_goals exact Lin.pure _
theorem uY {p:PV}:Lin (zHg p):=by
 unfold zHg
 cases p<;>simp only<;>first | exact Lin.pure _ | exact Lin.no | skip
 exact Lin.ex fun k=>Lin.ex fun n=>Lin.and (Lin.pure _)
theorem zIA {p:PV}:Lin (zKn p):=by
 unfold zKn
 cases p<;>simp only<;>first | exact Lin.pure _ | exact Lin.no | skip
 exact Lin.ex fun n=>Lin.and (Lin.pure _)
theorem uS {p:Option PV} {d:Int}:Lin (zHk p d):=by
 unfold zHk
 cases p<;>simp only
 ·exact Lin.pure _
 ·exact uY
theorem zDz {cs:List PV}:Lin (pgR cs):=by
 unfold pgR;exact Lin.ite (Lin.pure _) (Lin.pure _)
theorem zGO {z zz:Nat} {B:Bx} {i o:Nat}:Lin (zDl z zz B i o):=by
 unfold zDl
 cases B<;>simp only
 case gone=>exact Lin.no
 case var cs=>cases i<;>simp only<;>first | exact Lin.no | exact Lin.ite (Lin.ite (Lin.pure _) Lin.no) (Lin.ite zDz Lin.no)
 case vd x n=>cases i<;>simp only<;>first | exact Lin.no | exact Lin.ite (Lin.ite (Lin.pure _) Lin.no) (Lin.ite (Lin.pure _) (Lin.ite (Lin.pure _) Lin.no))
 case arr t z' es n=>
  refine Lin.ite (Lin.and ?_) Lin.no
  exact Lin.ite (Lin.ite (Lin.pure _) Lin.no) (Lin.ite (Lin.ite (Lin.pure _) Lin.no) (Lin.ite (Lin.pure _) (Lin.ite (Lin.pure _) Lin.no)))
theorem zIl {op:BinOp} {k:IntKind} {a b:Int}:Lin (zKN op k a b):=by
 unfold zKN
 cases op<;>simp only<;>first | exact Lin.pure _ | exact Lin.no | exact Lin.and (Lin.pure _)
theorem zIa {op:BinOp} {a b:ByteArray}:Lin (zKx op a b):=by
 unfold zKx
 cases op<;>simp only<;>first | exact Lin.pure _ | exact Lin.no | exact Lin.and (Lin.pure _)
theorem zGj {op:BinOp} {a b:Bool}:Lin (zHy op a b):=by
 unfold zHy
 cases op<;>simp only<;>first | exact Lin.pure _ | exact Lin.no
theorem zIb {P:Program} {op:BinOp} {t:TypeId} {a b:Option Addr} {zb cb:Nat} {eb:List D}:Lin (zKz P op t a b zb eb cb):=by
 unfold zKz
 split<;>try exact Lin.no
 split<;>try exact Lin.no
 cases op<;>simp only<;>first | exact Lin.pure _ | exact Lin.no
theorem zHh {P:Program} {op:BinOp} {t:TypeId} {p q:PV}:Lin (zKZ P op t p q):=by
 unfold zKZ
 cases p<;>cases q<;>simp only<;>first | exact Lin.no | exact zIa | exact zIb | skip
 ·cases op<;>simp only<;>first | exact Lin.and (Lin.pure _) | exact Lin.ite zIl Lin.no
 ·cases P.underlying t with
  | none=>exact Lin.no
  | some d=>cases d<;>simp only<;>first | exact Lin.no | exact zGj
theorem zFr {rb:Nat->Option Bx} {p:PV}:Lin (qQ rb p):=by
 unfold qQ
 split
 ·split
  ·exact Lin.ex fun ns=>Lin.and (Lin.pure _)
  ·exact Lin.no
 ·split
  ·split
   ·exact Lin.and (Lin.ex fun ns=>Lin.and (Lin.pure _))
   ·exact Lin.no
  ·exact Lin.no
 ·exact Lin.no
theorem zIn {P:Program} {ρ:Operand->PV} {rb:Nat->Option Bx} {op:Op} {ty:TypeId}:Lin (tw P ρ rb op ty):=by
 unfold tw
 cases op<;>(try simp only)<;>try exact Lin.no
 case move=>exact Lin.pure _
 case assign=>exact Lin.pure _
 case pick=>exact Lin.bind zIA fun v=>Lin.ite (Lin.pure _) (Lin.pure _)
 case load t x=>
  cases kz P t with
  | none=>exact Lin.no
  | some z=>
    simp only
    cases ρ x<;>(try simp only)<;>try exact Lin.no
    ·rename_i k zz i o
     cases rb k with
     | none=>exact Lin.no
     | some B=>exact zGO
    ·exact Lin.ite (Lin.pure _) Lin.no
 case nilCheck x=>cases ρ x<;>(try simp only)<;>first | exact Lin.no | exact Lin.pure _
 case binOp=>exact Lin.bind xZ fun p=>Lin.bind xZ fun q=>zHh
 case unOp op t x=>
  cases op<;>(try simp only)<;>first
   | exact Lin.no
   | exact Lin.bind xZ fun p=>(by cases p<;>(try simp only)<;>first | exact Lin.no | exact Lin.pure _)
 case convert s d x=>
  cases P.underlying d with
  | none=>exact Lin.no
  | some dd=>
    cases dd<;>(try simp only)<;>try exact Lin.no
    ·cases P.underlying s with
     | none=>exact Lin.no
     | some ss=>
       cases ss<;>(try simp only)<;>try exact Lin.no
       exact Lin.bind xZ fun p=>(by cases p<;>(try simp only)<;>first | exact Lin.no | exact Lin.pure _)
    ·cases P.underlying s with
     | none=>exact Lin.no
     | some ss=>
       cases ss<;>(try simp only)<;>try exact Lin.no
       split<;>try exact Lin.no
       exact Lin.bind xZ fun p=>zFr
 case lookup t m i ok=>
  cases ok<;>(try simp only)<;>try exact Lin.no
  cases P.underlying t with
  | none=>exact Lin.no
  | some d=>
    cases d<;>(try simp only)<;>try exact Lin.no
    refine Lin.bind xZ fun p=>?_
    cases p<;>(try simp only)<;>try exact Lin.no
    cases ρ m<;>(try simp only)<;>try exact Lin.no
    exact Lin.ex fun b=>Lin.ex fun es=>Lin.ex fun c=>Lin.and (Lin.ex fun o=>Lin.and (Lin.pure _))
 case makeFunc f first caps=>
  cases f<;>(try simp only)<;>try exact Lin.no
  cases first.toList<;>(try simp only)<;>try exact Lin.no
  exact Lin.ite (Lin.pure _) Lin.no
 case slice t x lo hi mx=>
  cases mx<;>(try simp only)<;>try exact Lin.no
  cases P.underlying t with
  | none=>exact Lin.no
  | some d=>
    cases d<;>(try simp only)<;>try exact Lin.no
    ·refine Lin.bind xZ fun p=>?_
     cases p<;>(try simp only)<;>try exact Lin.no
     exact Lin.bind uS fun l=>Lin.bind uS fun h=>Lin.and (Lin.pure _)
    ·rename_i el
     cases kz P el with
     | none=>exact Lin.no
     | some z=>
       try simp only
       refine Lin.bind xZ fun p=>?_
       cases p<;>(try simp only)<;>try exact Lin.no
       ·exact Lin.ite (Lin.bind uS fun l=>Lin.bind uS fun h=>Lin.and (Lin.pure _)) Lin.no
       ·cases lo<;>simp only
        ·exact Lin.bind uS fun h=>Lin.and (Lin.pure _)
        ·exact Lin.ite (Lin.bind uY fun l=>Lin.bind uS fun h=>Lin.and (Lin.pure _)) Lin.no
 case fieldAddr t x f=>
  cases uQ P t f with
  | none=>exact Lin.no
  | some oz=>
    obtain ⟨o,z⟩:=oz
    simp only
    cases ρ x<;>(try simp only)<;>first | exact Lin.no | exact Lin.pure _ | exact Lin.ite (Lin.pure _) Lin.no
 case field t x f=>
  cases uQ P t f with
  | none=>exact Lin.no
  | some oz=>
    obtain ⟨o,z⟩:=oz
    simp only
    cases ρ x<;>(try simp only)<;>try exact Lin.no
    ·exact Lin.ite (Lin.ite (Lin.pure _) Lin.no) (Lin.ite (Lin.pure _) Lin.no)
    ·exact Lin.ite (Lin.ite (Lin.pure _) Lin.no) (Lin.ite zDz Lin.no)
 case indexAddr t x i=>
  cases P.underlying t with
  | none=>exact Lin.no
  | some d=>
    cases d<;>(try simp only)<;>try exact Lin.no
    rename_i el
    cases kz P el with
    | none=>exact Lin.no
    | some z=>
      try simp only
      refine Lin.bind uY fun n=>Lin.bind xZ fun p=>?_
      cases p<;>(try simp only)<;>try exact Lin.no
      ·exact Lin.ite (Lin.and (Lin.pure _)) Lin.no
      ·rename_i k z' lo m c
       cases rb k with
       | none=>exact Lin.no
       | some B=>cases B<;>(try simp only)<;>first | exact Lin.no | exact Lin.ite (Lin.and (Lin.pure _)) Lin.no
 case index t x i=>
  cases P.underlying t with
  | none=>exact Lin.no
  | some d=>
    cases d<;>(try simp only)<;>try exact Lin.no
    refine Lin.bind uY fun n=>Lin.bind xZ fun p=>?_
    cases p<;>(try simp only)<;>try exact Lin.no
    exact Lin.and (Lin.pure _)
 case extract x i=>
  cases ρ x<;>(try simp only)<;>try exact Lin.no
  rename_i l
  cases l[i]? with
  | none=>exact Lin.no
  | some p=>cases p<;>(try simp only)<;>first | exact Lin.no | exact Lin.pure _
 case call c=>
  cases c.callee<;>(try simp only)<;>try exact Lin.no
  rename_i b
  cases b<;>(try simp only)<;>try exact Lin.no
  all_goals (rcases c.args.toList with _ | ⟨x,_ | ⟨y,_ | ⟨u,us⟩⟩⟩<;>rcases c.argTypes.toList with _ | ⟨s,_ | ⟨t,_ | ⟨r,rs⟩⟩⟩<;>(try simp only)<;>try exact Lin.no)
  ·cases P.underlying s with
   | none=>exact Lin.no
   | some d=>
     cases d<;>(try simp only)<;>try exact Lin.no
     all_goals (refine Lin.bind xZ fun p=>?_;cases p<;>(try simp only)<;>first | exact Lin.no | exact Lin.pure _)
  all_goals (refine Lin.bind xZ fun p=>Lin.bind xZ fun q=>?_;cases p<;>cases q<;>(try simp only)<;>first | exact Lin.no | exact Lin.pure _)
theorem zDa {P:Program} {ρ:Operand->PV} {t:TypeId} {parts:List (Nat × Operand)}:Lin (rM P ρ t parts):=by
 unfold rM
 split<;>try exact Lin.no
 split<;>try exact Lin.no
 split<;>try exact Lin.no
 exact zDz
theorem zHu {P:Program} {ρ:Operand->PV} {op:Op}:Lin (fun R:Res->Prop=>zET P ρ op fun B f=>R (.b B f)):=by
 unfold zET
 cases op<;>(try simp only)<;>try exact Lin.no
 case alloc t=>
  cases rQ P t with
  | none=>exact Lin.no
  | some cs=>exact Lin.pure _
 case box t x=>
  cases ρ x<;>(try simp only)<;>first | exact Lin.no | exact Lin.pure _
 case buildSlice t n parts=>
  split<;>try exact Lin.no
  split<;>try exact Lin.no
  split<;>try exact Lin.no
  exact Lin.ite (Lin.pure _) Lin.no
 case makeSlice t l c=>
  split<;>try exact Lin.no
  split<;>try exact Lin.no
  split<;>try exact Lin.no
  exact Lin.bind uY fun n=>Lin.bind uY fun m=>Lin.and (Lin.pure _)
theorem zGT {P:Program} {ρ:Operand->PV} {rb:Nat->Option Bx} {op:Op} {ty:TypeId}:Lin (nev P ρ rb op ty):=by
 have hv:Lin (fun R:Res->Prop=>tw P ρ rb op ty fun p=>zJd P ty p fun q=>R (.v q)):=
  Lin.bind zIn fun p=>Lin.bind zIg fun q=>Lin.pure _
 unfold nev
 cases op<;>(try simp only)<;>first | exact zHu | exact hv | skip
 exact Lin.bind zDa fun p=>Lin.pure _
variable {av:Nat->Prop} {P:Program} {w0 w:World} {e0 e:Env} {pS pS' pB:List Nat} {a:Act} {st:St}
theorem yP (h:Rel av w0 e0 pS pB a w e st) {x:Operand} (hx:∀ t,x=.tmp t->t∉pS):OpdOk av a w e pB st.bx x (opd st.sl x):=by
 cases x with
 | tmp t=>
   simp only [opd]
   cases ht:st.sl[t]? with
   | none=>rw [oA,ht];exact ⟨.inl rfl,trivial,by simp [PV.refs]⟩
   | some p=>
     rw [oA,ht]
     have hn:=hx t rfl
     exact ⟨h.hs t p ht hn,h.so t p ht hn,h.sr t p ht hn⟩
 | const v=>
   obtain ⟨h1,h2,h3⟩:=zEI v w (zJ av pB e st.bx) e
   exact ⟨h3.imp id Eq.symm,h1,by simp only [opd];rw [h2];simp⟩
 | global g=>exact ⟨.inl rfl,trivial,by simp [opd,PV.refs]⟩
 | func f=>exact ⟨.inr rfl,by simp only [opd];exact trivial,by simp [opd,PV.refs,PV.refsL]⟩
theorem zAZ {ρ ρ':Operand->PV} {rb rb':Nat->Option Bx} {op:Op} {ty:TypeId} {R:PV->Prop} (hρ:∀ x∈op.operands,ρ' x=ρ x)
  (hb:∀ x∈op.operands,∀ k∈(ρ x).refs,rb' k=rb k):tw P ρ' rb' op ty R=tw P ρ rb op ty R:=by
 cases op<;>simp only [Op.operands] at hρ hb<;>try rfl
 case move x=>simp [tw,hρ x (by simp)]
 case assign x=>simp [tw,hρ x (by simp)]
 case pick c x y=>simp [tw,hρ c (by simp),hρ x (by simp),hρ y (by simp)]
 case load t x=>
  simp only [tw,hρ x (by simp)]
  have:=hb x (by simp)
  generalize ρ x=p at this
  cases p<;>try rfl
  rename_i k z i o
  simp only [this k (by simp [PV.refs])]
 case nilCheck x=>simp [tw,hρ x (by simp)]
 case binOp op t x y yt=>simp [tw,hρ x (by simp),hρ y (by simp)]
 case unOp op t x=>simp [tw,hρ x (by simp)]
 case convert s d x=>
  simp only [tw,hρ x (by simp)]
  have:=hb x (by simp)
  generalize ρ x=p at this
  cases p with
  | sb k z lo n c=>simp only [frc,qQ,this k (by simp [PV.refs])]
  | dc y=>simp only [frc,qQ]
  | _=>rfl
 case fieldAddr t x f=>simp [tw,hρ x (by simp)]
 case field t x f=>simp [tw,hρ x (by simp)]
 case extract x i=>simp [tw,hρ x (by simp)]
 case index t x i=>simp [tw,hρ x (by simp),hρ i (by simp)]
 case lookup t m i ok=>simp only [tw,hρ m (by simp),hρ i (by simp)]
 case makeFunc f first caps=>
  have hc:caps.toList.map ρ'=caps.toList.map ρ:=oe fun x hx=>hρ x (by simp [oa.1 hx])
  simp only [tw,hc]
 case slice t x lo hi mx=>
  have h1:=hρ x (by simp)
  have h2:lo.map ρ'=lo.map ρ:=by cases lo<;>simp;exact hρ _ (by simp)
  have h3:hi.map ρ'=hi.map ρ:=by cases hi<;>simp;exact hρ _ (by simp)
  cases lo with
  | none=>simp only [tw,h1,h3,nj]
  | some y=>
    have h4:ρ' y=ρ y:=hρ y (by simp)
    simp only [tw,h1,h3,h4,oT]
 case indexAddr t x i=>
  simp only [tw,hρ x (by simp),hρ i (by simp)]
  have:=hb x (by simp)
  generalize ρ x=p at this
  cases p with
  | sb k z lo n c=>simp only [frc,this k (by simp [PV.refs])]
  | _=>rfl
 case call c=>
  have h1:∀ x∈c.args.toList,ρ' x=ρ x:=fun x hx=>hρ x (by simp [Call.operands,oa.1 hx])
  simp only [tw]
  generalize c.args.toList=as at h1
  generalize c.argTypes.toList=ts
  cases c.callee<;>try rfl
  rename_i b
  cases b<;>try rfl
  all_goals (rcases as with _ | ⟨x,_ | ⟨y,_ | ⟨u,us⟩⟩⟩<;>rcases ts with _ | ⟨s,_ | ⟨t,_ | ⟨r,rs⟩⟩⟩<;>try rfl)
  ·simp only [h1 x (by simp)]
  ·simp only [h1 x (by simp),h1 y (by simp)]
  ·simp only [h1 x (by simp),h1 y (by simp)]
theorem zC1 {ρ ρ':Operand->PV} {z:Nat} (l:List (Nat × Operand)):∀ k,(∀ p∈l,ρ' p.2=ρ p.2)->u2 z ρ' k l=u2 z ρ k l:=by
 induction l with
 | nil=>intro k _;rfl
 | cons p l ih=>
   intro k h
   obtain ⟨i,x⟩:=p
   simp only [u2]
   rw [h (i,x) (by simp),ih (k+1) fun p hp=>h p (by simp [hp])]
theorem zFW {ρ ρ':Operand->PV} {op:Op} {R:Bx->(Nat->PV)->Prop} (hρ:∀ x∈op.operands,ρ' x=ρ x):zET P ρ' op R=zET P ρ op R:=by
 cases op<;>simp only [Op.operands] at hρ<;>try rfl
 case box t x=>simp [zET,hρ x (by simp)]
 case buildSlice t n parts=>
  have:∀ z,u2 z ρ' 0 parts.toList=u2 z ρ 0 parts.toList:=fun z=>zC1 _ 0 fun p hp=>hρ p.2 (by simp;exact ⟨p.1,oa.1 hp⟩)
  simp only [zET,this]
 case makeSlice t l c=>simp [zET,hρ l (by simp),hρ c (by simp)]
theorem qk {ρ ρ':Operand->PV} {rb rb':Nat->Option Bx} {op:Op} {ty:TypeId} {R:Res->Prop} (hρ:∀ x∈op.operands,ρ' x=ρ x)
  (hb:∀ x∈op.operands,∀ k∈(ρ x).refs,rb' k=rb k):nev P ρ' rb' op ty R=nev P ρ rb op ty R:=by
 unfold nev
 cases op<;>simp only<;>first
  | exact zFW hρ
  | exact zAZ hρ hb
  | skip
 rename_i t parts
 have:(parts.toList.map fun (i,x)=>(i,ρ' x))=(parts.toList.map fun (i,x)=>(i,ρ x)):=oe fun p hp=>by
  have:=hρ p.2 (by simp only [Op.operands];simp;exact ⟨p.1,oa.1 hp⟩)
  simp [this]
 unfold rM
 rw [this]
theorem zAm {bx:List Bx} {v:Value} {f:FuncId} {ds:List D} (hv:ValOk av w e pB bx v (.dc (.fn f ds))):ValOk av w e pB bx v (.fn f (zFJ ds)):=by
 have hv1:=hv.1.resolve_left (by simp)
 obtain ⟨hg,hc⟩:=hv.2.1
 obtain ⟨g1,g2⟩:=hg
 cases g1 with
 | fn k1 k2=>
   have hgc:∀ d∈ds,Good w (zJ av pB e bx) d:=fun d hd=>⟨k2 d hd,fun b hb=>g2 b (by simp only [D.foot];exact zD.2 ⟨d,hd,hb⟩)⟩
   refine ⟨.inr ?_,?_,?_⟩
   ·rw [hv1]
    show (D.fn f ds).cv=_
    simp only [PV.val,PV.val1,PV.cv,D.cv,D.cvL_eq,PV.cvs_eq,zFJ,nc]
    congr 2
    refine oe fun d hd=>?_
    cases d<;>rfl
   ·simp only [PV.Ok,PV.OkL_iff,zFJ]
    intro q hq
    obtain ⟨d,hd,rfl⟩:=oQ.1 hq
    have hgd:=hgc d hd
    cases d with
    | pt ad z x=>
      obtain ⟨j1,j2⟩:=id hgd
      have hlt:=j1.lt ad.block (by simp [D.foot])
      cases j1 with
      | pt m1 m2 m3 m4=>exact ⟨⟨m4,fun b hb=>j2 b (by simp [D.foot,hb])⟩,m2,m1,m3,j2 _ (by simp [D.foot]),hlt⟩
    | _=>exact ⟨hgd,k1 _ hd⟩
   ·intro k hk
    simp only [PV.refs,zFJ] at hk
    obtain ⟨q,hq,hkq⟩:=PV.refsL_mem.1 hk
    obtain ⟨d,hd,rfl⟩:=oQ.1 hq
    cases d<;>simp [PV.refs] at hkq
theorem zFj {bx:List Bx} {t:TypeId} {v:Value} {p:PV} {R:PV->Prop} (hv:ValOk av w e pB bx v p) (h:zJd P t p R):∃ q,R q/\ValOk av w e pB bx v q:=by
 unfold zJd at h
 split at h
 ·rename_i x
  have hv':=hv
  obtain ⟨h1,h2,h3⟩:=hv
  have h1:=h1.resolve_left (by simp)
  simp only [PV.Ok] at h2
  split at h
  ·obtain ⟨n,rfl,h⟩:=h;exact ⟨_,h,.inr h1,trivial,by simp [PV.refs]⟩
  ·obtain ⟨n,rfl,h⟩:=h;exact ⟨_,h,.inr h1,trivial,by simp [PV.refs]⟩
  ·obtain ⟨n,rfl,h⟩:=h;exact ⟨_,h,.inr h1,trivial,by simp [PV.refs]⟩
  ·split at h
   ·obtain ⟨a,es,c,rfl,h⟩:=h;exact ⟨_,h,.inr h1,h2.1,by simp [PV.refs]⟩
   ·exact ⟨_,h,hv'⟩
  ·split at h
   ·rename_i ad z y hh
    have hg:=h2.1
    obtain ⟨g1,g2⟩:=id hg
    have hlt:=g1.lt ad.block (by simp [D.foot])
    cases g1 with
    | pt k1 k2 k3 k4=>exact ⟨_,h,.inr h1,⟨⟨k4,fun b hb=>g2 b (by simp [D.foot,hb])⟩,k2,k1,k3,g2 _ (by simp [D.foot]),hlt⟩,by simp [PV.refs]⟩
   ·exact ⟨_,h,hv'⟩
  ·split at h
   ·exact ⟨_,h,zAm hv'⟩
   ·exact ⟨_,h,hv'⟩
  ·exact ⟨_,h,hv'⟩
 ·exact ⟨_,h,hv⟩
/-- what the machine does for such an operation, where its operands are there -/
theorem zBL (h:Rel av w0 e0 pS pB a w e st) {o:Oper} {R:Res->Prop} (hx:∀ x∈o.op.operands,∀ t,x=.tmp t->t∉pS)
  (hn:nev P (opd st.sl) (fun k=>st.bx[k]?) o.op o.type R) :
  (∃ v p,(execOp a.eval o).run P w=.ok (.value v) w/\R (.v p)/\ValOk av w e pB st.bx v p) \/
  (∃ v c t B f,(execOp a.eval o).run P w=.ok (.value v) (w.alloc (.cells c t))/\R (.b B f)/\NewBox av w e pB st.bx v (w.alloc (.cells c t)) B f):=by
 have ho:∀ x∈o.op.operands,OpdOk av a w e pB st.bx x (opd st.sl x):=fun x hx'=>yP h (hx x hx')
 have hv:tw P (opd st.sl) (fun k=>st.bx[k]?) o.op o.type (fun p=>zJd P o.type p fun q=>R (.v q))->∃ v p,(execOp a.eval o).run P w=.ok (.value v) w/\R (.v p)/\ValOk av w e pB st.bx v p:=fun hn=>by
  rw [<-zAZ (ρ':=opd st.sl) (rb':=fun k=>if k∈pB then none else st.bx[k]?) (fun _ _=>rfl) (fun x hx' k hk=>by simp [((ho x hx').rf k hk).1])] at hn
  obtain ⟨v,p,h1,h2,h3⟩:=zAg h.toMem ho (fun k B hk=>by
   split at hk
   ·cases hk
   ·rename_i hkp;exact ⟨hk,hkp⟩) hn
  obtain ⟨q,h4,h5⟩:=zFj h3 h2
  exact ⟨v,q,h1,h4,h5⟩
 have hA:zET P (opd st.sl) o.op (fun B f=>R (.b B f))->∃ v c t B f,(execOp a.eval o).run P w=.ok (.value v) (w.alloc (.cells c t))/\R (.b B f)/\NewBox av w e pB st.bx v (w.alloc (.cells c t)) B f:=fun hn=>
  zFp ho hn
 unfold nev at hn
 split at hn
 ·rename_i t hop;exact .inr (hA (by rw [hop];exact hn))
 ·rename_i t x hop;exact .inr (hA (by rw [hop];exact hn))
 ·rename_i t n ps hop;exact .inr (hA (by rw [hop];exact hn))
 ·rename_i t l c hop;exact .inr (hA (by rw [hop];exact hn))
 ·rename_i t parts hop
  obtain ⟨v,p,h1,h2,h3⟩:=zBD (fun x hx'=>ho x (by rw [hop];exact hx')) hn
  refine .inl ⟨v,p,?_,h2,h3⟩
  obtain ⟨dst,op,ty,pos,after,guard⟩:=o
  simp only at hop
  subst hop
  simp [execOp,h1]
 ·exact .inl (hv hn)
def St.push (st:St) (dst:Option Nat):Res->St
 | .v p=>st.put dst p
 | .b B f=>St.put { st with bx:=st.bx++[B] } dst (f st.bx.length)
def Res.isB:Res->Bool
 | .v _=>false
 | .b ..=>true
theorem zBS (h:Rel av w0 e0 pS pB a w e st) {dst:Option Nat} {p:PV}:Rel av w0 e0 (dst.toList++pS) pB a w e (st.put dst p):=by
 cases dst with
 | none=>simpa [St.put] using h
 | some d=>
   have hsl:∀ (i:Nat) (q:PV),(st.sl.set d p)[i]?=some q->i≠d->st.sl[i]?=some q:=fun i q hi hd=>by
    rw [nV (Ne.symm hd)] at hi;exact hi
   exact { h with
    nd:=h.nd
    sz:=by simp [St.put];exact h.sz
    hs:=fun i q hi hn=>by simp at hn;exact h.hs i q (hsl i q hi hn.1) hn.2
    so:=fun i q hi hn=>by simp at hn;exact h.so i q (hsl i q hi hn.1) hn.2
    sr:=fun i q hi hn=>by simp at hn;exact h.sr i q (hsl i q hi hn.1) hn.2 }
/-- a promise -/
theorem zIh (h:Rel av w0 e0 pS pB a w e st) (dst:Option Nat) (r:Res) :
  Rel av w0 e0 (dst.toList++pS) (if r.isB then st.bx.length::pB else pB) a w (if r.isB then e++[none] else e) (st.push dst r):=by
 cases r with
 | v p=>exact zBS h
 | b B f=>exact zBS (vJ h)
theorem St.put_same {st:St} {dst:Option Nat} {p:PV} (h:∀ d,dst=some d->d<st.sl.length->st.sl[d]?=some p):st.put dst p=st:=by
 cases dst with
 | none=>rfl
 | some d=>
   simp only [St.put]
   by_cases hd:d<st.sl.length
   ·have h1:st.sl.set d p=st.sl:=by
     have h2:=h d rfl hd
     apply o6
     intro i
     rw [nI]
     split
     ·rename_i hi;subst hi;rw [h2]
     ·rfl
    rw [h1]
   ·rw [List.set_eq_of_length_le (by omega)]
/-- a promise is kept -/
theorem zIB (h:Rel av w0 e0 pS pB a w e st) {o:Oper} {r:Res} {k:Nat} (hx:∀ x∈o.op.operands,∀ t,x=.tmp t->t∉pS)
  (hn:nev P (opd st.sl) (fun k=>st.bx[k]?) o.op o.type (fun q=>q=r))
  (hd:∀ d,o.dst=some d->d<st.sl.length->st.sl[d]?=some (match r with | .v p=>p | .b _ f=>f k))
  (hk:∀ B f,r=.b B f->st.bx[k]?=some B/\k∈pB)
  (hp:∀ i,i∈pS->some i≠o.dst->i∈pS') :
  ∃ v w' e',(execOp a.eval o).run P w=.ok (.value v) w'/\Rel av w0 e0 pS' (if r.isB then pB.filter (·≠k) else pB) (a.put o.dst v) w' e' st:=by
 rcases zBL h hx hn with ⟨v,p,h1,h2,h3⟩ | ⟨v,c,t,B,f,h1,h2,h3⟩
 ·subst h2
  refine ⟨v,w,e,h1,?_⟩
  have h4:=yX h (dst:=o.dst) h3 hp
  rw [St.put_same hd] at h4
  exact h4
 ·subst h2
  obtain ⟨h5,h6⟩:=hk B f rfl
  have h8:=tQ h h5 h6 h3
  have hlt:k<st.bx.length:=(oB.1 h5).1
  have h9:ValOk av (w.alloc (.cells c t)) (e.set k (some w.heap.size)) (pB.filter (·≠k)) st.bx v (f k):=
   ⟨.inr (h3.val k _ (Env.at_set_eq (by rw [h.el];exact hlt))),h3.fok k _ _,by rw [h3.fr];simp [hlt]⟩
  have h4:=yX h8 (dst:=o.dst) h9 hp
  rw [St.put_same hd] at h4
  exact ⟨v,_,_,h1,h4⟩
def zKk (cs cs':List PV):Prop:=cs'.length=cs.length/\∀ (i:Nat) (p:PV),cs'[i]?=some p->p=.any\/cs[i]?=some p
def zLO (B B':Bx):Prop:=B'=.gone\/B'=B\/∃ cs cs',B=.var cs/\B'=.var cs'/\zKk cs cs'
structure St.Weak (st st':St):Prop where
 sl:∀ (i:Nat) (p:PV),st'.sl[i]?=some p->p=.any\/st.sl[i]?=some p
 len:st'.sl.length<=st.sl.length
 bl:st'.bx.length=st.bx.length
 bx:∀ (k:Nat) (B':Bx),st'.bx[k]?=some B'->∃ B,st.bx[k]?=some B/\zLO B B'
 N:st'.N<=st.N
 pin:st'.pin=st.pin
variable {av:Nat->Prop} {P:Program} {w0 w w':World} {e0 e:Env} {pS pS' pB:List Nat} {a:Act} {st st':St}
theorem PV.ok_any {w:World} {live:Nat->Prop}:PV.any.Ok w live:=trivial
theorem zEk (h:Rel av w0 e0 pS pB a w e st) (hw:st.Weak st'):Rel av w0 e0 pS pB a w e st':=by
 have hps:st'.pins=st.pins:=by unfold St.pins;rw [hw.pin]
 have hlives:∀ k b,Lives pB e st'.bx k b->Lives pB e st.bx k b:=fun k b ⟨h1,h2,B',h3,h4⟩=>by
  obtain ⟨B,h5,h6⟩:=hw.bx k B' h3
  refine ⟨h1,h2,B,h5,?_⟩
  rcases h6 with rfl | rfl | ⟨cs,cs',rfl,_⟩
  ·exact absurd rfl h4
  ·exact h4
  ·simp
 have hlive:∀ b,zJ av pB e st'.bx b->zJ av pB e st.bx b:=fun b hb=>hb.imp id fun ⟨k,hk⟩=>⟨k,hlives k b hk⟩
 have hmono:∀ p:PV,p.Ok w (zJ av pB e st.bx)->p.Ok w (zJ av pB e st'.bx):=fun p hp=>PV.Ok.mono (fun _ _ _=>rfl) (oF _) (fun b _=>hlive b) p hp
 exact {
  el:=h.el.trans hw.bl.symm
  br:=fun k B' hk hn=>by
   obtain ⟨B,h5,h6⟩:=hw.bx k B' hk
   have h7:=h.br k B h5 hn
   rcases h6 with rfl | rfl | ⟨cs,cs',rfl,rfl,h8,h9⟩
   ·exact True.intro
   ·exact h7
   ·obtain ⟨b,c,t,g1,g2,g3,g4⟩:=h7
    refine ⟨b,c,t,g1,g2,g3.trans h8.symm,fun i p hp=>?_⟩
    rcases h9 i p hp with h10 | h10
    ·exact .inl h10
    ·exact g4 i p h10
  bo := fun k B' hk hn=>by
   obtain ⟨B,h5,h6⟩:=hw.bx k B' hk
   have h7:=h.bo k B h5 hn
   rcases h6 with rfl | rfl | ⟨cs,cs',rfl,rfl,h8,h9⟩
   ·exact True.intro
   ·exact h7.mono (fun _ _ _=>rfl) (oF _) (fun b _=>hlive b)
   ·obtain ⟨g1,g2⟩:=h7
    rw [PV.OkL_iff] at g1
    refine ⟨PV.OkL_iff.2 fun p hp=>?_,fun p hp=>?_⟩
    ·obtain ⟨i,hi⟩:=oP.1 hp
     rcases h9 i p hi with rfl | h10
     ·exact PV.ok_any
     ·exact hmono p (g1 p (oC h10))
    ·obtain ⟨i,hi⟩:=oP.1 hp
     rcases h9 i p hi with h10 | h10
     ·exact .inl h10
     ·exact g2 p (oC h10)
  bf:=fun k B' hk hn j hj=>by
   obtain ⟨B,h5,h6⟩:=hw.bx k B' hk
   have h7:=h.bf k B h5 hn
   rw [hw.bl]
   rcases h6 with rfl | rfl | ⟨cs,cs',rfl,rfl,h8,h9⟩
   ·simp [Bx.refs] at hj
   ·exact h7 j hj
   ·simp only [Bx.refs] at hj
    obtain ⟨p,hp,hj⟩:=PV.refsL_mem.1 hj
    obtain ⟨i,hi⟩:=oP.1 hp
    rcases h9 i p hi with rfl | h10
    ·simp [PV.refs] at hj
    ·exact h7 j (by simp only [Bx.refs];exact PV.refsL_mem.2 ⟨p,oC h10,hj⟩)
  inj:=fun k j b hk hj=>h.inj k j b (hlives k b hk) (hlives j b hj)
  ku:=h.ku
  size:=h.size
  old:=h.old
  fz:=h.fz
  nd:=h.nd
  sz:=ol hw.len h.sz
  hN:=ol hw.N h.hN
  hs:=fun i p hi hn=>by
   rcases hw.sl i p hi with h1 | h1
   ·exact .inl h1
   ·exact h.hs i p h1 hn
  so:=fun i p hi hn=>by
   rcases hw.sl i p hi with rfl | h1
   ·exact PV.ok_any
   ·exact hmono p (h.so i p h1 hn)
  sr:=fun i p hi hn k hk=>by
   rw [hw.bl]
   rcases hw.sl i p hi with rfl | h1
   ·simp [PV.refs] at hk
   ·exact h.sr i p h1 hn k hk
  own:=fun k b hk=>by rw [hps];exact h.own k b (hlives k b hk)
  avl:=h.avl
  avn:=fun k b hk=>h.avn k b (hlives k b hk)
  pin:=fun k b hb=>h.pin k b (hps ▸ hb)
  pit:=fun L T hb=>h.pit L T (hw.pin ▸ hb) }
/-- the heap has grown -/
theorem zEv (h:Rel av w0 e0 pS pB a w e st) (hsz:w.heap.size<=w'.heap.size) (hold:∀ b,b<w.heap.size->w'.heap[b]?=w.heap[b]?)
  (hnew:∀ (b:Nat) (c:Array Value) (t:TypeId) (z:Nat × Nat),w.heap.size<=b->w'.heap[b]?=some (.cells c t z)->Fz z) (hku:KU w w':=by exact ⟨rfl,rfl⟩) :
  Rel av w0 e0 pS pB a w' e { st with N:=w'.heap.size }:=by
 exact {
  el:=h.el
  br:=fun k B hk hn=>by
   by_cases hg:B=.gone
   ·subst hg;exact True.intro
   ·exact (h.br k B hk hn).congr (fun b hb=>hold b (Lives.lt h.toMem ⟨hn,hb,B,hk,hg⟩)) fun _ _=>rfl
  bo:=fun k B hk hn=>(h.bo k B hk hn).mono (fun b hb _=>hold b hb) hsz fun _ _=>id
  bf:=h.bf
  inj:=h.inj
  ku:=h.ku.trans hku
  size:=ol h.size hsz
  old:=fun b hb hn=>(hold b (ow hb h.size)).trans (h.old b hb hn)
  fz:=fun b c t z hb hc=>by
   by_cases hlt:b<w.heap.size
   ·rw [hold b hlt] at hc;exact h.fz b c t z hb hc
   ·exact hnew b c t z (by omega) hc
  nd:=h.nd
  sz:=h.sz
  hN:=oF _
  hs:=h.hs
  so:=fun i p hi hp=>PV.Ok.mono (fun b hb _=>hold b hb) hsz (fun _ _=>id) p (h.so i p hi hp)
  sr:=h.sr
  own:=h.own
  avl:=h.avl
  avn:=h.avn
  pin:=h.pin
  pit:=h.pit }
theorem zKV (h:Rel av w0 e0 pS pB a w e st) {n:Nat} (hn:n<=w.heap.size):Rel av w0 e0 pS pB a w e { st with N:=n }:={ h with hN:=hn,nd:=h.nd }
/-- a box is written, or it moves -/
theorem zDk (h:Rel av w0 e0 pS pB a w e st) {k:Nat} {B B':Bx} {x:Option Nat} (hk:st.bx[k]?=some B) (hkp:k∉pB) (hng:B≠.gone)
  (hsz:w.heap.size<=w'.heap.size) (hold:∀ b,b<w.heap.size->e.at k≠some b->w'.heap[b]?=w.heap[b]?)
  (hx:x=e.at k\/((∃ b,x=some b/\w.heap.size<=b)/\(∀ (i:Nat) (p:PV),st.sl[i]?=some p->i∉pS->k∉p.refs)/\(∀ (j:Nat) (C:Bx),st.bx[j]?=some C->j∉pB->j≠k->k∉C.refs)/\B'.isArr=true))
  (hA:B.isArr=true->B'.isArr=true) (hpin:x=e.at k\/∀ b,st.pins[k]?≠some (some b))
  (hB:B'.Rel w' (e.set k x) x) (hBo:B'.Ok w (zJ av pB e st.bx)) (hBr:∀ j∈B'.refs,j∉pB/\j<st.bx.length)
  (hnew:∀ (b:Nat) (c:Array Value) (t:TypeId) (z:Nat × Nat),(w.heap.size<=b\/e.at k=some b)->w'.heap[b]?=some (.cells c t z)->Fz z) (hku:KU w w':=by exact ⟨rfl,rfl⟩) :
  Rel av w0 e0 pS pB a w' (e.set k x) { st with bx:=st.bx.set k B' }:=by
 have hklt:k<st.bx.length:=(oB.1 hk).1
 have hke:k<e.length:=by rw [h.el];exact hklt
 have hat:∀ j,j≠k->Env.at (e.set k x) j=e.at j:=fun j hj=>Env.at_set_ne hj
 have hatk:Env.at (e.set k x) k=x:=Env.at_set_eq hke
 have hlive0:∀ b,e.at k=some b->zJ av pB e st.bx b:=fun b hb=>.inr ⟨k,hkp,hb,B,hk,hng⟩
 have hlives:∀ j b,Lives pB (e.set k x) (st.bx.set k B') j b->Lives pB e st.bx j b\/(j=k/\x=some b/\w.heap.size<=b):=fun j b ⟨h1,h2,C,h3,h4⟩=>by
  by_cases hj:j=k
  ·subst hj
   rw [hatk] at h2
   rcases hx with hx | ⟨⟨b',hb',hsz'⟩,_⟩
   ·exact .inl ⟨h1,hx ▸ h2,B,hk,hng⟩
   ·rw [h2] at hb';cases hb';exact .inr ⟨rfl,h2,hsz'⟩
  ·rw [hat j hj] at h2
   rw [nV (Ne.symm hj)] at h3
   exact .inl ⟨h1,h2,C,h3,h4⟩
 have hlive:∀ b,b<w.heap.size->zJ av pB (e.set k x) (st.bx.set k B') b->zJ av pB e st.bx b:=fun b hb hl=>hl.elim .inl fun ⟨j,hj⟩=>by
  rcases hlives j b hj with h1 | ⟨_,_,h1⟩
  ·exact .inr ⟨j,h1⟩
  ·omega
 have hkeep:∀ b,b<w.heap.size->¬zJ av pB e st.bx b->w'.heap[b]?=w.heap[b]?:=fun b hb hn=>hold b hb fun hc=>hn (hlive0 b hc)
 have hget:∀ (j:Nat) (C:Bx),(st.bx.set k B')[j]?=some C->(j=k/\C=B')\/(j≠k/\st.bx[j]?=some C):=fun j C hj=>by
  by_cases hjk:j=k
  ·subst hjk;rw [List.getElem?_set_self hklt] at hj;exact .inl ⟨rfl,(o1 hj).symm⟩
  ·rw [nV (Ne.symm hjk)] at hj;exact .inr ⟨hjk,hj⟩
 have hsame:∀ j,(j≠k\/x=e.at k)->Env.at (e.set k x) j=e.at j:=fun j hj=>by
  by_cases hjk:j=k
  ·subst hjk;rw [hatk];exact hj.resolve_left (by simp)
  ·exact hat j hjk
 have hblk:∀ (j:Nat) (C:Bx),st.bx[j]?=some C->j∉pB->j≠k->∀ b,e.at j=some b->C≠.gone->w'.heap[b]?=w.heap[b]?:=fun j C hj hn hjk b hb hg=>by
  have hl:Lives pB e st.bx j b:=⟨hn,hb,C,hj,hg⟩
  exact hold b (Lives.lt h.toMem hl) fun hc=>hjk (h.inj j k b hl ⟨hkp,hc,B,hk,hng⟩)
 exact {
  el:=by simp [h.el]
  br:=fun j C hj hn=>by
   rcases hget j C hj with ⟨rfl,rfl⟩ | ⟨hjk,hj⟩
   ·rw [hatk];exact hB
   ·rw [hat j hjk]
    by_cases hg:C=.gone
    ·subst hg;exact True.intro
    refine (h.br j C hj hn).congr (fun b hb=>hblk j C hj hn hjk b hb hg) fun i hi=>hsame i ?_
    rcases hx with hx | ⟨_,_,h2,_⟩
    ·exact .inr hx
    ·exact .inl fun hc=>h2 j C hj hn hjk (hc ▸ hi)
  bo:=fun j C hj hn=>by
   rcases hget j C hj with ⟨rfl,rfl⟩ | ⟨hjk,hj⟩
   ·exact hBo.mono hkeep hsz hlive
   ·exact (h.bo j C hj hn).mono hkeep hsz hlive
  bf:=fun j C hj hn i hi=>by
   simp only [mW]
   rcases hget j C hj with ⟨rfl,rfl⟩ | ⟨hjk,hj⟩
   ·exact hBr i hi
   ·exact h.bf j C hj hn i hi
  inj:=fun i j b hi hj=>by
   rcases hlives i b hi with h1 | ⟨rfl,_,h1⟩
   ·rcases hlives j b hj with h2 | ⟨rfl,_,h2⟩
    ·exact h.inj i j b h1 h2
    ·have:=Lives.lt h.toMem h1;omega
   ·rcases hlives j b hj with h2 | ⟨rfl,_,h2⟩
    ·have:=Lives.lt h.toMem h2;omega
    ·rfl
  ku:=h.ku.trans hku
  size:=ol h.size hsz
  old:=fun b hb hn=>by
   refine (hold b (ow hb h.size) fun hc=>?_).trans (h.old b hb hn)
   rcases h.own k b ⟨hkp,hc,B,hk,hng⟩ with h1 | h1
   ·omega
   ·exact hn h1.1
  fz:=fun b c t z hb hc=>by
   by_cases hlt:b<w.heap.size
   ·by_cases hek:e.at k=some b
    ·exact hnew b c t z (.inr hek) hc
    ·rw [hold b hlt hek] at hc;exact h.fz b c t z hb hc
   ·exact hnew b c t z (.inl (by omega)) hc
  nd:=h.nd
  sz:=h.sz
  hN:=ol h.hN hsz
  hs:=fun i p hi hp=>by
   rcases h.hs i p hi hp with h1 | h1
   ·exact .inl h1
   ·refine .inr (h1.trans (PV.val_congr p fun j hj=>hsame j ?_).symm)
    rcases hx with hx | ⟨_,h2,_⟩
    ·exact .inr hx
    ·exact .inl fun hc=>h2 i p hi hp (hc ▸ hj)
  so:=fun i p hi hp=>PV.Ok.mono hkeep hsz hlive p (h.so i p hi hp)
  sr:=fun i p hi hp j hj=>by simp only [mW];exact h.sr i p hi hp j hj
  own:=fun j b hj=>by
   rcases hlives j b hj with h1 | ⟨_,_,h1⟩
   ·exact h.own j b h1
   ·exact .inl (ol h.size h1)
  avl:=h.avl
  avn:=fun j b hj=>by
   rcases hlives j b hj with h1 | ⟨_,_,h1⟩
   ·exact h.avn j b h1
   ·intro hc;have h2:=h.avl.lt b hc;have h3:=h.size;omega
  pin:=fun j b hb=>by
   have:=h.pin j b hb
   by_cases hjk:j=k
   ·subst hjk
    rw [hatk]
    rcases hpin with h1 | h1
    ·rw [h1];exact this
    ·exact absurd hb (h1 b)
   ·rw [hat j hjk];exact this
  pit:=h.pit }
def dcs (x:D) (n:Nat):List PV:=(List.range n).map fun j=>.dc (x.cell j)
def stV (z o:Nat) (cs:List PV) (p:PV) (K:Bx->Prop):Prop:=
 match uF p with
 | some ps=>if ps.length=ez z/\o+ps.length<=cs.length then K (.var (vM o ps cs)) else False
 | none=>False
def zHd (o:Nat) (ds cs:List D):List D:=cs.take o++ds++cs.drop (o+ds.length)
def zFE (z zz:Nat) (B:Bx) (i o:Nat) (p:PV) (K:Bx->Prop):Prop:=
 match B with
 | .var cs=>match i with
   | 0=>match p with
     | .dg n x=>if o=0/\n=cs.length/\z=n/\n≠0 then K (.vd x n) else stV z o cs p K
     | _=>stV z o cs p K
   | _+1=>False
 | .vd x n=>match i with
   | 0=>match p with
     | .dg m y=>if o=0/\m=n/\z=n/\n≠0 then K (.vd y n) else stV z o (dcs x n) p K
     | _=>stV z o (dcs x n) p K
   | _+1=>False
 | .arr t z' es c=>if zz=z' then i<es.length /\
  (if z=z'/\o=0 then (match zEJ z p with
    | some d=>K (.arr t z' (es.set i d) c)
    | none=>False)
   else if z'=0 then False
   else match (uF p).bind zCA with
    | some ds=>if ds.length=ez z/\o+ds.length<=z' then K (.arr t z' (es.set i (.ag (zHd o ds (es.getD i default).cells))) c) else False
    | none=>False) else False
 | .gone=>False
def stF (P:Program) (ρ:Operand->PV) (rb:Nat->Option Bx) (t:TypeId) (x y:Operand) (K:Nat->Bx->Prop):Prop:=
 match kz P t,ρ x with
 | some z,.pb k zz i o=>match rb k with
   | some B=>zFE z zz B i o (retag P t (ρ y)) (K k)
   | none=>False
 | _,_=>False
variable {av:Nat->Prop} {P:Program} {w0 w w':World} {e0 e:Env} {pS pS' pB:List Nat} {a:Act} {st st':St}
theorem pY {t:TypeId} {z:Nat} (hz:kz P t=some z) {b off:Nat} {c:Array Value} {tb:TypeId} (hb:w.heap[b]?=some (.cells c tb (0,0))) {v:Value}
  (hl:v.cells.toList.length=ez z) (hle:off+ez z<=c.size) (h1:∀ u∈v.cells.toList,u.oneCell'=true) :
  (Instr.storeAt t (.pointer (some ⟨b,off,none⟩)) v).run P w=.ok () (w.setRow b (c.toList.take off++v.cells.toList++c.toList.drop (off+ez z)).toArray):=by
 have hr:=run_storeCells_at (P:=P) b off tb v.cells.toList 0 c w hb (by rw [hl];omega) h1
 rw [nw,hl] at hr
 have hs:v.cells.size=ez z:=by simpa using hl
 simp [Instr.storeAt,Instr.sureAddr,storeVar,xM hz,hs,hr]
theorem ue {e:Env} {k:Nat} (h:k<e.length):e.set k (e.at k)=e:=by
 apply o6
 intro i
 rw [nI]
 split
 ·rename_i hi;subst hi
  simp [h,Env.at]
 ·rfl
theorem tg (h:Rel av w0 e0 pS pB a w e st) {k b:Nat} {B B':Bx} {c c':Array Value} {tb:TypeId} (hk:st.bx[k]?=some B) (hkp:k∉pB) (hng:B≠.gone) (hat:e.at k=some b)
  (hb:w.heap[b]?=some (.cells c tb (0,0))) (hA:B.isArr=true->B'.isArr=true)
  (hB:B'.Rel (w.setRow b c') e (e.at k)) (hBo:B'.Ok w (zJ av pB e st.bx)) (hBr:∀ j∈B'.refs,j∉pB/\j<st.bx.length) :
  Rel av w0 e0 pS pB a (w.setRow b c') e { st with bx:=st.bx.set k B' }:=by
 have hke:k<e.length:=by rw [h.el];exact (oB.1 hk).1
 have hs:(w.setRow b c').heap.size=w.heap.size:=by simp [World.setRow]
 have:=zDk h (w':=w.setRow b c') (x:=e.at k) hk hkp hng (by rw [hs];exact oF _) (fun j hj hn=>setRow_other w b j c' (fun hc=>hn (by rw [hat,hc]))) (.inl rfl) hA (.inl rfl) (by rw [ue hke];exact hB) hBo hBr fun j c2 t2 z hj hc=>by
  rcases hj with hj | hj
  ·have:=(oN.1 hc).1;omega
  ·rw [hat] at hj;cases hj
   rw [setRow_heap w b c c' tb _ hb] at hc
   cases hc;exact fz0
 rwa [ue hke] at this
theorem zJt {x:D} {n:Nat} (ha:IsAg n x) {c:Array Value} (hc:c.size=n) (h:∀ (i:Nat) (u:D),x.cells[i]?=some u->c[i]?=some u.cv):CellsAre e c.toList (dcs x n):=by
 refine ⟨by simp [dcs,hc],fun i q hq=>.inr ?_⟩
 simp only [dcs,oE] at hq
 cases hr:(List.range n)[i]? with
 | none=>simp [hr] at hq
 | some j=>
   rw [hr] at hq
   simp at hq;subst hq
   have hi:i<n:=by have:=(oB.1 hr).1;simpa using this
   have hj:j=i:=by have:=(oB.1 hr).2;simpa using this.symm
   subst hj
   have:=h j _ (ha.cell hi).2
   simpa [PV.cv] using this
theorem zKM {x:D} {n:Nat} (ha:IsAg n x) {live:Nat->Prop} (hg:Good w live x):∀ p∈dcs x n,p.Ok w live/\p.isC/\p.refs=[]:=by
 intro p hp
 obtain ⟨j,hj,rfl⟩:=oQ.1 hp
 exact ⟨⟨hg.cell j,(ha.cell (by simpa using hj)).1⟩,trivial,rfl⟩
theorem zDO (h:Rel av w0 e0 pS pB a w e st) {t:TypeId} {z o k b:Nat} {B:Bx} {cs:List PV} {v:Value} {p:PV} {K:Bx->Prop} {c:Array Value} {tb:TypeId} (hz:kz P t=some z)
  (hk:st.bx[k]?=some B) (hkp:k∉pB) (hng:B≠.gone) (hnA:B.isArr=false) (hat:e.at k=some b) (hb:w.heap[b]?=some (.cells c tb (0,0))) (hca:CellsAre e c.toList cs) (hco:sc av w e pB st.bx cs)
  (hv:ValOk av w e pB st.bx v p) (hs:stV z o cs p K) :
  ∃ w' B',(Instr.storeAt t (.pointer (some ⟨b,o,none⟩)) v).run P w=.ok () w'/\K B'/\Rel av w0 e0 pS pB a w' e { st with bx:=st.bx.set k B' }:=by
 unfold stV at hs
 split at hs
 ·rename_i ps hps
  split at hs
  ·rename_i hc
   obtain ⟨a1,a2,a3⟩:=y7 hps hv
   have hmem:∀ q∈vM o ps cs,q∈cs.take o\/q∈ps\/q∈cs.drop (o+ps.length):=fun q hq=>by simpa [vM] using hq
   have hl:v.cells.toList.length=ez z:=by rw [a1.1];exact hc.1
   have hcl:c.size=cs.length:=by have:=hca.1;simpa using this
   refine ⟨_,_,pY hz hb hl (by rw [hcl,<-hc.1];exact hc.2) a3,hs,tg h hk hkp hng hat hb (by simp [hnA]) ?_ ?_ ?_⟩
   ·rw [hat]
    refine ⟨b,_,tb,rfl,setRow_heap w b c _ tb _ hb,?_,?_⟩
    ·have:=((hca.take o).append a1).append (hca.drop (o+ez z))
     rw [<-hc.1] at this ⊢
     simpa [vM] using this.1
    ·have:=((hca.take o).append a1).append (hca.drop (o+ez z))
     intro i q hq
     rw [<-hc.1] at this
     rcases this.2 i q (by simpa [vM] using hq) with h1 | h1
     ·exact .inl h1
     ·right;rw [<-hc.1];simpa using h1
   ·refine ⟨PV.OkL_iff.2 fun q hq=>?_,fun q hq=>?_⟩
    ·rcases hmem q hq with hq | hq | hq
     ·exact (hco q (oV hq)).1
     ·exact (a2 q hq).1
     ·exact (hco q (oi hq)).1
    ·rcases hmem q hq with hq | hq | hq
     ·exact (hco q (oV hq)).2.1
     ·exact .inr (a2 q hq).2.1
     ·exact (hco q (oi hq)).2.1
   ·intro j hj
    simp only [Bx.refs] at hj
    obtain ⟨q,hq,hj⟩:=PV.refsL_mem.1 hj
    rcases hmem q hq with hq | hq | hq
    ·exact (hco q (oV hq)).2.2 j hj
    ·exact (a2 q hq).2.2 j hj
    ·exact (hco q (oi hq)).2.2 j hj
  ·exact hs.elim
 ·exact hs.elim
theorem zHp {o:Nat} {ds cs:List D} {vs:List Value} {c:List Value} (hds:ds.map D.cv=vs) (hle:o+ds.length<=cs.length)
  (h:∀ (i:Nat) (u:D),cs[i]?=some u->c[i]?=some u.cv) (i:Nat) (u:D) (hu:(zHd o ds cs)[i]?=some u):(c.take o++vs++c.drop (o+vs.length))[i]?=some u.cv:=by
 have hlc:cs.length<=c.length:=by
  by_cases h0:cs.length=0
  ·omega
  ·have:=h (cs.length - 1) _ (oG (by omega))
   have:=(oB.1 this).1;omega
 have hvl:vs.length=ds.length:=by rw [<-hds];simp
 unfold zHd at hu
 rw [nC,mP] at hu ⊢
 simp only [nB] at hu ⊢
 rw [show min o cs.length=o by omega] at hu
 rw [show min o c.length=o by omega]
 split at hu
 ·rename_i hi
  rw [if_pos hi]
  rw [ob] at hu ⊢
  rw [if_pos hi] at hu ⊢
  exact h i u hu
 ·rename_i hi
  rw [if_neg hi]
  rw [mP] at hu ⊢
  rw [hvl]
  split at hu
  ·rename_i hi2
   rw [if_pos hi2,<-hds,oE,hu];rfl
  ·rename_i hi2
   rw [if_neg hi2]
   rw [nD] at hu ⊢
   exact h _ u hu
theorem zAy {z:Nat} {es:List D} (h:∀ e∈es,eOk z e) {i:Nat} (hi:i<es.length) (d:D) :
  zg (es.set i d)=(zg es).take (i*ez z)++d.cells++(zg es).drop ((i+1)*ez z):=by
 induction es generalizing i with
 | nil=>simp at hi
 | cons x es ih=>
   have hx:=zx (h x (by simp))
   cases i with
   | zero=>
     simp only [List.set_cons_zero,xk,mR,ma,ou,nE,Nat.one_mul]
     rw [<-hx,List.drop_left]
   | succ i=>
     simp only [oR] at hi
     simp only [List.set_cons_succ,xk]
     rw [ih (fun y hy=>h y (by simp [hy])) (by omega)]
     have e1:(i+1)*ez z=x.cells.length+i*ez z:=by rw [hx,nL];omega
     have e2:(i+1+1)*ez z=x.cells.length+(i+1)*ez z:=by rw [hx,nL (i+1)];omega
     rw [e2,List.drop_length_add_append]
     rw [e1,List.take_length_add_append]
     simp only [nC,<-e1]
/-- an element of a row is written: the row's cells -/
theorem zFk {z:Nat} {es:List D} (h:∀ e∈es,eOk z e) {i o:Nat} (hi:i<es.length) {ds:List D} {vs:List Value} {c:List Value} (hds:ds.map D.cv=vs) (hle:o+ds.length<=ez z)
  (hc:∀ (j:Nat) (u:D),(zg es)[j]?=some u->c[j]?=some u.cv) {d:D} (hd:d.cells=zHd o ds (es.getD i default).cells) (j:Nat) (u:D) (hu:(zg (es.set i d))[j]?=some u) :
  (c.take (i*ez z+o)++vs++c.drop (i*ez z+o+vs.length))[j]?=some u.cv:=by
 have hfl:=zI h
 have hge:es[i]?=some (es.getD i default):=by simp [oA,oG hi]
 have heo:eOk z (es.getD i default):=h _ (oC hge)
 have hel:=zx heo
 have hpos:(i+1)*ez z<=es.length*ez z:=nW _ hi
 have hadd:(i+1)*ez z=i*ez z+ez z:=by rw [nL];omega
 -- the element stands in the row
 have hfe:zg es=(zg es).take (i*ez z)++(es.getD i default).cells++(zg es).drop ((i+1)*ez z):=by
  have h1:=zAy h hi (es.getD i default)
  rwa [show es.set i (es.getD i default)=es from by
   apply o6
   intro j
   rw [nI]
   split
   ·rename_i hj;subst hj;simp [hi,hge]
   ·rfl] at h1
 have hput:zg (es.set i d)=zHd (i*ez z+o) ds (zg es):=by
  rw [zAy h hi d,hd]
  unfold zHd
  have hlt:((zg es).take (i*ez z)).length=i*ez z:=by simp;omega
  conv=>rhs;rw [hfe]
  have t1:((zg es).take (i*ez z)++(es.getD i default).cells++(zg es).drop ((i+1)*ez z)).take (i*ez z+o)=(zg es).take (i*ez z)++(es.getD i default).cells.take o:=by
   rw [nC,List.take_append,hlt,List.take_append]
   rw [nH (by omega)]
   rw [show i*ez z+o - i*ez z=o by omega,show o - (es.getD i default).cells.length=0 by omega]
   simp
  have t2:((zg es).take (i*ez z)++(es.getD i default).cells++(zg es).drop ((i+1)*ez z)).drop (i*ez z+o+ds.length)=(es.getD i default).cells.drop (o+ds.length)++(zg es).drop ((i+1)*ez z):=by
   rw [nC,List.drop_append,hlt,List.drop_append]
   rw [List.drop_of_length_le (by omega)]
   rw [show i*ez z+o+ds.length - i*ez z=o+ds.length by omega,show o+ds.length - (es.getD i default).cells.length=0 by omega]
   simp
  rw [t1,t2]
  simp
 rw [hput] at hu
 exact zHp hds (by rw [hfl];omega) hc j u hu
theorem zH4 {z o:Nat} {x:D} {ds:List D} (hz:z≠0) (hx:eOk z x) (hds:∀ d∈ds,d.isCell) (hle:o+ds.length<=z):eOk z (.ag (zHd o ds x.cells)):=by
 have hl:=zx hx
 have hc:=sk hx
 have hez:ez z=z:=by simp [ez,hz]
 simp only [eOk,hz,nO]
 refine ⟨_,rfl,?_,fun c hcm=>?_⟩
 ·simp [zHd];omega
 ·rcases oO.1 hcm with h1 | h1
  ·rcases oO.1 h1 with h1 | h1
   ·exact hc c (oV h1)
   ·exact hds c h1
  ·exact hc c (oi h1)
theorem zEP (h:Rel av w0 e0 pS pB a w e st) {t tb:TypeId} {z z' k b i o n:Nat} {es:List D} {v:Value} {c:Array Value} (hz:kz P t=some z)
  (hk:st.bx[k]?=some (.arr tb z' es n)) (hkp:k∉pB) (hat:e.at k=some b) (hb:w.heap[b]?=some (.cells c tb (0,0)))
  (hsz:n*ez z'<=c.size) (hn:es.length<=n) (hm:n<=maxLen) (he:∀ x∈es,eOk z' x) (hf:∀ (i:Nat) (u:D),(zg es)[i]?=some u->c[i]?=some u.cv) (hi:i<es.length)
  {ds:List D} (hds:ds.map D.cv=v.cells.toList) (h1:∀ u∈v.cells.toList,u.oneCell'=true) (hdl:ds.length=ez z) (hle:o+ds.length<=ez z') {d:D} (hd:d.cells=zHd o ds (es.getD i default).cells)
  (hdo:eOk z' d) (hdg:Good w (zJ av pB e st.bx) d) :
  ∃ w',(Instr.storeAt t (.pointer (some ⟨b,i*ez z'+o,none⟩)) v).run P w=.ok () w'/\Rel av w0 e0 pS pB a w' e { st with bx:=st.bx.set k (.arr tb z' (es.set i d) n) }:=by
 have hvl:v.cells.toList.length=ez z:=by rw [<-hds];simpa using hdl
 have hpos:(i+1)*ez z'<=n*ez z':=nW _ (by omega)
 have hadd:(i+1)*ez z'=i*ez z'+ez z':=by rw [nL];omega
 have hok:=h.bo k _ hk hkp
 refine ⟨_,pY hz hb hvl (by omega) h1,tg h hk hkp (by simp) hat hb (fun _=>rfl) ?_ ?_ (by simp [Bx.refs])⟩
 ·rw [hat]
  refine .inr ⟨b,_,rfl,setRow_heap w b c _ tb _ hb,?_,by simpa using hn,hm,?_,?_⟩
  ·simp only [nS,oH,nB,nx,oh,hvl]
   omega
  ·intro x hx
   rcases List.mem_or_eq_of_mem_set hx with hx | rfl
   ·exact he x hx
   ·exact hdo
  ·intro j u hu
   have:=zFk he hi hds hle (c:=c.toList) (fun j u hu=>by simpa using hf j u hu) hd j u hu
   rw [hvl] at this
   simpa using this
 ·intro x hx
  rcases List.mem_or_eq_of_mem_set hx with hx | rfl
  ·exact hok x hx
  ·exact hdg
theorem zDY (h:Rel av w0 e0 pS pB a w e st) {t:TypeId} {z zz k i o:Nat} {B:Bx} {v:Value} {p:PV} {K:Bx->Prop} (hz:kz P t=some z)
  (hk:st.bx[k]?=some B) (hkp:k∉pB) (hv:ValOk av w e pB st.bx v p) (hs:zFE z zz B i o p K) :
  ∃ w' B',(Instr.storeAt t (.pointer (some ⟨(e.at k).getD 0,i*ez zz+o,none⟩)) v).run P w=.ok () w'/\K B'/\Rel av w0 e0 pS pB a w' e { st with bx:=st.bx.set k B' }:=by
 have hr:=h.br k B hk hkp
 have hok:=h.bo k B hk hkp
 have hrf:=h.bf k B hk hkp
 -- a whole struct
 have whole:∀ (n:Nat) (x:D) (b:Nat) (c:Array Value) (tb:TypeId),B≠.gone->B.isArr=false->e.at k=some b->w.heap[b]?=some (.cells c tb (0,0))->c.size=n->p=.dg n x->o=0->i=0->z=n->n≠0->K (.vd x n) ->
   ∃ w' B',(Instr.storeAt t (.pointer (some ⟨(e.at k).getD 0,i*ez zz+o,none⟩)) v).run P w=.ok () w'/\K B'/\Rel av w0 e0 pS pB a w' e { st with bx:=st.bx.set k B' }:=by
  intro n x b c tb hng hnA hat hb hcs hp ho hi hzn hn0 hK
  subst hp;subst ho;subst hi;subst hzn
  have hv1:=hv.1.resolve_left (by simp)
  obtain ⟨hg,ha⟩:=hv.2.1
  have hvc:v.cells.toList=x.cells.map D.cv:=by rw [hv1];simp only [PV.val,PV.val1,ha.val,Value.cells]
  have hez:ez z=z:=by simp [ez,hn0]
  have hvl:v.cells.toList.length=ez z:=by rw [hvc,hez];simpa using ha.length
  have h1:∀ u∈v.cells.toList,u.oneCell'=true:=by
   rw [hvc];intro u hu
   obtain ⟨y,hy,rfl⟩:=oQ.1 hu
   obtain ⟨cs,rfl,_,hc⟩:=ha
   exact yR (hc y hy)
  refine ⟨_,_,by rw [hat];simp only [oc,mR,nw];exact pY hz hb hvl (by omega) h1,hK,tg h hk hkp hng hat hb (by simp [hnA]) ?_ hg (by simp [Bx.refs])⟩
  rw [hat]
  refine ⟨b,_,tb,rfl,setRow_heap w b c _ tb _ hb,?_,ha,?_⟩
  ·simp only [nS,oH,nB,nx,oh,hvl];omega
  ·intro j u hu
   have hlt:j<x.cells.length:=(oB.1 hu).1
   simp only [ma,ou,mc]
   rw [oK (by rw [hvc];simpa using hlt),hvc,oE,hu];rfl
 cases B with
 | gone=>exact hs.elim
 | var cs=>
   obtain ⟨b,c,tb,h1,h2,h3,h4⟩:=hr
   obtain ⟨ho1,ho2⟩:=hok
   rw [PV.OkL_iff] at ho1
   simp only [Bx.refs] at hrf
   have hca:CellsAre e c.toList cs:=⟨by simpa using h3,fun i p hp=>by simpa [zI3] using h4 i p hp⟩
   have hco:sc av w e pB st.bx cs:=fun q hq=>⟨ho1 q hq,ho2 q hq,fun j hj=>hrf j (PV.refsL_mem.2 ⟨q,hq,hj⟩)⟩
   have go:i=0->stV z o cs p K->∃ w' B',(Instr.storeAt t (.pointer (some ⟨(e.at k).getD 0,i*ez zz+o,none⟩)) v).run P w=.ok () w'/\K B'/\Rel av w0 e0 pS pB a w' e { st with bx:=st.bx.set k B' }:=fun hi hs2=>by
    subst hi
    have:=zDO h hz hk hkp (by simp) rfl h1 h2 hca hco hv hs2
    simpa [h1] using this
   simp only [zFE] at hs
   split at hs
   ·split at hs
    ·split at hs
     ·rename_i n x hc
      exact whole n x b c tb (by simp) rfl h1 h2 (by omega) rfl hc.1 rfl hc.2.2.1 hc.2.2.2 hs
     ·exact go rfl hs
    ·exact go rfl hs
   ·exact hs.elim
 | vd x n=>
   obtain ⟨b,c,tb,h1,h2,h3,h4,h5⟩:=hr
   have hca:CellsAre e c.toList (dcs x n):=zJt h4 h3 h5
   have hco:sc av w e pB st.bx (dcs x n):=fun q hq=>by
    obtain ⟨a1,a2,a3⟩:=zKM h4 hok q hq
    exact ⟨a1,.inr a2,by rw [a3];simp⟩
   have go:i=0->stV z o (dcs x n) p K->∃ w' B',(Instr.storeAt t (.pointer (some ⟨(e.at k).getD 0,i*ez zz+o,none⟩)) v).run P w=.ok () w'/\K B'/\Rel av w0 e0 pS pB a w' e { st with bx:=st.bx.set k B' }:=fun hi hs2=>by
    subst hi
    have:=zDO h hz hk hkp (by simp) rfl h1 h2 hca hco hv hs2
    simpa [h1] using this
   simp only [zFE] at hs
   split at hs
   ·split at hs
    ·split at hs
     ·rename_i m y hc
      obtain ⟨hc1,hc2,hc3,hc4⟩:=hc
      subst hc2
      exact whole _ y b c tb (by simp) rfl h1 h2 h3 rfl hc1 rfl hc3 hc4 hs
     ·exact go rfl hs
    ·exact go rfl hs
   ·exact hs.elim
 | arr tb z' es n=>
   simp only [zFE] at hs
   split at hs
   ·rename_i hzz
    subst hzz
    obtain ⟨hi,hs⟩:=hs
    rcases hr with ⟨_,h2,_⟩ | ⟨b,c,h1,h2,h3,h4,h5,h6,h7⟩
    ·subst h2;simp at hi
    have hge:es[i]?=some (es.getD i default):=by simp [oA,oG hi]
    have heo:eOk zz (es.getD i default):=h6 _ (oC hge)
    have hgo:Good w (zJ av pB e st.bx) (es.getD i default):=hok _ (oC hge)
    have hel:=zx heo
    rw [h1]
    simp only [oc]
    split at hs
    ·rename_i hc
     obtain ⟨rfl,rfl⟩:=hc
     split at hs
     ·rename_i d hd
      obtain ⟨g1,g2,g3⟩:=sY (e:=e) hd hv.2.1
      have hpne:p≠.any:=fun hp=>by subst hp;simp [zEJ,uU] at hd
      have hv1:=hv.1.resolve_left hpne
      have hvc:v.cells.toList=d.cells.map D.cv:=by
       rw [hv1,<-g3]
       cases d with
       | lit x=>
         simp only [D.val,D.cells,oq,mZ,D.cv]
         by_cases hz0:z=0
         ·simp [eOk,hz0,D.isCell] at g2
          cases x<;>simp [Value.cells,Value.oneCell'] at g2 ⊢
         ·simp [eOk,hz0,IsAg] at g2
       | ag cs=>simp [D.val,D.cells,Value.cells]
       | sl aa zz' es' cap=>simp [D.val,D.cells,Value.cells,D.cv]
       | pt ad' zz' x'=>simp [D.val,D.cells,Value.cells,D.cv]
       | fn f' caps'=>simp [D.val,D.cells,Value.cells,D.cv]
       | mp b' es' c'=>simp [D.val,D.cells,Value.cells,D.cv]
      have hdl:d.cells.length=ez z:=zx g2
      obtain ⟨w',r1,r2⟩:=zEP h hz hk hkp h1 h2 h3 h4 h5 h6 h7 hi (ds:=d.cells) (o:=0) hvc.symm (by
       rw [hvc];intro u hu
       obtain ⟨y,hy,rfl⟩:=oQ.1 hu
       exact yR (sk g2 y hy)) hdl (by omega) (d:=d) (by rw [zHd,nE,hdl,List.drop_of_length_le (by omega)];simp) g2 g1
      exact ⟨w',_,r1,hs,r2⟩
     ·exact hs.elim
    ·split at hs
     ·exact hs.elim
     ·rename_i hz0
      split at hs
      ·rename_i ds hds
       split at hs
       ·rename_i hc
        cases hps:uF p with
        | none=>rw [hps] at hds;cases hds
        | some ps=>
          rw [hps] at hds
          simp only [mK] at hds
          obtain ⟨a1,a2,a3⟩:=y7 hps hv
          obtain ⟨b1,b2⟩:=wx (e:=e) hds (PV.OkL_iff.2 fun q hq=>(a2 q hq).1)
          have hvc:ds.map D.cv=v.cells.toList:=by
           rw [b2,PV.cvs_eq]
           apply o6
           intro j
           rw [oE]
           cases hj:ps[j]? with
           | none=>
             have:v.cells.toList[j]?=none:=oU (by rw [a1.1];exact nZ.1 hj)
             rw [this];rfl
           | some q=>
             have:=(a1.2 j q hj).resolve_left (fun hq=>by
              have:=(a2 q (oC hj)).2.1
              rw [hq] at this;exact this)
             rw [this];rfl
          have hezz:ez zz=zz:=by simp [ez,hz0]
          obtain ⟨w',r1,r2⟩:=zEP h hz hk hkp h1 h2 h3 h4 h5 h6 h7 hi (ds:=ds) (o:=o) hvc a3 hc.1 (by rw [hezz];exact hc.2) (d:=.ag (zHd o ds (es.getD i default).cells)) rfl
           (zH4 hz0 heo (fun d hd=>(b1 d hd).2) hc.2) (Good.ag fun d hd=>by
            rcases oO.1 hd with hd | hd
            ·rcases oO.1 hd with hd | hd
             ·exact hgo.cells d (oV hd)
             ·exact (b1 d hd).1
            ·exact hgo.cells d (oi hd))
          exact ⟨w',_,r1,hs,r2⟩
       ·exact hs.elim
      ·exact hs.elim
   ·exact hs.elim
theorem zGW (h:Rel av w0 e0 pS pB a w e st) {t:TypeId} {x y:Operand} {K:Nat->Bx->Prop} (hx:∀ i,x=.tmp i->i∉pS) (hy:∀ i,y=.tmp i->i∉pS)
  (hs:stF P (opd st.sl) (fun k=>st.bx[k]?) t x y K) :
  ∃ w' k B',(Instr.storeAt t (a.eval x) (a.eval y)).run P w=.ok () w'/\K k B'/\Rel av w0 e0 pS pB a w' e { st with bx:=st.bx.set k B' }:=by
 have ox:=yP h hx
 have oy:=(yP h hy).valOk.retag (P:=P) t
 unfold stF at hs
 split at hs
 ·rename_i z k zz i o hz hp
  rw [hp] at ox
  have hav:=ox.h.resolve_left (by simp)
  have hkr:=ox.rf k (by simp [PV.refs])
  split at hs
  ·rename_i B hB
   rw [hav]
   obtain ⟨w',B',r1,r2,r3⟩:=zDY h hz hB hkr.1 oy hs
   exact ⟨w',k,B',r1,r2,r3⟩
  ·exact hs.elim
 ·exact hs.elim
end Go.Proofs.YtmfjakahanbnlaaGreatDoor
