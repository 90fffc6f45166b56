/- How a real state that fits an abstract one goes on fitting: a slot is set, a box is made, a box is written. -/
import Derived.Test.YtlaniepnglheoaaGreatDoorJa
import Derived.Deep.AppendSrc
import Derived.Laws.BitsLemmas
set_option linter.unusedVariables false
set_option linter.unusedSimpArgs false
set_option linter.unusedSectionVars false
namespace Go.Proofs.YtlaniepnglheoaaGreatDoor
open Go
def St.put (st:St)(dst:Option Nat)(p:PV):St:=
 match dst with
 | some d=>{ st with sl:=st.sl.set d p }
 | none=>st
variable [Dfs] {av:Nat->Prop} {P:Program} {w0 w w':World} {e0 e:Env} {pS pS' pB:aI} {a:Act} {st:St}
theorem CQ {w:World}{o b}(h:b<w.heap.size):(w.alloc o).heap[b]?=w.heap[b]?:=by show(w.heap.push o)[b]?=w.heap[b]?;rw[Array.getElem?_push,if_neg (Nat.ne_of_lt h)]
theorem MN {w:World}{o}:(w.alloc o).heap[w.heap.size]?=some o:=by show(w.heap.push o)[w.heap.size]?=some o;simp
theorem wE (h:Rel av w0 e0 pS pB a w e st){dst v p}(hv:ValOk av w e pB st.bx v p)(Y:∀ i,i∈pS->some i≠dst->i∈pS'):Rel av w0 e0 pS' pB (a.put dst v) w e (st.put dst p):=by
 cases dst with
 | none=>exact { h with hs:=λi q hi I=>h.hs i q hi (λhc=>I (Y i hc aB)),so:=λi q hi I=>h.so i q hi (λhc=>I (Y i hc aB)),sr:=λi q hi I=>h.sr i q hi (λhc=>I (Y i hc aB)) }
 | some d=>
   have J:∀ i,i∉pS'->i≠d->i∉pS:=λi I hd hc=>I (Y i hc (by simp[hd]));have U:∀(i:Nat) (q:PV),(st.sl.set d p)[i]?=some q->(i=d/\q=p/\d<st.sl.length)\/(i≠d/\st.sl[i]?=some q):=λi q hi=>by
    rw[nU]at hi;split at hi
    ·rename_i hd;subst hd;split at hi
     ·rename_i O;simp at hi;exact .inl ⟨rfl,hi.symm,O⟩
     ·cases hi
    ·rename_i hd;exact .inr ⟨λhh=>hd hh.symm,hi⟩
   refine { h with nd:=h.nd,sz:=?_,hs:=?_,so:=?_,sr:=?_ }
   ·simp[St.put,Act.put];exact h.sz
   ·intro i q hi I;rcases U i q hi with⟨rfl,rfl,O⟩ | ⟨hd,hi⟩
    ·rcases hv.1 with h1 | h1
     ·exact .inl h1
     ·right;have:i<a.tmps.size:=by have:=h.sz;omega
      simp[Act.put,this,h1]
    ·have:=h.hs i q hi (J i I hd)
     simp only[Act.put];rw[nC,Array.getElem?_setIfInBounds_ne (Ne.symm hd),<-nC];exact this
   ·intro i q hi I;rcases U i q hi with⟨rfl,rfl,O⟩ | ⟨hd,hi⟩
    ·exact hv.2.1
    ·exact h.so i q hi (J i I hd)
   ·intro i q hi I;rcases U i q hi with⟨rfl,rfl,O⟩ | ⟨hd,hi⟩
    ·exact hv.2.2
    ·exact h.sr i q hi (J i I hd)
theorem w7 {pB e bx B}(hl:e.length=bx.length){k b}:Lives (bx.length::pB) (e++[none]) (bx++[B]) k b↔Lives (bx.length::pB) e bx k b:=by
 constructor
 ·rintro⟨O,U,B',I,Y⟩
  have hk:k≠bx.length:=λh=>O (by simp[h]);by_cases J:k<bx.length
  ·rw[Env.at_append_lt aA]at U;rw[oQ J]at I;exact⟨O,U,B',I,Y⟩
  ·rw[oc aF]at I;cases I
 ·rintro⟨O,U,B',I,Y⟩
  have J:k<bx.length:=(oD.1 I).1;exact⟨O,by rw[Env.at_append_lt aA];exact U,B',by rw[oQ J];exact I,Y⟩
theorem Cw {pB e bx j b}(h:za av (j::pB) e bx b):za av pB e bx b:=by
 rcases h with h | ⟨k,I,J⟩
 ·exact .inl h
 ·exact .inr ⟨k,λhc=>I (by simp[hc]),J⟩
theorem qD (h:Rel av w0 e0 pS pB a w e st){B} :
  Rel av w0 e0 pS (st.bx.length::pB) a w (e++[none]) { st with bx:=st.bx++[B] }:=by
 have Y:∀ b,za av (st.bx.length::pB) (e++[none]) (st.bx++[B]) b->za av pB e st.bx b:=λb hb=>Cw (hb.imp id λ⟨k,I⟩=>⟨k,(w7 h.el).1 I⟩);have U:∀(k:Nat) (B':Bx),(st.bx++[B])[k]?=some B'->(k<st.bx.length/\st.bx[k]?=some B')\/(k=st.bx.length/\B'=B):=λk B' I=>by
  by_cases O:k<st.bx.length
  ·rw[oQ O]at I;exact .inl ⟨O,I⟩
  ·rw[oU aA]at I;have:k - st.bx.length=0:=by
    rcases md (k - st.bx.length)with h0 | h0
    ·exact h0
    ·rw[oc aF]at I;cases I
   rw[this]at I;simp at I;exact .inr ⟨aA,I.symm⟩
 have aa:∀ k,k<st.bx.length->Env.at (e++[none]) k=e.at k:=λk I=>Env.at_append_lt (by rw[h.el];exact I);have ab:∀(B':Bx),B'.Ok w (za av pB e st.bx)->B'.Ok w (za av (st.bx.length::pB) (e++[none]) (st.bx++[B])):=λB' hb=>hb.mono (λ_ _ _=>rfl) (oC _) (λb _=>Y b);exact {
  el:=by simp[h.el]
  br:=λk B' I J=>by
   rcases U k B' I with⟨O,I⟩ | ⟨rfl,_⟩
   ·rw[aa k O];have ac:k∉pB:=λhc=>J (by simp[hc]);exact(h.br k B' I ac).congr (λ_ _=>rfl) (λj hj=>aa j (h.bf k B' I ac j hj).2)
   ·exact absurd aB J
  bo:=λk B' I J=>by
   rcases U k B' I with⟨O,I⟩ | ⟨rfl,_⟩
   ·exact ab _ (h.bo k B' I λhc=>J (by simp[hc]))
   ·exact absurd aB J
  bf:=λk B' I J j hj=>by
   rcases U k B' I with⟨O,I⟩ | ⟨rfl,_⟩
   ·have:=h.bf k B' I (λhc=>J (by simp[hc])) j hj
    exact⟨by simp;exact⟨aA,this.1⟩,aF⟩
   ·exact absurd aB J
  inj:=λk j b I hj=>by have h1:=(w7 h.el).1 I;have h2:=(w7 h.el).1 hj;exact h.inj k j b ⟨λhc=>h1.1 (by simp[hc]),h1.2⟩ ⟨λhc=>h2.1 (by simp[hc]),h2.2⟩
  ku:=h.ku
  size:=h.size
  old:=h.old
  fz:=h.fz
  nd:=h.nd
  sz:=h.sz
  hN:=h.hN
  hs:=λi p hi J=>by
   have h1:=h.hs i p hi J;rcases h1 with h1 | h1
   ·exact .inl h1
   ·refine .inr (h1.trans (PV.val_congr p λk I=>?_).symm);exact aa k (h.sr i p hi J k I).2
  so:=λi p hi J=>PV.Ok.mono (λ_ _ _=>rfl) (oC _) (λb _=>Y b) p (h.so i p hi J)
  sr:=λi p hi J k I=>by
   have:=h.sr i p hi J k I
   exact⟨by simp;exact⟨aA,this.1⟩,aF⟩
  own:=λk b I=>by have h1:=(w7 h.el).1 I;exact h.own k b ⟨λhc=>h1.1 (by simp[hc]),h1.2⟩
  avl:=h.avl
  avn:=λk b I=>by have h1:=(w7 h.el).1 I;exact h.avn k b ⟨λhc=>h1.1 (by simp[hc]),h1.2⟩
  pin:=λk b hb=>by
   have:=h.pin k b hb
   have hl:k<e.length:=lT λhc=>by rw[Env.at_ge hc]at this;simp at this
   rw[Env.at_append_lt hl];exact⟨this.1,by simp;exact⟨by rw[<-h.el];omega,this.2⟩⟩
  pit:=h.pit }
theorem Bi (h:Rel av w0 e0 pS pB a w e st){k B v c t f}(hk:st.bx[k]?=some B)(ak:k∈pB)(nb:NewBox av w e pB st.bx v (w.alloc (.cells c t)) B f) :
  Rel av w0 e0 pS (pB.filter (·≠k)) a (w.alloc (.cells c t)) (e.set k (some w.heap.size)) st:=by
 have al:k<st.bx.length:=(oD.1 hk).1;have ao:k<e.length:=by rw[h.el];exact al
 have O:∀ j,j∉pB.filter (·≠k)↔(j∉pB\/j=k):=λj=>by simp;exact Decidable.imp_iff_not_or
 have aa:∀ j,j≠k->Env.at (e.set k (some w.heap.size)) j=e.at j:=λj I=>Env.at_set_ne I;have ac:Env.at (e.set k (some w.heap.size)) k=some w.heap.size:=Env.at_set_eq ao;have J:∀ j b,Lives (pB.filter (·≠k)) (e.set k (some w.heap.size)) st.bx j b->(j=k/\b=w.heap.size)\/(j≠k/\Lives pB e st.bx j b):=λj b ⟨h1,h2,B',h3,h4⟩=>by
  by_cases I:j=k
  ·subst I;rw[ac]at h2;exact .inl ⟨rfl,(oZ h2).symm⟩
  ·rw[aa j I]at h2;rcases(O j).1 h1 with h5 | h5
   ·exact .inr ⟨I,h5,h2,B',h3,h4⟩
   ·exact absurd h5 I
 have U:∀ b,b<w.heap.size->(w.alloc (.cells c t)).heap[b]?=w.heap[b]?:=λb hb=>CQ hb;have ab:∀ b,b<w.heap.size->za av (pB.filter (·≠k)) (e.set k (some w.heap.size)) st.bx b->za av pB e st.bx b:=λb hb hl=>by
  rcases hl with hl | ⟨j,I⟩
  ·exact .inl hl
  rcases J j b I with⟨_,rfl⟩ | ⟨_,h1⟩
  ·omega
  ·exact .inr ⟨j,h1⟩
 have ae:w.heap.size<=(w.alloc (.cells c t)).heap.size:=aB
 have ah:∀ j,j∉pB->j≠k:=λj I hh=>I (hh ▸ ak);exact {
  el:=by simp[h.el]
  br:=λj B' I Y=>by
   by_cases ai:j=k
   ·subst ai;rw[hk]at I
    have:=oZ I
    subst this;rw[ac];exact nb.rel _ λi hi=>aa i (ah i (nb.rf i hi).1)
   ·have aj:j∉pB:=((O j).1 Y).resolve_right ai;rw[aa j ai];have hr:=h.br j B' I aj;by_cases hg:B'=.gone
    ·subst hg;exact True.intro
    ·exact hr.congr (λb hb=>U b (Lives.lt h.toMem ⟨aj,hb,B',I,hg⟩)) (λi hi=>aa i (ah i (h.bf j B' I aj i hi).1))
  bo:=λj B' I Y=>by
   rcases(O j).1 Y with h1 | h1
   ·exact(h.bo j B' I h1).mono (λb hb _=>U b hb) ae ab
   ·subst h1;rw[hk]at I
    have:=oZ I
    subst this;exact nb.ok.mono (λb hb _=>U b hb) ae ab
  bf:=λj B' I Y i hi=>by
   rcases(O j).1 Y with h1 | h1
   ·have:=h.bf j B' I h1 i hi;exact⟨(O i).2 (.inl this.1),this.2⟩
   ·subst h1;rw[hk]at I
    have:=oZ I
    subst this
    have:=nb.rf i hi
    exact⟨(O i).2 (.inl this.1),this.2⟩
  inj:=λi j b hi I=>by
   rcases J i b hi with⟨rfl,rfl⟩ | ⟨h1,h2⟩
   ·rcases J j _ I with⟨rfl,_⟩ | ⟨h3,h4⟩
    ·rfl
    ·have:=Lives.lt h.toMem h4;omega
   ·rcases J j b I with⟨rfl,rfl⟩ | ⟨h3,h4⟩
    ·have:=Lives.lt h.toMem h2;omega
    ·exact h.inj i j b h2 h4
  ku:=⟨h.ku.os,h.ku.out⟩
  size:=by have:=h.size;simp;omega
  old:=λb hb Y=>by rw[U b (by have:=h.size;omega)];exact h.old b hb Y
  fz:=λb c' t' z hb hc=>by
   by_cases aq:b<w.heap.size
   ·rw[U b aq]at hc;exact h.fz b c' t' z hb hc
   ·have au:b=w.heap.size:=by have:=(oW.1 hc).1;simp at this;omega
    subst au;rw[MN]at hc;cases hc;exact fz0
  nd:=h.nd
  sz:=h.sz
  hN:=by have:=h.hN;simp;omega
  hs:=λi p hi Y=>by
   rcases h.hs i p hi Y with h1 | h1
   ·exact .inl h1
   ·exact .inr (h1.trans (PV.val_congr p λj I=>aa j (ah j (h.sr i p hi Y j I).1)).symm)
  so:=λi p hi Y=>PV.Ok.mono (λb hb _=>U b hb) ae ab p (h.so i p hi Y)
  sr:=λi p hi Y j I=>by
   have:=h.sr i p hi Y j I
   exact⟨(O j).2 (.inl this.1),this.2⟩
  own:=λj b I=>by
   rcases J j b I with⟨rfl,rfl⟩ | ⟨_,h2⟩
   ·left;exact h.size
   ·exact h.own j b h2
  avl:=h.avl
  avn:=λj b I=>by
   rcases J j b I with⟨rfl,rfl⟩ | ⟨_,h2⟩
   ·intro hc;have h3:=h.avl.lt _ hc;have h4:=h.size;omega
   ·exact h.avn j b h2
  pin:=λj b hb=>by
   have:=h.pin j b hb
   have aw:j≠k:=λhc=>this.2 (hc ▸ ak);rw[aa j aw];exact⟨this.1,(O j).2 (.inl this.2)⟩
  pit:=h.pit }
end Go.Proofs.YtlaniepnglheoaaGreatDoor
namespace Go.Proofs.YtlaniepnglheoaaGreatDoor
open Go
inductive Res where
 | v (p:PV)
 | b (B:Bx) (f:Nat->PV)
def RA (ds:aM):aN:=ds.map λd=>match d with
 | .pt ad z x=>.pd ad z x
 | d=>.dc d
def X4 (P:Program)(t:aK)(p:PV)(R:PV->Prop):Prop:=
 match p with
 | .dc x=>match P.underlying t with
   | some (.int k)=>∃ n,x=.lit (.int k n)/\R (.int k n)
   | some .bool=>∃ v,x=.lit (.bool v)/\R (.bool v)
   | some .string=>∃ v,x=.lit (.string v)/\R (.str v)
   | some (.slice el)=>match kz P el with
     | some z=>∃ a es cap,x=.sl a z es cap/\R (.sv a z es cap)
     | none=>R (.dc x)
   | some (.pointer _)=>match x with
     | .pt ad z y=>R (.pd ad z y)
     | x=>R (.dc x)
   | some (.func _ _ _)=>match x with
     | .fn f ds=>R (.fn f (RA ds))
     | x=>R (.dc x)
   | _=>R (.dc x)
 | p=>R p
def YC:Op->Bool
 | .alloc _ | .box .. | .buildSlice .. | .makeSlice .. | .build ..=>true
 | .move _ | .assign _ | .pick .. | .load .. | .nilCheck _ | .binOp .. | .unOp .. | .convert .. | .fieldAddr .. | .indexAddr .. | .index .. | .slice .. | .field .. | .extract .. | .makeFunc .. | .lookup ..=>true
 | .call c=>match c.callee with
   | .builtin .len=>true
   | .builtin .max=>true
   | .builtin .min=>true
   | _=>false
 | _=>false
def nev (P:Program)(ρ:Operand->PV)(rb:Nat->Option Bx)(op:Op)(ty:aK)(R:Res->Prop):Prop:=
 match op with
 | .alloc t=>P4 P ρ (.alloc t) λB f=>R (.b B f)
 | .box t x=>P4 P ρ (.box t x) λB f=>R (.b B f)
 | .buildSlice t n parts=>P4 P ρ (.buildSlice t n parts) λB f=>R (.b B f)
 | .makeSlice t l c=>P4 P ρ (.makeSlice t l c) λB f=>R (.b B f)
 | .build t parts=>Dr P ρ t parts.toList λp=>R (.v p)
 | op=>Cz P ρ rb op ty λp=>X4 P ty p λq=>R (.v q)
def Lin {α}(F:(α->Prop)->Prop):=∀ R,F R->∃ x,R x/\∀ R':α->Prop,R' x->F R'
theorem Lin.pure {α} x:Lin (λR:α->Prop=>R x):=λR h=>⟨x,h,λ_ h=>h⟩
theorem Lin.bind {α β F}{G:α->(β->Prop)->Prop}(I:Lin F)(J:∀ x,Lin (G x)):Lin (λR=>F λx=>G x R):=λR h=>by obtain⟨x,O,U⟩:=I _ h;obtain⟨y,Y,h4⟩:=J x R O;exact⟨y,Y,λR' h=>U _ (h4 R' h)⟩
theorem Lin.and {α p}{F:(α->Prop)->Prop}(I:Lin F):Lin (λR=>p/\F R):=λR h=>by obtain⟨y,J,O⟩:=I R h.2;exact⟨y,J,λR' U=>⟨h.1,O R' U⟩⟩
theorem Lin.ex {α β:Type}{F:β->(α->Prop)->Prop}(I:∀ b,Lin (F b)):Lin (λR=>∃ b,F b R):=λR ⟨b,h⟩=>by obtain⟨y,J,O⟩:=I b R h;exact⟨y,J,λR' U=>⟨b,O R' U⟩⟩
theorem Lin.no {α}:Lin (λ_:α->Prop=>False):=λ_ h=>h.elim
theorem Lin.ite {α p}[Decidable p]{F G:(α->Prop)->Prop}(I:Lin F)(J:Lin G):Lin (λR=>if p then F R else G R):=by
 by_cases h:p
 ·simp only[h,mI];exact I
 ·simp only[h,ni];exact J
theorem uL {P t p}:Lin (frc P t p):=by
 unfold frc;cases p
 case dc x=>
  simp only;cases P.underlying t with
  | none=>exact Lin.no
  | some d=>
    cases d<;>simp only<;>first
     | exact Lin.no
     | exact Lin.ex λn=>Lin.and (Lin.pure _)
     | skip
    rename_i el;cases kz P el with
    | none=>exact Lin.no
    | some z=>exact Lin.ex λa=>Lin.ex λes=>Lin.ex λc=>Lin.and (Lin.pure _)
 all_goals exact Lin.pure _
theorem Vh {P t p}:Lin (X4 P t p):=by
 unfold X4;cases p
 case dc x=>
  simp only;cases P.underlying t with
  | none=>exact Lin.pure _
  | some d=>
    cases d<;>simp only<;>first
     | exact Lin.pure _
     | exact Lin.ex λn=>Lin.and (Lin.pure _)
     | skip
    ·cases x<;>exact Lin.pure _
    ·rename_i el;cases kz P el with
     | none=>exact Lin.pure _
     | some z=>exact Lin.ex λa=>Lin.ex λes=>Lin.ex λc=>Lin.and (Lin.pure _)
    ·cases x<;>exact Lin.pure _
 all_goals exact Lin.pure _
theorem Ae {p}:Lin (Ug p):=by
 unfold Ug;cases p<;>simp only<;>first | exact Lin.pure _ | exact Lin.no | skip
 exact Lin.ex λk=>Lin.ex λn=>Lin.and (Lin.pure _)
theorem Vg {p}:Lin (Zt p):=by
 unfold Zt;cases p<;>simp only<;>first | exact Lin.pure _ | exact Lin.no | skip
 exact Lin.ex λn=>Lin.and (Lin.pure _)
theorem Af {p d}:Lin (VR p d):=by
 unfold VR;cases p<;>simp only
 ·exact Lin.pure _
 ·exact Ae
theorem Om {cs}:Lin (pgR cs):=by unfold pgR;exact Lin.ite (Lin.pure _) (Lin.pure _)
theorem TN {z zz B i o}:Lin (O1 z zz B i o):=by
 unfold O1;cases B<;>simp only
 case gone=>exact Lin.no
 case var cs=>cases i<;>simp only<;>first | exact Lin.no | exact Lin.ite (Lin.ite (Lin.pure _) Lin.no) (Lin.ite Om Lin.no)
 case vd x n=>cases i<;>simp only<;>first | exact Lin.no | exact Lin.ite (Lin.ite (Lin.pure _) Lin.no) (Lin.ite (Lin.pure _) (Lin.ite (Lin.pure _) Lin.no))
 case arr t z' es n=>refine Lin.ite (Lin.and ?_) Lin.no;exact Lin.ite (Lin.ite (Lin.pure _) Lin.no) (Lin.ite (Lin.ite (Lin.pure _) Lin.no) (Lin.ite (Lin.pure _) (Lin.ite (Lin.pure _) Lin.no)))
theorem Vi {op k a b}:Lin (Z1 op k a b):=by unfold Z1;cases op<;>simp only<;>first | exact Lin.pure _ | exact Lin.no | exact Lin.and (Lin.pure _)
theorem Vm {op a b}:Lin (zAl op a b):=by unfold zAl;cases op<;>simp only<;>first | exact Lin.pure _ | exact Lin.no | exact Lin.and (Lin.pure _)
theorem TL {op a b}:Lin (U2 op a b):=by unfold U2;cases op<;>simp only<;>first | exact Lin.pure _ | exact Lin.no
theorem Vl {P op t a b I cb J}:Lin (zAh P op t a b I J cb):=by
 unfold zAh;split<;>try exact Lin.no
 split<;>try exact Lin.no
 cases op<;>simp only<;>first | exact Lin.pure _ | exact Lin.no
theorem Vf {P op t p q}:Lin (ZX P op t p q):=by
 unfold ZX;cases p<;>cases q<;>simp only<;>first | exact Lin.no | exact Vm | exact Vl | skip
 ·cases op<;>simp only<;>first | exact Lin.and (Lin.pure _) | exact Lin.ite Vi Lin.no
 ·cases P.underlying t with
  | none=>exact Lin.no
  | some d=>cases d<;>simp only<;>first | exact Lin.no | exact TL
theorem RQ {rb p}:Lin (Gg rb p):=by
 unfold Gg;split
 ·split
  ·exact Lin.ex λns=>Lin.and (Lin.pure _)
  ·exact Lin.no
 ·split
  ·split
   ·exact Lin.and (Lin.ex λns=>Lin.and (Lin.pure _))
   ·exact Lin.no
  ·exact Lin.no
 ·exact Lin.no
theorem Vk {P ρ rb op ty}:Lin (Cz P ρ rb op ty):=by
 unfold Cz;cases op<;>(try simp only)<;>try exact Lin.no
 case move=>exact Lin.pure _
 case assign=>exact Lin.pure _
 case pick=>exact Lin.bind Vg λv=>Lin.ite (Lin.pure _) (Lin.pure _)
 case load t x=>
  cases kz P t with
  | none=>exact Lin.no
  | some z=>
    simp only;cases ρ x<;>(try simp only)<;>try exact Lin.no
    ·rename_i k zz i o;cases rb k with
     | none=>exact Lin.no
     | some B=>exact TN
    ·exact Lin.ite (Lin.pure _) Lin.no
 case nilCheck x=>cases ρ x<;>(try simp only)<;>first | exact Lin.no | exact Lin.pure _
 case binOp=>exact Lin.bind uL λp=>Lin.bind uL λq=>Vf
 case unOp op t x=>
  cases op<;>(try simp only)<;>first
   | exact Lin.no
   | exact Lin.bind uL λp=>(by cases p<;>(try simp only)<;>first | exact Lin.no | exact Lin.pure _)
 case convert s d x=>
  cases P.underlying d with
  | none=>exact Lin.no
  | some dd=>
    cases dd<;>(try simp only)<;>try exact Lin.no
    ·cases P.underlying s with
     | none=>exact Lin.no
     | some I=>
       cases I<;>(try simp only)<;>try exact Lin.no
       exact Lin.bind uL λp=>(by cases p<;>(try simp only)<;>first | exact Lin.no | exact Lin.pure _)
    ·cases P.underlying s with
     | none=>exact Lin.no
     | some I=>
       cases I<;>(try simp only)<;>try exact Lin.no
       split<;>try exact Lin.no
       exact Lin.bind uL λp=>RQ
 case lookup t m i ok=>
  cases ok<;>(try simp only)<;>try exact Lin.no
  cases P.underlying t with
  | none=>exact Lin.no
  | some d=>
    cases d<;>(try simp only)<;>try exact Lin.no
    refine Lin.bind uL λp=>?_;cases p<;>(try simp only)<;>try exact Lin.no
    cases ρ m<;>(try simp only)<;>try exact Lin.no
    exact Lin.ex λb=>Lin.ex λes=>Lin.ex λc=>Lin.and (Lin.ex λo=>Lin.and (Lin.pure _))
 case makeFunc f first caps=>
  cases f<;>(try simp only)<;>try exact Lin.no
  cases first.toList<;>(try simp only)<;>try exact Lin.no
  exact Lin.ite (Lin.pure _) Lin.no
 case slice t x lo hi O=>
  cases O<;>(try simp only)<;>try exact Lin.no
  cases P.underlying t with
  | none=>exact Lin.no
  | some d=>
    cases d<;>(try simp only)<;>try exact Lin.no
    ·refine Lin.bind uL λp=>?_;cases p<;>(try simp only)<;>try exact Lin.no
     exact Lin.bind Af λl=>Lin.bind Af λh=>Lin.and (Lin.pure _)
    ·rename_i el;cases kz P el with
     | none=>exact Lin.no
     | some z=>
       try simp only
       refine Lin.bind uL λp=>?_;cases p<;>(try simp only)<;>try exact Lin.no
       ·exact Lin.ite (Lin.bind Af λl=>Lin.bind Af λh=>Lin.and (Lin.pure _)) Lin.no
       ·cases lo<;>simp only
        ·exact Lin.bind Af λh=>Lin.and (Lin.pure _)
        ·exact Lin.ite (Lin.bind Ae λl=>Lin.bind Af λh=>Lin.and (Lin.pure _)) Lin.no
 case fieldAddr t x f=>
  cases AX P t f with
  | none=>exact Lin.no
  | some J=>obtain⟨o,z⟩:=J;simp only;cases ρ x<;>(try simp only)<;>first | exact Lin.no | exact Lin.pure _ | exact Lin.ite (Lin.pure _) Lin.no
 case field t x f=>
  cases AX P t f with
  | none=>exact Lin.no
  | some J=>
    obtain⟨o,z⟩:=J;simp only;cases ρ x<;>(try simp only)<;>try exact Lin.no
    ·exact Lin.ite (Lin.ite (Lin.pure _) Lin.no) (Lin.ite (Lin.pure _) Lin.no)
    ·exact Lin.ite (Lin.ite (Lin.pure _) Lin.no) (Lin.ite Om Lin.no)
 case indexAddr t x i=>
  cases P.underlying t with
  | none=>exact Lin.no
  | some d=>
    cases d<;>(try simp only)<;>try exact Lin.no
    rename_i el;cases kz P el with
    | none=>exact Lin.no
    | some z=>
      try simp only
      refine Lin.bind Ae λn=>Lin.bind uL λp=>?_;cases p<;>(try simp only)<;>try exact Lin.no
      ·exact Lin.ite (Lin.and (Lin.pure _)) Lin.no
      ·rename_i k z' lo m c;cases rb k with
       | none=>exact Lin.no
       | some B=>cases B<;>(try simp only)<;>first | exact Lin.no | exact Lin.ite (Lin.and (Lin.pure _)) Lin.no
 case index t x i=>
  cases P.underlying t with
  | none=>exact Lin.no
  | some d=>
    cases d<;>(try simp only)<;>try exact Lin.no
    refine Lin.bind Ae λn=>Lin.bind uL λp=>?_;cases p<;>(try simp only)<;>try exact Lin.no
    exact Lin.and (Lin.pure _)
 case extract x i=>
  cases ρ x<;>(try simp only)<;>try exact Lin.no
  rename_i l;cases l[i]? with
  | none=>exact Lin.no
  | some p=>cases p<;>(try simp only)<;>first | exact Lin.no | exact Lin.pure _
 case call c=>
  cases c.callee<;>(try simp only)<;>try exact Lin.no
  rename_i b;cases b<;>(try simp only)<;>try exact Lin.no
  all_goals(rcases c.args.toList with _ | ⟨x,_ | ⟨y,_ | ⟨u,us⟩⟩⟩<;>rcases c.argTypes.toList with _ | ⟨s,_ | ⟨t,_ | ⟨r,rs⟩⟩⟩<;>(try simp only)<;>try exact Lin.no)
  ·cases P.underlying s with
   | none=>exact Lin.no
   | some d=>
     cases d<;>(try simp only)<;>try exact Lin.no
     all_goals(refine Lin.bind uL λp=>?_;cases p<;>(try simp only)<;>first | exact Lin.no | exact Lin.pure _)
  all_goals(refine Lin.bind uL λp=>Lin.bind uL λq=>?_;cases p<;>cases q<;>(try simp only)<;>first | exact Lin.no | exact Lin.pure _)
theorem Ol {P ρ t}{parts:List (Nat × Operand)}:Lin (Dr P ρ t parts):=by
 unfold Dr;split<;>try exact Lin.no
 split<;>try exact Lin.no
 split<;>try exact Lin.no
 exact Om
theorem Vj {P ρ op}:Lin (λR:Res->Prop=>P4 P ρ op λB f=>R (.b B f)):=by
 unfold P4;cases op<;>(try simp only)<;>try exact Lin.no
 case alloc t=>
  cases FC P t with
  | none=>exact Lin.no
  | some cs=>exact Lin.pure _
 case box t x=>cases ρ x<;>(try simp only)<;>first | exact Lin.no | exact Lin.pure _
 case buildSlice t n parts=>
  split<;>try exact Lin.no
  split<;>try exact Lin.no
  split<;>try exact Lin.no
  exact Lin.ite (Lin.pure _) Lin.no
 case makeSlice t l c=>
  split<;>try exact Lin.no
  split<;>try exact Lin.no
  split<;>try exact Lin.no
  exact Lin.bind Ae λn=>Lin.bind Ae λm=>Lin.and (Lin.pure _)
theorem TM {P ρ rb op ty}:Lin (nev P ρ rb op ty):=by
 have I:Lin (λR:Res->Prop=>Cz P ρ rb op ty λp=>X4 P ty p λq=>R (.v q)):=
  Lin.bind Vk λp=>Lin.bind Vh λq=>Lin.pure _
 unfold nev;cases op<;>(try simp only)<;>first | exact Vj | exact I | skip
 exact Lin.bind Ol λp=>Lin.pure _
variable [Dfs] {av:Nat->Prop} {P:Program} {w0 w:World} {e0 e:Env} {pS pS' pB:aI} {a:Act} {st:St}
theorem vn (h:Rel av w0 e0 pS pB a w e st){x}(O:∀ t,x=.tmp t->t∉pS):OpdOk av a w e pB st.bx x (opd st.sl x):=by
 cases x with
 | tmp t=>
   simp only[opd];cases I:st.sl[t]? with
   | none=>rw[oA,I];exact⟨.inl rfl,trivial,by simp[PV.refs]⟩
   | some p=>rw[oA,I];have J:=O t rfl;exact⟨h.hs t p I J,h.so t p I J,h.sr t p I J⟩
 | const v=>obtain⟨U,Y,h3⟩:=Oy v w (za av pB e st.bx) e;exact⟨h3.imp id Eq.symm,U,by simp only[opd];rw[Y];simp⟩
 | global g=>exact⟨.inl rfl,trivial,by simp[opd,PV.refs]⟩
 | func f=>exact⟨.inr rfl,by simp only[opd];exact trivial,by simp[opd,PV.refs,PV.refsL]⟩
theorem Jl {ρ ρ' rb rb' op ty R}(hρ:∀ x∈op.operands,ρ' x=ρ x)(hb:∀ x∈op.operands,∀ k∈(ρ x).refs,rb' k=rb k):Cz P ρ' rb' op ty R=Cz P ρ rb op ty R:=by
 cases op<;>simp only[Op.operands]at hρ hb<;>try rfl
 case move x=>simp[Cz,hρ x aB]
 case assign x=>simp[Cz,hρ x aB]
 case pick c x y=>simp[Cz,hρ c aB,hρ x aB,hρ y aB]
 case load t x=>
  simp only[Cz,hρ x aB]
  have:=hb x aB
  generalize ρ x=p at this;cases p<;>try rfl
  rename_i k z i o;simp only[this k (by simp[PV.refs])]
 case nilCheck x=>simp[Cz,hρ x aB]
 case binOp op t x y Y=>simp[Cz,hρ x aB,hρ y aB]
 case unOp op t x=>simp[Cz,hρ x aB]
 case convert s d x=>
  simp only[Cz,hρ x aB]
  have:=hb x aB
  generalize ρ x=p at this;cases p with
  | sb k z lo n c=>simp only[frc,Gg,this k (by simp[PV.refs])]
  | dc y=>simp only[frc,Gg]
  | _=>rfl
 case fieldAddr t x f=>simp[Cz,hρ x aB]
 case field t x f=>simp[Cz,hρ x aB]
 case extract x i=>simp[Cz,hρ x aB]
 case index t x i=>simp[Cz,hρ x aB,hρ i aB]
 case lookup t m i ok=>simp only[Cz,hρ m aB,hρ i aB]
 case makeFunc f first caps=>have hc:caps.toList.map ρ'=caps.toList.map ρ:=nF λx J=>hρ x (by simp[nB.1 J]);simp only[Cz,hc]
 case slice t x lo hi mx=>
  have I:=hρ x aB;have h2:lo.map ρ'=lo.map ρ:=by cases lo<;>simp;exact hρ _ aB
  have O:hi.map ρ'=hi.map ρ:=by cases hi<;>simp;exact hρ _ aB
  cases lo with
  | none=>simp only[Cz,I,O,mX]
  | some y=>have U:ρ' y=ρ y:=hρ y aB;simp only[Cz,I,O,U,oX]
 case indexAddr t x i=>
  simp only[Cz,hρ x aB,hρ i aB]
  have:=hb x aB
  generalize ρ x=p at this;cases p with
  | sb k z lo n c=>simp only[frc,this k (by simp[PV.refs])]
  | _=>rfl
 case call c=>
  have I:∀ x∈c.args.toList,ρ' x=ρ x:=λx J=>hρ x (by simp[Call.operands,nB.1 J]);simp only[Cz];generalize c.args.toList=as at I;generalize c.argTypes.toList=ts;cases c.callee<;>try rfl
  rename_i b;cases b<;>try rfl
  all_goals(rcases as with _ | ⟨x,_ | ⟨y,_ | ⟨u,us⟩⟩⟩<;>rcases ts with _ | ⟨s,_ | ⟨t,_ | ⟨r,rs⟩⟩⟩<;>try rfl)
  ·simp only[I x aB]
  ·simp only[I x aB,I y aB]
  ·simp only[I x aB,I y aB]
theorem Mg {ρ ρ' z}(l:List (Nat × Operand)):∀ k,(∀ p∈l,ρ' p.2=ρ p.2)->BQ z ρ' k l=BQ z ρ k l:=by
 induction l with
 | nil=>intro k _;rfl
 | cons p l I=>intro k h;obtain⟨i,x⟩:=p;simp only[BQ];rw[h (i,x) aB,I (k+1) λp J=>h p (by simp[J])]
theorem RT {ρ ρ' op R}(hρ:∀ x∈op.operands,ρ' x=ρ x):P4 P ρ' op R=P4 P ρ op R:=by
 cases op<;>simp only[Op.operands]at hρ<;>try rfl
 case box t x=>simp[P4,hρ x aB]
 case buildSlice t n parts=>have:∀ z,BQ z ρ' 0 parts.toList=BQ z ρ 0 parts.toList:=λz=>Mg _ 0 λp I=>hρ p.2 (by simp;exact⟨p.1,nB.1 I⟩);simp only[P4,this]
 case makeSlice t l c=>simp[P4,hρ l aB,hρ c aB]
theorem HN {ρ ρ' rb rb' op ty R}(hρ:∀ x∈op.operands,ρ' x=ρ x)(hb:∀ x∈op.operands,∀ k∈(ρ x).refs,rb' k=rb k):nev P ρ' rb' op ty R=nev P ρ rb op ty R:=by
 unfold nev;cases op<;>simp only<;>first
  | exact RT hρ
  | exact Jl hρ hb
  | skip
 rename_i t parts;have:(parts.toList.map λ(i,x)=>(i,ρ' x))=(parts.toList.map λ(i,x)=>(i,ρ x)):=nF λp I=>by
  have:=hρ p.2 (by simp only[Op.operands];simp;exact⟨p.1,nB.1 I⟩)
  simp[this]
 unfold Dr;rw[this]
theorem JV {bx v f ds}(hv:ValOk av w e pB bx v (.dc (.fn f ds))):ValOk av w e pB bx v (.fn f (RA ds)):=by
 have J:=hv.1.resolve_left aB;obtain⟨hg,hc⟩:=hv.2.1;obtain⟨g1,g2⟩:=hg;cases g1 with
 | fn k1 k2=>
   have O:∀ d∈ds,Good w (za av pB e bx) d:=λd hd=>⟨k2 d hd,λb hb=>g2 b (by simp only[D.foot];exact zJ.2 ⟨d,hd,hb⟩)⟩
   refine⟨.inr ?_,?_,?_⟩
   ·rw[J];show(D.fn f ds).cv=_;simp only[PV.val,PV.val1,PV.cv,D.cv,D.cvL_eq,PV.cvs_eq,RA,mO];congr 2;refine nF λd hd=>?_;cases d<;>rfl
   ·simp only[PV.Ok,PV.OkL_iff,RA];intro q U;obtain⟨d,hd,rfl⟩:=oT.1 U;have I:=O d hd;cases d with
    | pt ad z x=>
      obtain⟨j1,j2⟩:=id I;have Y:=j1.lt ad.block (by simp[D.foot]);cases j1 with
      | pt m1 m2 m3 m4=>exact⟨⟨m4,λb hb=>j2 b (by simp[D.foot,hb])⟩,m2,m1,m3,j2 _ (by simp[D.foot]),Y⟩
    | _=>exact⟨I,k1 _ hd⟩
   ·intro k hk;simp only[PV.refs,RA]at hk;obtain⟨q,U,aa⟩:=PV.refsL_mem.1 hk;obtain⟨d,hd,rfl⟩:=oT.1 U;cases d<;>simp[PV.refs]at aa
theorem RK {bx t v p R}(O:ValOk av w e pB bx v p)(h:X4 P t p R):∃ q,R q/\ValOk av w e pB bx v q:=by
 unfold X4 at h;split at h
 ·rename_i x;have I:=O;obtain⟨J,U,h3⟩:=O;have J:=J.resolve_left aB;simp only[PV.Ok]at U;split at h
  ·obtain⟨n,rfl,h⟩:=h;exact⟨_,h,.inr J,trivial,by simp[PV.refs]⟩
  ·obtain⟨n,rfl,h⟩:=h;exact⟨_,h,.inr J,trivial,by simp[PV.refs]⟩
  ·obtain⟨n,rfl,h⟩:=h;exact⟨_,h,.inr J,trivial,by simp[PV.refs]⟩
  ·split at h
   ·obtain⟨a,es,c,rfl,h⟩:=h;exact⟨_,h,.inr J,U.1,by simp[PV.refs]⟩
   ·exact⟨_,h,I⟩
  ·split at h
   ·rename_i ad z y hh;have hg:=U.1;obtain⟨g1,g2⟩:=id hg;have Y:=g1.lt ad.block (by simp[D.foot]);cases g1 with
    | pt k1 k2 k3 k4=>exact⟨_,h,.inr J,⟨⟨k4,λb hb=>g2 b (by simp[D.foot,hb])⟩,k2,k1,k3,g2 _ (by simp[D.foot]),Y⟩,by simp[PV.refs]⟩
   ·exact⟨_,h,I⟩
  ·split at h
   ·exact⟨_,h,JV I⟩
   ·exact⟨_,h,I⟩
  ·exact⟨_,h,I⟩
 ·exact⟨_,h,O⟩
theorem GG (h:Rel av w0 e0 pS pB a w e st){o R}(hx:∀ x∈o.op.operands,∀ t,x=.tmp t->t∉pS)(J:nev P (opd st.sl) (λk=>st.bx[k]?) o.op o.type R) :
  (∃ v p,(execOp a.eval o).run P w=.ok (.value v) w/\R (.v p)/\ValOk av w e pB st.bx v p) \/
  (∃ v c t B f,(execOp a.eval o).run P w=.ok (.value v) (w.alloc (.cells c t))/\R (.b B f)/\NewBox av w e pB st.bx v (w.alloc (.cells c t)) B f):=by
 have Y:∀ x∈o.op.operands,OpdOk av a w e pB st.bx x (opd st.sl x):=λx O=>vn h (hx x O);have hv:Cz P (opd st.sl) (λk=>st.bx[k]?) o.op o.type (λp=>X4 P o.type p λq=>R (.v q))->∃ v p,(execOp a.eval o).run P w=.ok (.value v) w/\R (.v p)/\ValOk av w e pB st.bx v p:=λJ=>by
  rw[<-Jl (ρ':=opd st.sl) (rb':=λk=>if k∈pB then none else st.bx[k]?) (λ_ _=>rfl) (λx O k U=>by simp[((Y x O).rf k U).1])]at J;obtain⟨v,p,h1,h2,h3⟩:=Jm h.toMem Y (λk B U=>by
   split at U
   ·cases U
   ·rename_i aa;exact⟨U,aa⟩) J
  obtain⟨q,h4,h5⟩:=RK h3 h2;exact⟨v,q,h1,h4,h5⟩
 have hA:P4 P (opd st.sl) o.op (λB f=>R (.b B f))->∃ v c t B f,(execOp a.eval o).run P w=.ok (.value v) (w.alloc (.cells c t))/\R (.b B f)/\NewBox av w e pB st.bx v (w.alloc (.cells c t)) B f:=λJ=>RU Y J;unfold nev at J;split at J
 ·rename_i t I;exact .inr (hA (by rw[I];exact J))
 ·rename_i t x I;exact .inr (hA (by rw[I];exact J))
 ·rename_i t n ps I;exact .inr (hA (by rw[I];exact J))
 ·rename_i t l c I;exact .inr (hA (by rw[I];exact J))
 ·rename_i t parts I;obtain⟨v,p,h1,h2,h3⟩:=Ka (λx O=>Y x (by rw[I];exact O)) J;refine .inl ⟨v,p,?_,h2,h3⟩;obtain⟨dst,op,ty,pos,after,guard⟩:=o;simp only at I;subst I;simp[execOp,h1]
 ·exact .inl (hv J)
def St.push (st:St)(dst:Option Nat):Res->St
 | .v p=>st.put dst p
 | .b B f=>St.put { st with bx:=st.bx++[B] } dst (f st.bx.length)
def Res.isB:Res->Bool
 | .v _=>false
 | .b ..=>true
theorem LH (h:Rel av w0 e0 pS pB a w e st){dst p}:Rel av w0 e0 (dst.toList++pS) pB a w e (st.put dst p):=by
 cases dst with
 | none=>simpa [St.put]using h
 | some d=>
   have J:∀(i:Nat) (q:PV),(st.sl.set d p)[i]?=some q->i≠d->st.sl[i]?=some q:=λi q hi hd=>by rw[nH (Ne.symm hd)]at hi;exact hi
   exact { h with
    nd:=h.nd
    sz:=by simp[St.put];exact h.sz
    hs:=λi q hi I=>by simp at I;exact h.hs i q (J i q hi I.1) I.2
    so:=λi q hi I=>by simp at I;exact h.so i q (J i q hi I.1) I.2
    sr:=λi q hi I=>by simp at I;exact h.sr i q (J i q hi I.1) I.2 }
theorem WA (h:Rel av w0 e0 pS pB a w e st) dst r :
  Rel av w0 e0 (dst.toList++pS) (if r.isB then st.bx.length::pB else pB) a w (if r.isB then e++[none]else e) (st.push dst r):=by
 cases r with
 | v p=>exact LH h
 | b B f=>exact LH (qD h)
theorem St.put_same {st:St}{dst p}(h:∀ d,dst=some d->d<st.sl.length->st.sl[d]?=some p):st.put dst p=st:=by
 cases dst with
 | none=>rfl
 | some d=>
   simp only[St.put];by_cases hd:d<st.sl.length
   ·have I:st.sl.set d p=st.sl:=by
     have J:=h d rfl hd;apply nL;intro i;rw[nU];split
     ·rename_i hi;subst hi;rw[J]
     ·rfl
    rw[I]
   ·rw[lF aA]
theorem V9 (h:Rel av w0 e0 pS pB a w e st){o r}{k:Nat}(hx:∀ x∈o.op.operands,∀ t,x=.tmp t->t∉pS)(hn:nev P (opd st.sl) (λk=>st.bx[k]?) o.op o.type (λq=>q=r))(hd:∀ d,o.dst=some d->d<st.sl.length->st.sl[d]?=some (match r with | .v p=>p | .b _ f=>f k))(hk:∀ B f,r=.b B f->st.bx[k]?=some B/\k∈pB)(hp:∀ i,i∈pS->some i≠o.dst->i∈pS') :
  ∃ v w' e',(execOp a.eval o).run P w=.ok (.value v) w'/\Rel av w0 e0 pS' (if r.isB then pB.filter (·≠k)else pB) (a.put o.dst v) w' e' st:=by
 rcases GG h hx hn with⟨v,p,U,Y,I⟩ | ⟨v,c,t,B,f,U,Y,I⟩
 ·subst Y;refine⟨v,w,e,U,?_⟩;have J:=wE h (dst:=o.dst) I hp;rw[St.put_same hd]at J;exact J
 ·subst Y;obtain⟨h5,h6⟩:=hk B f rfl;have h8:=Bi h h5 h6 I;have O:k<st.bx.length:=(oD.1 h5).1;have h9:ValOk av (w.alloc (.cells c t)) (e.set k (some w.heap.size)) (pB.filter (·≠k)) st.bx v (f k):=
   ⟨.inr (I.val k _ (Env.at_set_eq (by rw[h.el];exact O))),I.fok k _ _,by rw[I.fr];simp[O]⟩
  have J:=wE h8 (dst:=o.dst) h9 hp;rw[St.put_same hd]at J;exact⟨v,_,_,U,J⟩
def ZI (cs cs':aN):Prop:=cs'.length=cs.length/\∀(i:Nat) (p:PV),cs'[i]?=some p->p=.any\/cs[i]?=some p
def zAm (B B':Bx):Prop:=B'=.gone\/B'=B\/∃ cs cs',B=.var cs/\B'=.var cs'/\ZI cs cs'
structure St.Weak (st st':St):Prop where
 sl:∀(i:Nat) (p:PV),st'.sl[i]?=some p->p=.any\/st.sl[i]?=some p
 len:st'.sl.length<=st.sl.length
 bl:st'.bx.length=st.bx.length
 bx:∀(k:Nat) (B':Bx),st'.bx[k]?=some B'->∃ B,st.bx[k]?=some B/\zAm B B'
 N:st'.N<=st.N
 pin:st'.pin=st.pin
variable {av:Nat->Prop} {P:Program} {w0 w w':World} {e0 e:Env} {pS pS' pB:aI} {a:Act} {st st':St}
theorem PV.ok_any {w live}:PV.any.Ok w live:=trivial
theorem QR (h:Rel av w0 e0 pS pB a w e st)(O:st.Weak st'):Rel av w0 e0 pS pB a w e st':=by
 have aa:st'.pins=st.pins:=by unfold St.pins;rw[O.pin]
 have I:∀ k b,Lives pB e st'.bx k b->Lives pB e st.bx k b:=λk b ⟨h1,h2,B',h3,h4⟩=>by
  obtain⟨B,h5,h6⟩:=O.bx k B' h3;refine⟨h1,h2,B,h5,?_⟩;rcases h6 with rfl | rfl | ⟨cs,cs',rfl,_⟩
  ·exact absurd rfl h4
  ·exact h4
  ·simp
 have U:∀ b,za av pB e st'.bx b->za av pB e st.bx b:=λb hb=>hb.imp id λ⟨k,J⟩=>⟨k,I k b J⟩
 have Y:∀ p:PV,p.Ok w (za av pB e st.bx)->p.Ok w (za av pB e st'.bx):=λp hp=>PV.Ok.mono (λ_ _ _=>rfl) (oC _) (λb _=>U b) p hp;exact {
  el:=h.el.trans O.bl.symm
  br:=λk B' J hn=>by
   obtain⟨B,h5,h6⟩:=O.bx k B' J;have h7:=h.br k B h5 hn;rcases h6 with rfl | rfl | ⟨cs,cs',rfl,rfl,h8,h9⟩
   ·exact True.intro
   ·exact h7
   ·obtain⟨b,c,t,g1,g2,g3,g4⟩:=h7;refine⟨b,c,t,g1,g2,g3.trans h8.symm,λi p hp=>?_⟩;rcases h9 i p hp with h10 | h10
    ·exact .inl h10
    ·exact g4 i p h10
  bo := λk B' J hn=>by
   obtain⟨B,h5,h6⟩:=O.bx k B' J;have h7:=h.bo k B h5 hn;rcases h6 with rfl | rfl | ⟨cs,cs',rfl,rfl,h8,h9⟩
   ·exact True.intro
   ·exact h7.mono (λ_ _ _=>rfl) (oC _) (λb _=>U b)
   ·obtain⟨g1,g2⟩:=h7;rw[PV.OkL_iff]at g1;refine⟨PV.OkL_iff.2 λp hp=>?_,λp hp=>?_⟩
    ·obtain⟨i,hi⟩:=oS.1 hp;rcases h9 i p hi with rfl | h10
     ·exact PV.ok_any
     ·exact Y p (g1 p (oB h10))
    ·obtain⟨i,hi⟩:=oS.1 hp;rcases h9 i p hi with h10 | h10
     ·exact .inl h10
     ·exact g2 p (oB h10)
  bf:=λk B' J hn j hj=>by
   obtain⟨B,h5,h6⟩:=O.bx k B' J;have h7:=h.bf k B h5 hn;rw[O.bl];rcases h6 with rfl | rfl | ⟨cs,cs',rfl,rfl,h8,h9⟩
   ·simp[Bx.refs]at hj
   ·exact h7 j hj
   ·simp only[Bx.refs]at hj;obtain⟨p,hp,hj⟩:=PV.refsL_mem.1 hj;obtain⟨i,hi⟩:=oS.1 hp;rcases h9 i p hi with rfl | h10
    ·simp[PV.refs]at hj
    ·exact h7 j (by simp only[Bx.refs];exact PV.refsL_mem.2 ⟨p,oB h10,hj⟩)
  inj:=λk j b J hj=>h.inj k j b (I k b J) (I j b hj)
  ku:=h.ku
  size:=h.size
  old:=h.old
  fz:=h.fz
  nd:=h.nd
  sz:=oR O.len h.sz
  hN:=oR O.N h.hN
  hs:=λi p hi hn=>by
   rcases O.sl i p hi with h1 | h1
   ·exact .inl h1
   ·exact h.hs i p h1 hn
  so:=λi p hi hn=>by
   rcases O.sl i p hi with rfl | h1
   ·exact PV.ok_any
   ·exact Y p (h.so i p h1 hn)
  sr:=λi p hi hn k J=>by
   rw[O.bl];rcases O.sl i p hi with rfl | h1
   ·simp[PV.refs]at J
   ·exact h.sr i p h1 hn k J
  own:=λk b J=>by rw[aa];exact h.own k b (I k b J)
  avl:=h.avl
  avn:=λk b J=>h.avn k b (I k b J)
  pin:=λk b hb=>h.pin k b (aa ▸ hb)
  pit:=λL T hb=>h.pit L T (O.pin ▸ hb) }
theorem QP (h:Rel av w0 e0 pS pB a w e st) (I:w.heap.size<=w'.heap.size) (hold:∀ b,b<w.heap.size->w'.heap[b]?=w.heap[b]?)
  (O:∀(b:Nat) (c:Array Value) (t:aK) (z:Nat × Nat),w.heap.size<=b->w'.heap[b]?=some (.cells c t z)->Fz z) (Y:KU w w':=by exact⟨rfl,rfl⟩) :
  Rel av w0 e0 pS pB a w' e { st with N:=w'.heap.size }:=by
 exact {
  el:=h.el
  br:=λk B U J=>by
   by_cases hg:B=.gone
   ·subst hg;exact True.intro
   ·exact(h.br k B U J).congr (λb hb=>hold b (Lives.lt h.toMem ⟨J,hb,B,U,hg⟩)) λ_ _=>rfl
  bo:=λk B U J=>(h.bo k B U J).mono (λb hb _=>hold b hb) I λ_ _=>id
  bf:=h.bf
  inj:=h.inj
  ku:=h.ku.trans Y
  size:=oR h.size I
  old:=λb hb J=>(hold b (o7 hb h.size)).trans (h.old b hb J)
  fz:=λb c t z hb hc=>by
   by_cases aa:b<w.heap.size
   ·rw[hold b aa]at hc;exact h.fz b c t z hb hc
   ·exact O b c t z aA hc
  nd:=h.nd
  sz:=h.sz
  hN:=oC _
  hs:=h.hs
  so:=λi p hi hp=>PV.Ok.mono (λb hb _=>hold b hb) I (λ_ _=>id) p (h.so i p hi hp)
  sr:=h.sr
  own:=h.own
  avl:=h.avl
  avn:=h.avn
  pin:=h.pin
  pit:=h.pit }
theorem zAJ (h:Rel av w0 e0 pS pB a w e st){n}(I:n<=w.heap.size):Rel av w0 e0 pS pB a w e { st with N:=n }:={ h with hN:=I,nd:=h.nd }
theorem O7 (h:Rel av w0 e0 pS pB a w e st){k B B' x}(hk:st.bx[k]?=some B)(aq:k∉pB)(ai:B≠.gone)(ac:w.heap.size<=w'.heap.size)(hold:∀ b,b<w.heap.size->e.at k≠some b->w'.heap[b]?=w.heap[b]?)(hx:x=e.at k\/((∃ b,x=some b/\w.heap.size<=b)/\(∀(i:Nat) (p:PV),st.sl[i]?=some p->i∉pS->k∉p.refs)/\(∀(j:Nat) (C:Bx),st.bx[j]?=some C->j∉pB->j≠k->k∉C.refs)/\B'.isArr=true))(hA:B.isArr=true->B'.isArr=true)(au:x=e.at k\/∀ b,st.pins[k]?≠some (some b))(hB:B'.Rel w' (e.set k x) x)(a6:B'.Ok w (za av pB e st.bx))(a7:∀ j∈B'.refs,j∉pB/\j<st.bx.length)(al:∀(b:Nat) (c:Array Value) (t:aK) (z:Nat × Nat),(w.heap.size<=b\/e.at k=some b)->w'.heap[b]?=some (.cells c t z)->Fz z)(a8:KU w w':=by exact⟨rfl,rfl⟩) :
  Rel av w0 e0 pS pB a w' (e.set k x) { st with bx:=st.bx.set k B' }:=by
 have ao:k<st.bx.length:=(oD.1 hk).1;have ba:k<e.length:=by rw[h.el];exact ao
 have aj:∀ j,j≠k->Env.at (e.set k x) j=e.at j:=λj I=>Env.at_set_ne I;have ab:Env.at (e.set k x) k=x:=Env.at_set_eq ba;have ak:∀ b,e.at k=some b->za av pB e st.bx b:=λb hb=>.inr ⟨k,aq,hb,B,hk,ai⟩;have O:∀ j b,Lives pB (e.set k x) (st.bx.set k B') j b->Lives pB e st.bx j b\/(j=k/\x=some b/\w.heap.size<=b):=λj b ⟨h1,U,C,h3,h4⟩=>by
  by_cases I:j=k
  ·subst I;rw[ab]at U;rcases hx with hx | ⟨⟨b',aw,ax⟩,_⟩
   ·exact .inl ⟨h1,hx ▸ U,B,hk,ai⟩
   ·rw[U]at aw;cases aw;exact .inr ⟨rfl,U,ax⟩
  ·rw[aj j I]at U;rw[nH (Ne.symm I)]at h3;exact .inl ⟨h1,U,C,h3,h4⟩
 have Y:∀ b,b<w.heap.size->za av pB (e.set k x) (st.bx.set k B') b->za av pB e st.bx b:=λb hb hl=>hl.elim .inl λ⟨j,I⟩=>by
  rcases O j b I with h1 | ⟨_,_,h1⟩
  ·exact .inr ⟨j,h1⟩
  ·omega
 have aa:∀ b,b<w.heap.size->¬za av pB e st.bx b->w'.heap[b]?=w.heap[b]?:=λb hb hn=>hold b hb λhc=>hn (ak b hc);have ae:∀(j:Nat) (C:Bx),(st.bx.set k B')[j]?=some C->(j=k/\C=B')\/(j≠k/\st.bx[j]?=some C):=λj C I=>by
  by_cases J:j=k
  ·subst J;rw[nD ao]at I;exact .inl ⟨rfl,(oZ I).symm⟩
  ·rw[nH (Ne.symm J)]at I;exact .inr ⟨J,I⟩
 have ah:∀ j,(j≠k\/x=e.at k)->Env.at (e.set k x) j=e.at j:=λj I=>by
  by_cases J:j=k
  ·subst J;rw[ab];exact I.resolve_left aB
  ·exact aj j J
 have ay:∀(j:Nat) (C:Bx),st.bx[j]?=some C->j∉pB->j≠k->∀ b,e.at j=some b->C≠.gone->w'.heap[b]?=w.heap[b]?:=λj C I hn J b hb hg=>by
  have hl:Lives pB e st.bx j b:=⟨hn,hb,C,I,hg⟩
  exact hold b (Lives.lt h.toMem hl) λhc=>J (h.inj j k b hl ⟨aq,hc,B,hk,ai⟩)
 exact {
  el:=by simp[h.el]
  br:=λj C I hn=>by
   rcases ae j C I with⟨rfl,rfl⟩ | ⟨J,I⟩
   ·rw[ab];exact hB
   ·rw[aj j J];by_cases hg:C=.gone
    ·subst hg;exact True.intro
    refine(h.br j C I hn).congr (λb hb=>ay j C I hn J b hb hg) λi hi=>ah i ?_;rcases hx with hx | ⟨_,_,U,_⟩
    ·exact .inr hx
    ·exact .inl λhc=>U j C I hn J (hc ▸ hi)
  bo:=λj C I hn=>by
   rcases ae j C I with⟨rfl,rfl⟩ | ⟨J,I⟩
   ·exact a6.mono aa ac Y
   ·exact(h.bo j C I hn).mono aa ac Y
  bf:=λj C I hn i hi=>by
   simp only[nf];rcases ae j C I with⟨rfl,rfl⟩ | ⟨J,I⟩
   ·exact a7 i hi
   ·exact h.bf j C I hn i hi
  inj:=λi j b hi I=>by
   rcases O i b hi with h1 | ⟨rfl,_,h1⟩
   ·rcases O j b I with U | ⟨rfl,_,U⟩
    ·exact h.inj i j b h1 U
    ·have:=Lives.lt h.toMem h1;omega
   ·rcases O j b I with U | ⟨rfl,_,U⟩
    ·have:=Lives.lt h.toMem U;omega
    ·rfl
  ku:=h.ku.trans a8
  size:=oR h.size ac
  old:=λb hb hn=>by
   refine(hold b (o7 hb h.size) λhc=>?_).trans (h.old b hb hn);rcases h.own k b ⟨aq,hc,B,hk,ai⟩with h1 | h1
   ·omega
   ·exact hn h1.1
  fz:=λb c t z hb hc=>by
   by_cases bb:b<w.heap.size
   ·by_cases az:e.at k=some b
    ·exact al b c t z (.inr az) hc
    ·rw[hold b bb az]at hc;exact h.fz b c t z hb hc
   ·exact al b c t z (.inl aA) hc
  nd:=h.nd
  sz:=h.sz
  hN:=oR h.hN ac
  hs:=λi p hi hp=>by
   rcases h.hs i p hi hp with h1 | h1
   ·exact .inl h1
   ·refine .inr (h1.trans (PV.val_congr p λj I=>ah j ?_).symm);rcases hx with hx | ⟨_,U,_⟩
    ·exact .inr hx
    ·exact .inl λhc=>U i p hi hp (hc ▸ I)
  so:=λi p hi hp=>PV.Ok.mono aa ac Y p (h.so i p hi hp)
  sr:=λi p hi hp j I=>by simp only[nf];exact h.sr i p hi hp j I
  own:=λj b I=>by
   rcases O j b I with h1 | ⟨_,_,h1⟩
   ·exact h.own j b h1
   ·exact .inl (oR h.size h1)
  avl:=h.avl
  avn:=λj b I=>by
   rcases O j b I with h1 | ⟨_,_,h1⟩
   ·exact h.avn j b h1
   ·intro hc;have U:=h.avl.lt b hc;have h3:=h.size;omega
  pin:=λj b hb=>by
   have:=h.pin j b hb
   by_cases J:j=k
   ·subst J;rw[ab];rcases au with h1 | h1
    ·rw[h1];exact this
    ·exact absurd hb (h1 b)
   ·rw[aj j J];exact this
  pit:=h.pit }
def dcs (x:D)(n:Nat):aN:=(List.range n).map λj=>.dc (x.cell j)
def stV (z o:Nat)(cs:aN)(p:PV)(K:Bx->Prop):Prop:=
 match AB p with
 | some ps=>if ps.length=ez z/\o+ps.length<=cs.length then K (.var (qH o ps cs))else False
 | none=>False
def Tk (o:Nat)(ds cs:aM):aM:=cs.take o++ds++cs.drop (o+ds.length)
def Rl (z zz:Nat) (B:Bx) (i o:Nat) (p:PV) (K:Bx->Prop):Prop:=
 match B with
 | .var cs=>match i with
   | 0=>match p with
     | .dg n x=>if o=0/\n=cs.length/\z=n/\n≠0 then K (.vd x n)else stV z o cs p K
     | _=>stV z o cs p K
   | _+1=>False
 | .vd x n=>match i with
   | 0=>match p with
     | .dg m y=>if o=0/\m=n/\z=n/\n≠0 then K (.vd y n)else stV z o (dcs x n) p K
     | _=>stV z o (dcs x n) p K
   | _+1=>False
 | .arr t z' es c=>if zz=z' then i<es.length /\
  (if z=z'/\o=0 then(match Ob z p with
    | some d=>K (.arr t z' (es.set i d) c)
    | none=>False)
   else if z'=0 then False
   else match(AB p).bind LO with
    | some ds=>if ds.length=ez z/\o+ds.length<=z' then K (.arr t z' (es.set i (.ag (Tk o ds (es.getD i default).cells))) c)else False
    | none=>False)else False
 | .gone=>False
def stF (P:Program)(ρ:Operand->PV)(rb:Nat->Option Bx)(t:aK)(x y:Operand)(K:Nat->Bx->Prop):Prop:=
 match kz P t,ρ x with
 | some z,.pb k zz i o=>match rb k with
   | some B=>Rl z zz B i o (retag P t (ρ y)) (K k)
   | none=>False
 | _,_=>False
variable {av:Nat->Prop} {P:Program} {w0 w w':World} {e0 e:Env} {pS pS' pB:aI} {a:Act} {st st':St}
theorem Hk {t z}(O:kz P t=some z){b off c I}(hb:w.heap[b]?=some (.cells c I (0,0))){v}(hl:v.cells.toList.length=ez z)(U:off+ez z<=c.size)(Y:∀ u∈v.cells.toList,u.oneCell'=true) :
  (Instr.storeAt t (.pointer (some ⟨b,off,none⟩)) v).run P w=.ok () (w.setRow b (c.toList.take off++v.cells.toList++c.toList.drop (off+ez z)).toArray):=by
 have J:=run_storeCells_at (P:=P) b off I v.cells.toList 0 c w hb (by rw[hl];omega) Y;rw[mY,hl]at J;have hs:v.cells.size=ez z:=by simpa using hl
 simp[Instr.storeAt,Instr.sureAddr,storeVar,vg O,hs,J]
theorem AV {e:Env}{k}(h:k<e.length):e.set k (e.at k)=e:=by
 apply nL;intro i;rw[nU];split
 ·rename_i hi;subst hi;simp[h,Env.at]
 ·rfl
theorem C4 (h:Rel av w0 e0 pS pB a w e st){k b B B' c I tb}(hk:st.bx[k]?=some B)(U:k∉pB)(Y:B≠.gone)(J:e.at k=some b)(hb:w.heap[b]?=some (.cells c tb (0,0)))(hA:B.isArr=true->B'.isArr=true)(hB:B'.Rel (w.setRow b I) e (e.at k))(aa:B'.Ok w (za av pB e st.bx))(ab:∀ j∈B'.refs,j∉pB/\j<st.bx.length) :
  Rel av w0 e0 pS pB a (w.setRow b I) e { st with bx:=st.bx.set k B' }:=by
 have O:k<e.length:=by rw[h.el];exact(oD.1 hk).1
 have hs:(w.setRow b I).heap.size=w.heap.size:=by simp[World.setRow]
 have:=O7 h (w':=w.setRow b I) (x:=e.at k) hk U Y (by rw[hs];exact oC _) (λj hj hn=>setRow_other w b j I (λhc=>hn (by rw[J,hc]))) (.inl rfl) hA (.inl rfl) (by rw[AV O];exact hB) aa ab λj c2 t2 z hj hc=>by
  rcases hj with hj | hj
  ·have:=(oW.1 hc).1;omega
  ·rw[J]at hj;cases hj;rw[setRow_heap w b c I tb _ hb]at hc;cases hc;exact fz0
 rwa[AV O]at this
theorem Xq {x n}(O:IsAg n x){c:Array Value}(hc:c.size=n)(h:∀(i:Nat)(u:D),x.cells[i]?=some u->c[i]?=some u.cv):CellsAre e c.toList (dcs x n):=by
 refine⟨by simp[dcs,hc],λi q I=>.inr ?_⟩;simp only[dcs,oF]at I;cases J:(List.range n)[i]? with
 | none=>simp[J]at I
 | some j=>
   rw[J]at I;simp at I;subst I;have hi:i<n:=by have:=(oD.1 J).1;simpa using this
   have U:j=i:=by have:=(oD.1 J).2;simpa using this.symm
   subst U
   have:=h j _ (O.cell hi).2
   simpa [PV.cv]using this
theorem Zm {x n}(I:IsAg n x){live}(J:Good w live x):∀ p∈dcs x n,p.Ok w live/\p.isC/\p.refs=[]:=by intro p O;obtain⟨j,U,rfl⟩:=oT.1 O;exact⟨⟨J.cell j,(I.cell (by simpa using U)).1⟩,trivial,rfl⟩
theorem NL (h:Rel av w0 e0 pS pB a w e st){t z o k b B cs v p K c tb}(hz:kz P t=some z)(hk:st.bx[k]?=some B)(aa:k∉pB)(ab:B≠.gone)(ac:B.isArr=false)(Y:e.at k=some b)(hb:w.heap[b]?=some (.cells c tb (0,0)))(J:CellsAre e c.toList cs)(I:De av w e pB st.bx cs)(hv:ValOk av w e pB st.bx v p)(hs:stV z o cs p K) :
  ∃ w' B',(Instr.storeAt t (.pointer (some ⟨b,o,none⟩)) v).run P w=.ok () w'/\K B'/\Rel av w0 e0 pS pB a w' e { st with bx:=st.bx.set k B' }:=by
 unfold stV at hs;split at hs
 ·rename_i ps ae;split at hs
  ·rename_i hc;obtain⟨a1,a2,a3⟩:=w9 ae hv;have O:∀ q∈qH o ps cs,q∈cs.take o\/q∈ps\/q∈cs.drop (o+ps.length):=λq hq=>by simpa [qH]using hq
   have hl:v.cells.toList.length=ez z:=by rw[a1.1];exact hc.1
   have ah:c.size=cs.length:=by have:=J.1;simpa using this
   refine⟨_,_,Hk hz hb hl (by rw[ah,<-hc.1];exact hc.2) a3,hs,C4 h hk aa ab Y hb (by simp[ac]) ?_ ?_ ?_⟩
   ·rw[Y];refine⟨b,_,tb,rfl,setRow_heap w b c _ tb _ hb,?_,?_⟩
    ·have:=((J.take o).append a1).append (J.drop (o+ez z))
     rw[<-hc.1]at this ⊢;simpa [qH]using this.1
    ·have:=((J.take o).append a1).append (J.drop (o+ez z))
     intro i q hq;rw[<-hc.1]at this;rcases this.2 i q (by simpa [qH]using hq)with h1 | h1
     ·exact .inl h1
     ·right;rw[<-hc.1];simpa using h1
   ·refine⟨PV.OkL_iff.2 λq hq=>?_,λq hq=>?_⟩
    ·rcases O q hq with hq | hq | hq
     ·exact(I q (ou hq)).1
     ·exact(a2 q hq).1
     ·exact(I q (nG hq)).1
    ·rcases O q hq with hq | hq | hq
     ·exact(I q (ou hq)).2.1
     ·exact .inr (a2 q hq).2.1
     ·exact(I q (nG hq)).2.1
   ·intro j U;simp only[Bx.refs]at U;obtain⟨q,hq,U⟩:=PV.refsL_mem.1 U;rcases O q hq with hq | hq | hq
    ·exact(I q (ou hq)).2.2 j U
    ·exact(a2 q hq).2.2 j U
    ·exact(I q (nG hq)).2.2 j U
  ·exact hs.elim
 ·exact hs.elim
theorem V4 {o ds cs vs}{c:aJ}(O:ds.map D.cv=vs)(Y:o+ds.length<=cs.length)(h:∀(i:Nat) (u:D),cs[i]?=some u->c[i]?=some u.cv)(i:Nat) u(I:(Tk o ds cs)[i]?=some u):(c.take o++vs++c.drop (o+vs.length))[i]?=some u.cv:=by
 have aa:cs.length<=c.length:=by
  by_cases h0:cs.length=0
  ·omega
  ·have:=h (cs.length - 1) _ (oH aA)
   have:=(oD.1 this).1;omega
 have U:vs.length=ds.length:=by rw[<-O];simp
 unfold Tk at I;rw[oP,m7]at I ⊢;simp only[nO]at I ⊢;rw[show min o cs.length=o by omega]at I;rw[show min o c.length=o by omega];split at I
 ·rename_i hi;rw[if_pos hi];rw[om]at I ⊢;rw[if_pos hi]at I ⊢;exact h i u I
 ·rename_i hi;rw[if_neg hi];rw[m7]at I ⊢;rw[U];split at I
  ·rename_i J;rw[if_pos J,<-O,oF,I];rfl
  ·rename_i J;rw[if_neg J];rw[nT]at I ⊢;exact h _ u I
theorem Jc {z es}(h:∀ e∈es,eOk z e){i}(hi:i<es.length) d :
  yM (es.set i d)=(yM es).take (i*ez z)++d.cells++(yM es).drop ((i+1)*ez z):=by
 induction es generalizing i with
 | nil=>simp at hi
 | cons x es J=>
   have I:=xS (h x aB);cases i with
   | zero=>simp only[mf,uZ,lB,lA,oa,nI,mu];rw[<-I,List.drop_left]
   | succ i=>
     simp only[oJ]at hi;simp only[mw,uZ];rw[J (λy O=>h y (by simp[O])) aA];have e1:(i+1)*ez z=x.cells.length+i*ez z:=by rw[I,nJ];omega
     have U:(i+1+1)*ez z=x.cells.length+(i+1)*ez z:=by rw[I,nJ (i+1)];omega
     rw[U,List.drop_length_add_append];rw[e1,List.take_length_add_append];simp only[oP,<-e1]
theorem RE {z es}(h:∀ e∈es,eOk z e){i o}(hi:i<es.length){ds vs}{c:aJ}(U:ds.map D.cv=vs)(ah:o+ds.length<=ez z)(hc:∀(j:Nat) (u:D),(yM es)[j]?=some u->c[j]?=some u.cv){d}(hd:d.cells=Tk o ds (es.getD i default).cells)(j:Nat) u(hu:(yM (es.set i d))[j]?=some u) :
  (c.take (i*ez z+o)++vs++c.drop (i*ez z+o+vs.length))[j]?=some u.cv:=by
 have Y:=zU h;have I:es[i]?=some (es.getD i default):=by simp[oA,oH hi]
 have aa:eOk z (es.getD i default):=h _ (oB I);have ai:=xS aa;have ac:(i+1)*ez z<=es.length*ez z:=ol _ hi;have ae:(i+1)*ez z=i*ez z+ez z:=by rw[nJ];omega
 have ab:yM es=(yM es).take (i*ez z)++(es.getD i default).cells++(yM es).drop ((i+1)*ez z):=by
  have h1:=Jc h hi (es.getD i default);rwa[show es.set i (es.getD i default)=es from by
   apply nL;intro j;rw[nU];split
   ·rename_i hj;subst hj;simp[hi,I]
   ·rfl]at h1
 have J:yM (es.set i d)=Tk (i*ez z+o) ds (yM es):=by
  rw[Jc h hi d,hd];unfold Tk;have O:((yM es).take (i*ez z)).length=i*ez z:=aF
  conv=>rhs;rw[ab]
  have t1:((yM es).take (i*ez z)++(es.getD i default).cells++(yM es).drop ((i+1)*ez z)).take (i*ez z+o)=(yM es).take (i*ez z)++(es.getD i default).cells.take o:=by rw[oP,List.take_append,O,List.take_append];rw[o3 aA];rw[show i*ez z+o - i*ez z=o by omega,show o - (es.getD i default).cells.length=0 by omega];simp
  have t2:((yM es).take (i*ez z)++(es.getD i default).cells++(yM es).drop ((i+1)*ez z)).drop (i*ez z+o+ds.length)=(es.getD i default).cells.drop (o+ds.length)++(yM es).drop ((i+1)*ez z):=by rw[oP,List.drop_append,O,List.drop_append];rw[List.drop_of_length_le aA];rw[show i*ez z+o+ds.length - i*ez z=o+ds.length by omega,show o+ds.length - (es.getD i default).cells.length=0 by omega];simp
  rw[t1,t2];simp
 rw[J]at hu;exact V4 U (by rw[Y];omega) hc j u hu
theorem VM {z o x ds}(O:z≠0)(U:eOk z x)(I:∀ d∈ds,d.isCell)(Y:o+ds.length<=z):eOk z (.ag (Tk o ds x.cells)):=by
 have hl:=xS U;have hc:=D7 U;have aa:ez z=z:=by simp[ez,O]
 simp only[eOk,O,ni];refine⟨_,rfl,?_,λc J=>?_⟩
 ·simp[Tk];omega
 ·rcases oM.1 J with h1 | h1
  ·rcases oM.1 h1 with h1 | h1
   ·exact hc c (ou h1)
   ·exact I c h1
  ·exact hc c (nG h1)
theorem QO (h:Rel av w0 e0 pS pB a w e st){t tb z z' k b i o n es v c}(hz:kz P t=some z)(hk:st.bx[k]?=some (.arr tb z' es n))(O:k∉pB)(U:e.at k=some b)(hb:w.heap[b]?=some (.cells c tb (0,0)))(ak:n*ez z'<=c.size)(hn:es.length<=n)(hm:n<=maxLen)(he:∀ x∈es,eOk z' x)(hf:∀(i:Nat) (u:D),(yM es)[i]?=some u->c[i]?=some u.cv)(hi:i<es.length){ds}(Y:ds.map D.cv=v.cells.toList)(h1:∀ u∈v.cells.toList,u.oneCell'=true)(aa:ds.length=ez z)(ab:o+ds.length<=ez z'){d}(hd:d.cells=Tk o ds (es.getD i default).cells)(ac:eOk z' d)(ae:Good w (za av pB e st.bx) d) :
  ∃ w',(Instr.storeAt t (.pointer (some ⟨b,i*ez z'+o,none⟩)) v).run P w=.ok () w'/\Rel av w0 e0 pS pB a w' e { st with bx:=st.bx.set k (.arr tb z' (es.set i d) n) }:=by
 have I:v.cells.toList.length=ez z:=by rw[<-Y];simpa using aa
 have ai:(i+1)*ez z'<=n*ez z':=ol _ aA;have aj:(i+1)*ez z'=i*ez z'+ez z':=by rw[nJ];omega
 have ah:=h.bo k _ hk O;refine⟨_,Hk hz hb I aA h1,C4 h hk O aB U hb (λ_=>rfl) ?_ ?_ (by simp[Bx.refs])⟩
 ·rw[U];refine .inr ⟨b,_,rfl,setRow_heap w b c _ tb _ hb,?_,by simpa using hn,hm,?_,?_⟩
  ·simp only[ny,oG,nO,ma,nY,I];omega
  ·intro x J;rcases nQ J with J | rfl
   ·exact he x J
   ·exact ac
  ·intro j u hu
   have:=RE he hi Y ab (c:=c.toList) (λj u hu=>by simpa using hf j u hu) hd j u hu
   rw[I]at this;simpa using this
 ·intro x J;rcases nQ J with J | rfl
  ·exact ah x J
  ·exact ae
theorem Hj (h : Rel av w0 e0 pS pB a w e st){t z zz k i o B v p K}(hz:kz P t=some z)(hk:st.bx[k]?=some B)(J:k∉pB)(hv:ValOk av w e pB st.bx v p)(hs:Rl z zz B i o p K) :
  ∃ w' B',(Instr.storeAt t (.pointer (some ⟨(e.at k).getD 0,i*ez zz+o,none⟩)) v).run P w=.ok () w'/\K B'/\Rel av w0 e0 pS pB a w' e { st with bx:=st.bx.set k B' }:=by
 have hr:=h.br k B hk J;have ab:=h.bo k B hk J;have al:=h.bf k B hk J;have whole:∀(n:Nat) (x:D) (b:Nat) (c:Array Value) (tb:aK),B≠.gone->B.isArr=false->e.at k=some b->w.heap[b]?=some (.cells c tb (0,0))->c.size=n->p=.dg n x->o=0->i=0->z=n->n≠0->K (.vd x n) ->
   ∃ w' B',(Instr.storeAt t (.pointer (some ⟨(e.at k).getD 0,i*ez zz+o,none⟩)) v).run P w=.ok () w'/\K B'/\Rel av w0 e0 pS pB a w' e { st with bx:=st.bx.set k B' }:=by
  intro n x b c tb a7 a8 ac hb bz hp ho hi ba bb hK;subst hp;subst ho;subst hi;subst ba;have ae:=hv.1.resolve_left aB;obtain⟨hg,ha⟩:=hv.2.1;have I:v.cells.toList=x.cells.map D.cv:=by rw[ae];simp only[PV.val,PV.val1,ha.val,Value.cells]
  have bc:ez z=z:=by simp[ez,bb]
  have ao:v.cells.toList.length=ez z:=by rw[I,bc];simpa using ha.length
  have O:∀ u∈v.cells.toList,u.oneCell'=true:=by rw[I];intro u hu;obtain⟨y,hy,rfl⟩:=oT.1 hu;obtain⟨cs,rfl,_,hc⟩:=ha;exact xz (hc y hy)
  refine⟨_,_,by rw[ac];simp only[nA,lB,mY];exact Hk hz hb ao aA O,hK,C4 h hk J a7 ac hb (by simp[a8]) ?_ hg (by simp[Bx.refs])⟩;rw[ac];refine⟨b,_,tb,rfl,setRow_heap w b c _ tb _ hb,?_,ha,?_⟩
  ·simp only[ny,oG,nO,ma,nY,ao];omega
  ·intro j u hu;have bg:j<x.cells.length:=(oD.1 hu).1;simp only[lA,oa,lQ];rw[oQ (by rw[I];simpa using bg),I,oF,hu];rfl
 cases B with
 | gone=>exact hs.elim
 | var cs=>
   obtain⟨b,c,tb,O,h2,h3,h4⟩:=hr;obtain⟨aq,bh⟩:=ab;rw[PV.OkL_iff]at aq;simp only[Bx.refs]at al;have ah:CellsAre e c.toList cs:=⟨by simpa using h3,λi p hp=>by simpa [Wc]using h4 i p hp⟩
   have ai:De av w e pB st.bx cs:=λq hq=>⟨aq q hq,bh q hq,λj hj=>al j (PV.refsL_mem.2 ⟨q,hq,hj⟩)⟩
   have go:i=0->stV z o cs p K->∃ w' B',(Instr.storeAt t (.pointer (some ⟨(e.at k).getD 0,i*ez zz+o,none⟩)) v).run P w=.ok () w'/\K B'/\Rel av w0 e0 pS pB a w' e { st with bx:=st.bx.set k B' }:=λhi aj=>by
    subst hi
    have:=NL h hz hk J aB rfl O h2 ah ai hv aj
    simpa [O]using this
   simp only[Rl]at hs;split at hs
   ·split at hs
    ·split at hs
     ·rename_i n x hc;exact whole n x b c tb aB rfl O h2 aA rfl hc.1 rfl hc.2.2.1 hc.2.2.2 hs
     ·exact go rfl hs
    ·exact go rfl hs
   ·exact hs.elim
 | vd x n=>
   obtain⟨b,c,tb,O,h2,h3,h4,h5⟩:=hr;have ah:CellsAre e c.toList (dcs x n):=Xq h4 h3 h5;have ai:De av w e pB st.bx (dcs x n):=λq hq=>by obtain⟨a1,a2,a3⟩:=Zm h4 ab q hq;exact⟨a1,.inr a2,by rw[a3];simp⟩
   have go:i=0->stV z o (dcs x n) p K->∃ w' B',(Instr.storeAt t (.pointer (some ⟨(e.at k).getD 0,i*ez zz+o,none⟩)) v).run P w=.ok () w'/\K B'/\Rel av w0 e0 pS pB a w' e { st with bx:=st.bx.set k B' }:=λhi aj=>by
    subst hi
    have:=NL h hz hk J aB rfl O h2 ah ai hv aj
    simpa [O]using this
   simp only[Rl]at hs;split at hs
   ·split at hs
    ·split at hs
     ·rename_i m y hc;obtain⟨bi,bj,bm,bp⟩:=hc;subst bj;exact whole _ y b c tb aB rfl O h2 h3 rfl bi rfl bm bp hs
     ·exact go rfl hs
    ·exact go rfl hs
   ·exact hs.elim
 | arr tb z' es n=>
   simp only[Rl]at hs;split at hs
   ·rename_i bq;subst bq;obtain⟨hi,hs⟩:=hs;rcases hr with⟨_,h2,_⟩ | ⟨b,c,O,h2,h3,h4,h5,h6,h7⟩
    ·subst h2;simp at hi
    have au:es[i]?=some (es.getD i default):=by simp[oA,oH hi]
    have aw:eOk zz (es.getD i default):=h6 _ (oB au);have ax:Good w (za av pB e st.bx) (es.getD i default):=ab _ (oB au);have b3:=xS aw;rw[O];simp only[nA];split at hs
    ·rename_i hc;obtain⟨rfl,rfl⟩:=hc;split at hs
     ·rename_i d hd;obtain⟨g1,g2,g3⟩:=EA (e:=e) hd hv.2.1;have ay:p≠.any:=λhp=>by subst hp;simp[Ob,Aq]at hd
      have ae:=hv.1.resolve_left ay;have I:v.cells.toList=d.cells.map D.cv:=by
       rw[ae,<-g3];cases d with
       | lit x=>
         simp only[D.val,D.cells,o9,lC,D.cv];by_cases U:z=0
         ·simp[eOk,U,D.isCell]at g2;cases x<;>simp[Value.cells,Value.oneCell']at g2 ⊢
         ·simp[eOk,U,IsAg]at g2
       | ag cs=>simp[D.val,D.cells,Value.cells]
       | sl aa bt bv cap=>simp[D.val,D.cells,Value.cells,D.cv]
       | pt b7 bt x'=>simp[D.val,D.cells,Value.cells,D.cv]
       | fn f' bw=>simp[D.val,D.cells,Value.cells,D.cv]
       | mp b' bv c'=>simp[D.val,D.cells,Value.cells,D.cv]
      have az:d.cells.length=ez z:=xS g2;obtain⟨w',r1,r2⟩:=QO h hz hk J O h2 h3 h4 h5 h6 h7 hi (ds:=d.cells) (o:=0) I.symm (by rw[I];intro u hu;obtain⟨y,hy,rfl⟩:=oT.1 hu;exact xz (D7 g2 y hy)) az aA (d:=d) (by rw[Tk,nI,az,List.drop_of_length_le aA];simp) g2 g1;exact⟨w',_,r1,hs,r2⟩
     ·exact hs.elim
    ·split at hs
     ·exact hs.elim
     ·rename_i U;split at hs
      ·rename_i ds Y;split at hs
       ·rename_i hc;cases ak:AB p with
        | none=>rw[ak]at Y;cases Y
        | some ps=>
          rw [ak]at Y;simp only[oO]at Y;obtain⟨a1,a2,a3⟩:=w9 ak hv;obtain⟨b1,b2⟩:=rg (e:=e) Y (PV.OkL_iff.2 λq hq=>(a2 q hq).1);have I:ds.map D.cv=v.cells.toList:=by
           rw[b2,PV.cvs_eq];apply nL;intro j;rw[oF];cases hj:ps[j]? with
           | none=>have:v.cells.toList[j]?=none:=oc (by rw[a1.1];exact mK.1 hj);rw[this];rfl
           | some q=>
             have:=(a1.2 j q hj).resolve_left (λhq=>by
              have:=(a2 q (oB hj)).2.1
              rw[hq]at this;exact this)
             rw[this];rfl
          have a6:ez zz=zz:=by simp[ez,U]
          obtain⟨w',r1,r2⟩:=QO h hz hk J O h2 h3 h4 h5 h6 h7 hi (ds:=ds) (o:=o) I a3 hc.1 (by rw[a6];exact hc.2) (d:=.ag (Tk o ds (es.getD i default).cells)) rfl
           (VM U aw (λd hd=>(b1 d hd).2) hc.2) (Good.ag λd hd=>by
            rcases oM.1 hd with hd | hd
            ·rcases oM.1 hd with hd | hd
             ·exact ax.cells d (ou hd)
             ·exact(b1 d hd).1
            ·exact ax.cells d (nG hd))
          exact⟨w',_,r1,hs,r2⟩
       ·exact hs.elim
      ·exact hs.elim
   ·exact hs.elim
theorem UK (h:Rel av w0 e0 pS pB a w e st){t x y K}(O:∀ i,x=.tmp i->i∉pS)(U:∀ i,y=.tmp i->i∉pS)(hs:stF P (opd st.sl) (λk=>st.bx[k]?) t x y K) :
  ∃ w' k B',(Instr.storeAt t (a.eval x) (a.eval y)).run P w=.ok () w'/\K k B'/\Rel av w0 e0 pS pB a w' e { st with bx:=st.bx.set k B' }:=by
 have ox:=vn h O;have Y:=(vn h U).valOk.retag (P:=P) t;unfold stF at hs;split at hs
 ·rename_i z k zz i o hz hp;rw[hp]at ox;have I:=ox.h.resolve_left aB;have J:=ox.rf k (by simp[PV.refs]);split at hs
  ·rename_i B hB;rw[I];obtain⟨w',B',r1,r2,r3⟩:=Hj h hz hB J.1 Y hs;exact⟨w',k,B',r1,r2,r3⟩
  ·exact hs.elim
 ·exact hs.elim
def PV.kill (k:Nat)(p:PV):PV:=if p.refs.contains k then .any else p
def Bx.kill (k:Nat):Bx->Bx
 | .var cs=>.var (cs.map (PV.kill k))
 | B=>B
def St.kill (k:Nat)(st:St):St:={ st with sl:=st.sl.map (PV.kill k),bx:=st.bx.map (Bx.kill k) }
theorem PV.kill_cases k(p:PV):p.kill k=.any\/(p.kill k=p/\k∉p.refs):=by
 unfold PV.kill;split
 ·exact .inl rfl
 ·rename_i h;exact .inr ⟨rfl,by simpa using h⟩
theorem AR (k:Nat) (st:St):st.Weak (st.kill k) where
 sl := λi p hi=>by
  simp only[St.kill,oF]at hi;cases h:st.sl[i]? with
  | none=>simp[h]at hi
  | some q=>
    simp[h]at hi;rcases PV.kill_cases k q with h1 | h1
    ·exact .inl (by rw[<-hi,h1])
    ·exact .inr (by rw[<-hi,h1.1])
 len:=by simp[St.kill]
 bl:=by simp[St.kill]
 bx := λj B' I=>by
  simp only[St.kill,oF]at I;cases h:st.bx[j]? with
  | none=>simp[h]at I
  | some B=>
    simp[h]at I;refine⟨B,rfl,?_⟩;cases B with
    | var cs=>
      refine .inr (.inr ⟨cs,_,rfl,I.symm,aB,λi p hi=>?_⟩);simp only[oF]at hi;cases J:cs[i]? with
      | none=>simp[J]at hi
      | some q=>
        simp[J]at hi;rcases PV.kill_cases k q with h1 | h1
        ·exact .inl (by rw[<-hi,h1])
        ·exact .inr (by rw[<-hi,h1.1])
    | _=>exact .inr (.inl I.symm)
 N:=oC _
 pin:=rfl
theorem HF {k}{st:St}:(∀(i:Nat)(p:PV),(st.kill k).sl[i]?=some p->k∉p.refs)/\∀(j:Nat)(B:Bx),(st.kill k).bx[j]?=some B->k∉B.refs:=by
 constructor
 ·intro i p hi;simp only[St.kill,oF]at hi;cases h:st.sl[i]? with
  | none=>simp[h]at hi
  | some q=>
    simp[h]at hi;subst hi;rcases PV.kill_cases k q with h1 | h1
    ·rw[h1];simp[PV.refs]
    ·rw[h1.1];exact h1.2
 ·intro j B I;simp only[St.kill,oF]at I;cases h:st.bx[j]? with
  | none=>simp[h]at I
  | some C=>
    simp[h]at I;subst I;cases C with
    | var cs=>
      intro hc;simp only[Bx.kill,Bx.refs]at hc;obtain⟨p,O,J⟩:=PV.refsL_mem.1 hc;obtain⟨q,_,rfl⟩:=oT.1 O;rcases PV.kill_cases k q with h1 | h1
      ·rw[h1]at J;simp[PV.refs]at J
      ·rw[h1.1]at J;exact h1.2 J
    | _=>simp[Bx.kill,Bx.refs]
theorem Vb {k}{st:St}{j:Nat}{t z n es}(h:st.bx[j]?=some (.arr t z es n)):(st.kill k).bx[j]?=some (.arr t z es n):=by simp[St.kill,oF,h,Bx.kill]
def Qw (g:Bool)(rb:Nat->Option Bx)(q:PV)(R:Nat->aM->Prop):Prop:=
 match q with
 | .sb k z lo n _=>match rb k with
   | some (.arr _ z' es _)=>match g with
     | false=>if z=z'/\lo=0/\n=es.length then R z es else False
     | true=>if z=z' then lo+n<=es.length/\R z ((es.drop lo).take n)else False
   | _=>False
 | .sv _ z es _=>R z es
 | _=>False
def zOk (P:Program)(el:aK)(z:Nat):Bool:=
 match FC P el with
 | some cs=>cs.length==ez z
 | none=>false
def zB (es new:aM) bytes:=(es++new).length*bytes<=140737488355328
def Wb (a:aH)(es:aM)(c:Nat)(new:aM):Prop:=match a,c with
 | none,0=>True
 | _,_=>c=es.length/\new≠[]
def pinned (st:St)(k:Nat):Bool:=match st.pins[k]? with
 | some (some _)=>true
 | _=>false
def capG (g:Bool)(n c:Nat)(A:Prop):Prop:=match g with
 | false=>A
 | true=>n<=c->A
theorem capG.of {g n c A}(h:capG g n c A)(hc:n<=c):A:=by
 cases g
 ·exact h
 ·exact h hc
theorem capG.mono {g n c A B}(h:capG g n c A)(I:A->B):capG g n c B:=by
 cases g
 ·exact I h
 ·exact λhc=>I (h hc)
def apF (g:Bool) (P:Program) (st:St) (dst:Option Nat) (t:aK) (x y:Operand) (K:St->Prop):Prop:=
 match P.underlying t with
 | some (.slice el)=>match kz P el,P.info? el with
   | some z,some i=>if i.bytes=0\/zOk P el z=false then False else
     Qw g (λk=>st.bx[k]?) (retag P t (opd st.sl y)) λz2 new=>if z2=z then
      match retag P t (opd st.sl x)with
      | .sb k I lo n c=>match pinned st k with
        | true=>False
        | false=>match st.bx[k]? with
        | some (.arr t' z' es J)=>if I=z/\z'=z/\lo=0/\t'=el then
         (n=es.length/\c=J)/\zB es new i.bytes/\∀ c2,capG g (es++new).length c2 (K (St.put { st.kill k with bx:=(st.kill k).bx.set k (.arr el z (es++new) c2) } dst (.sb k z 0 (es++new).length c2)))else False
        | _=>False
      | .sv a I es c=>if I=z then
            Wb a es c new/\zB es new i.bytes/\∀ c2,K (St.put { st with bx:=st.bx++[.arr el z (es++new) c2] } dst (.sb st.bx.length z 0 (es++new).length c2))else False
      | _=>False
     else False
   | _,_=>False
 | _=>False
variable {av:Nat->Prop} {P:Program} {w0 w w':World} {e0 e:Env} {pS pS' pB:aI} {a:Act} {st st':St}
theorem Ce {w:World}{ad:Addr}(hs:ad.spot=none){c t}{fz:Nat × Nat}(h:w.heap[ad.block]?=some (.cells c t fz)) j:w.cell? (ad.add j)=c[ad.off+j]?:=by obtain⟨b,o,s⟩:=ad;simp only at hs h ⊢;subst hs;rw[xr];exact sx h
theorem VO {z es}(h:∀ e∈es,eOk z e){lo n}(hl:lo<=es.length){j u}(J:(yM ((es.drop lo).take n))[j]?=some u):(yM es)[lo*ez z+j]?=some u:=by
 have e1:es=es.take lo++((es.drop lo).take n++(es.drop lo).drop n):=by rw[np,np]
 have I:(yM (es.take lo)).length=lo*ez z:=by rw[zU (z:=z) λx O=>h x (ou O),nO,Nat.min_eq_left hl]
 rw[e1,wA,oU (by rw[I];exact Nat.le_add_right _ _),I,Nat.add_sub_cancel_left,wA,oQ (oD.1 J).1];exact J
theorem OG {g}(h:Mem av pB w e st.bx){v q R}(hv:ValOk av w e pB st.bx v q)(hs:Qw g (λk=>st.bx[k]?) q R) :
  ∃ z new,R z new/\(∀ x∈new,eOk z x/\Good w (za av pB e st.bx) x) /\
    ((∃ c,v=.slice none new.length c/\new=[])\/∃ ad c,v=.slice (some ad) new.length c/\∀(j:Nat) (u:Value),((yM new).map D.cv)[j]?=some u->w.cell? (ad.add j)=some u):=by
 unfold Qw at hs;split at hs
 ·rename_i k z lo n c;split at hs
  ·rename_i t z' es cb hk;split at hs
   rotate_left
   ·split at hs
    rotate_left
    ·exact hs.elim
    rename_i hc;subst hc;obtain⟨ae,hs⟩:=hs;have U:=(hv.2.2 k (by simp[PV.refs])).1;have hr:=h.br k _ hk U;have ab:=h.bo k _ hk U;have I:=hv.1.resolve_left aB;have ac:((es.drop lo).take n).length=n:=aF
    rcases hr with⟨h1,h2,h3⟩ | ⟨b,c',h1,h2,h3,h4,h5,h6,h7⟩
    ·subst h2;have ah:n=0:=by simp at ae;omega
     subst ah;refine⟨z,[],by simpa using hs,aB,.inl ⟨c,?_,rfl⟩⟩;rw[I];simp[PV.val,PV.val1,PV.cv,h1]
    ·have aa:∀ x∈(es.drop lo).take n,x∈es:=λx Y=>nG (ou Y);refine⟨z,_,hs,λx Y=>⟨h6 x (aa x Y),ab x (aa x Y)⟩,.inr ⟨⟨b,lo*ez z,none⟩,c,?_,λj u J=>?_⟩⟩
     ·rw[I,ac];simp[PV.val,PV.val1,PV.cv,h1]
     ·rw[Ce rfl h2];simp only[oF]at J;cases O:(yM ((es.drop lo).take n))[j]? with
      | none=>simp[O]at J
      | some d=>simp[O]at J;subst J;exact h7 _ d (VO h6 aA O)
   split at hs
   ·rename_i hc;obtain⟨rfl,rfl,rfl⟩:=hc;have U:=(hv.2.2 k (by simp[PV.refs])).1;have hr:=h.br k _ hk U;have ab:=h.bo k _ hk U;have I:=hv.1.resolve_left aB;rcases hr with⟨h1,h2,h3⟩ | ⟨b,c',h1,h2,h3,h4,h5,h6,h7⟩
    ·subst h2;refine⟨z,[],hs,aB,.inl ⟨c,?_,rfl⟩⟩;rw[I];simp[PV.val,PV.val1,PV.cv,h1]
    ·refine⟨z,es,hs,λx Y=>⟨h6 x Y,ab x Y⟩,.inr ⟨⟨b,0,none⟩,c,?_,λj u J=>?_⟩⟩
     ·rw[I];simp[PV.val,PV.val1,PV.cv,h1]
     ·rw[Ce rfl h2];simp only[oF]at J;cases O:(yM es)[j]? with
      | none=>simp[O]at J
      | some d=>simp[O]at J;subst J;simpa using h7 j d O
   ·exact hs.elim
  ·exact hs.elim
 ·rename_i ad z es c;have I:=hv.1.resolve_left aB;have hg:=hv.2.1;simp only[PV.Ok]at hg;obtain⟨hh,ai⟩:=id hg;cases hh with
  | nil=>exact⟨z,[],hs,aB,.inl ⟨0,by rw[I];rfl,rfl⟩⟩
  | sl h1 h2 h3 h4 h5=>
    rename_i ad;refine⟨z,es,hs,λx Y=>⟨h3 x Y,hg.elem Y⟩,.inr ⟨ad,c,by rw[I];rfl,λj u J=>?_⟩⟩;simp only[oF]at J;cases O:(yM es)[j]? with
    | none=>simp[O]at J
    | some d=>
      simp[O]at J;subst J;rcases h5 with h5 | ⟨cc,t,fz,h6,h7⟩
      ·rw[h5]at O;simp at O
      ·rw[Ce (h1 λh=>by subst h;simp[yM]at O) h6];exact h7 j d O
 ·exact hs.elim
theorem Hg t ty el i(I:P.underlying t=some (.slice el))(hi:P.info? el=some i) b n c c2(J:n<=c) :
  (Builtin.append_ #[t,t] ty #[.slice b n c,.slice none 0 c2]).run P w=.ok (.slice b n c) w:=by
 cases b<;>simp[Builtin.append_,run_underlying I,sizeOf,typeInfo,hi,Builtin.lenOf,J,Builtin.firstCells,loadCells,loadCellsFrom,storeCells]
theorem G3 {z es}(h:∀ e∈es,eOk z e):∀ u∈(yM es).map D.cv,u.oneCell'=true:=by intro u I;obtain⟨d,hd,rfl⟩:=oT.1 I;exact xz (Oe h d hd)
theorem Qs {t z}(h:zOk P t z=true):∃ i v,P.info? t=some i/\i.zero=some v/\v.cells.size=ez z:=by
 unfold zOk at h;split at h
 ·rename_i cs I;obtain⟨i,v,J,O,U,_⟩:=uQ I
  have:=(U default []).1
  exact⟨i,v,J,O,by simp at h this;omega⟩
 ·cases h
theorem xU {l1 l2 l3}{ds1 I:aM}(O:l1=ds1.map D.cv)(U:l2=I.map D.cv)(i:Nat) u(Y:(ds1++I)[i]?=some u):(l1++l2++l3)[i]?=some u.cv:=by have J:i<(ds1++I).length:=(oD.1 Y).1;rw[oQ (by subst O;subst U;simpa using J),O,U,<-mm,oF,Y];rfl
theorem EN (h:Rel av w0 e0 pS pB a w e st){el z n es c}(hp:st.bx.length∉pB)(J:∀ x∈es,eOk z x/\Good w (za av pB e st.bx) x)(hc:c.size=n*ez z)(hn:es.length<=n)(hm:n<=maxLen)(hf:∀(i:Nat) (u:D),(yM es)[i]?=some u->c[i]?=some u.cv){w2}(I:w2.heap=w.heap){dst}(ae:∀ i,i∈pS->some i≠dst->i∈pS')(ah:KU w w2:=by exact⟨rfl,rfl⟩) :
  Rel av w0 e0 pS' pB (a.put dst (.slice (some ⟨w.heap.size,0,none⟩) es.length n)) (w2.alloc (.cells c el)) (e++[some w.heap.size]) (St.put { st with bx:=st.bx++[.arr el z es n] } dst (.sb st.bx.length z 0 es.length n)):=by
 have O:Rel av w0 e0 pS pB a w2 e st:=by
  have:=QP h (w':=w2) (by rw[I];exact oC _) (λb _=>by rw[I]) (λb c t z hb hc=>by rw[I]at hc;have:=(oW.1 hc).1;omega) ah
  exact zAJ this (by show st.N<=_;rw[I];exact h.hN)
 have Y:∀ x∈es,eOk z x/\Good w2 (za av pB e st.bx) x:=λx U=>⟨(J x U).1,(J x U).2.mono (λb _ _=>by rw[I]) (λ_ _=>id)⟩
 have ai:=qD O (B:=.arr el z es n);have hL:∀ b,za av (st.bx.length::pB) (e++[none]) (st.bx++[.arr el z es n]) b->za av pB e st.bx b:=λb hb=>Cw (hb.imp id λ⟨k,hk⟩=>⟨k,(w7 h.el).1 hk⟩);have nb:NewBox av w2 (e++[none]) (st.bx.length::pB) (st.bx++[.arr el z es n]) (.slice (some ⟨w2.heap.size,0,none⟩) es.length n) (w2.alloc (.cells c el)) (.arr el z es n) (λk=>.sb k z 0 es.length n):={
  val:=λk e' he=>by simp[PV.val,PV.val1,PV.cv,he]
  fr:=λk=>by simp[PV.refs]
  fok:=λk w live=>trivial
  rel:=λe' _=>.inr ⟨w2.heap.size,c,rfl,heap_alloc_new w2 _,Nat.le_of_eq hc.symm,hn,hm,λx U=>(J x U).1,hf⟩
  ok:=λx U=>(Y x U).2.mono (λ_ _ _=>rfl) (λb _=>hL b)
  rf:=by simp[Bx.refs]
  ng:=by simp }
 have aa:=Bi ai (k:=st.bx.length) (B:=.arr el z es n) aB aB nb;have ab:(st.bx.length::pB).filter (·≠st.bx.length)=pB:=by rw[List.filter_cons];simp only[ne_eq,mP,decide_false,mF,ni];exact List.filter_eq_self.2 λk hk=>by simp;intro hc;exact hp (hc ▸ hk)
 have ac:(e++[none]).set st.bx.length (some w2.heap.size)=e++[some w2.heap.size]:=by rw[<-h.el,lR _ _ (oC _)];simp
 rw[ab,ac,I]at aa;refine wE aa (dst:=dst) (p:=.sb st.bx.length z 0 es.length n) ⟨.inr ?_,trivial,?_⟩ ae
 ·have:Env.at (e++[some w.heap.size]) st.bx.length=some w.heap.size:=by rw[<-h.el];exact Env.at_append_eq
  simp[PV.val,PV.val1,PV.cv,this]
 ·simp[PV.refs];exact hp
theorem Al (h:Rel av w0 e0 pS pB a w e st){el z}(hp:st.bx.length∉pB) :
  Rel av w0 e0 pS pB a w (e++[none]) { st with bx:=st.bx++[.arr el z [] 0] }:=by
 have I:=qD h (B:=.arr el z [] 0);have ac:Env.at (e++[none]) st.bx.length=none:=by rw[<-h.el];exact Env.at_append_eq
 have U:∀ k,k∈(st.bx.length::pB)↔k=st.bx.length\/k∈pB:=λk=>aB
 have J:∀ k b,Lives pB (e++[none]) (st.bx++[.arr el z [] 0]) k b->Lives (st.bx.length::pB) (e++[none]) (st.bx++[.arr el z [] 0]) k b:=λk b ⟨h1,h2,h3⟩=>by
  refine⟨?_,h2,h3⟩;rw[U]
  rintro(h4 | h4)
  ·rw[h4,ac]at h2;cases h2
  ·exact h1 h4
 have Y:∀ b,za av pB (e++[none]) (st.bx++[.arr el z [] 0]) b->za av (st.bx.length::pB) (e++[none]) (st.bx++[.arr el z [] 0]) b:=λb hb=>hb.imp id λ⟨k,O⟩=>⟨k,J k b O⟩
 have aa:∀(B:Bx),(st.bx++[.arr el z [] 0])[st.bx.length]?=some B->B=.arr el z [] 0:=λB hB=>by simp at hB;exact hB.symm
 exact {
  el:=I.el
  br:=λk B O hn=>by
   by_cases ab:k=st.bx.length
   ·subst ab;rw[aa B O];exact .inl ⟨ac,rfl,rfl⟩
   ·exact I.br k B O (by rw[U];rintro(h4 | h4)<;>contradiction)
  bo:=λk B O hn=>by
   by_cases ab:k=st.bx.length
   ·subst ab;rw[aa B O];intro x hx;simp at hx
   ·exact(I.bo k B O (by rw[U];rintro(h4 | h4)<;>contradiction)).mono (λ_ _ _=>rfl) (oC _) λb _=>Y b
  bf:=λk B O hn j hj=>by
   by_cases ab:k=st.bx.length
   ·subst ab;rw[aa B O]at hj;simp[Bx.refs]at hj
   ·have:=I.bf k B O (by rw[U];rintro(h4 | h4)<;>contradiction) j hj
    exact⟨λhc=>this.1 (by simp[hc]),this.2⟩
  inj:=λk j b O hj=>I.inj k j b (J k b O) (J j b hj)
  ku:=I.ku
  size:=I.size
  old:=I.old
  fz:=I.fz
  nd:=I.nd
  sz:=I.sz
  hN:=I.hN
  hs:=I.hs
  so:=λi p hi hn=>PV.Ok.mono (λ_ _ _=>rfl) (oC _) (λb _=>Y b) p (I.so i p hi hn)
  sr:=λi p hi hn k O=>by
   have:=I.sr i p hi hn k O
   exact⟨λhc=>this.1 (by simp[hc]),this.2⟩
  own:=λk b O=>I.own k b (J k b O)
  avl:=I.avl
  avn:=λk b O=>I.avn k b (J k b O)
  pin:=λk b hb=>by have:=I.pin k b hb;exact⟨this.1,λhc=>this.2 (by simp[hc])⟩
  pit:=I.pit }
variable {av:Nat->Prop} {P:Program} {w0 w w':World} {e0 e:Env} {pS pS' pB:aI} {a:Act} {st st':St}
theorem JM {es new bytes}(h:zB es new bytes)(hb:bytes≠0):(es++new).length<=140737488355328:=by unfold zB at h;have:(es++new).length*1<=(es++new).length*bytes:=lE _ aA;omega
theorem Holds.sl_inv {w a z es cap}(h:Holds w (.sl a z es cap)) :
  es.length<=cap/\(∀ x∈es,eOk z x)/\((a=none/\es=[]/\cap=0)\/∃ ad,a=some ad/\(yM es≠[]->ad.spot=none)/\Row w ad (yM es)):=by
 cases h with
 | nil=>exact⟨oC _,aB,.inl ⟨rfl,rfl,rfl⟩⟩
 | sl I J O h4 U=>exact⟨J,O,.inr ⟨_,rfl,λY=>I (X1 Y),U⟩⟩
theorem UC {w ad ds}(hs:ds≠[]->ad.spot=none)(h:Row w ad ds) j u(J:(ds.map D.cv)[j]?=some u):w.cell? (ad.add j)=some u:=by
 simp only[oF]at J;cases I:ds[j]? with
 | none=>simp[I]at J
 | some d=>
   simp[I]at J;subst J;rcases h with O | ⟨cc,t,fz,U,Y⟩
   ·rw[O]at I;simp at I
   ·rw[Ce (hs λh=>by rw[h]at I;simp at I) U];exact Y j d I
def zBg (w:World)(x:Option Nat):Prop:=∀ b,x=some b->∃ I t,w.heap[b]?=some (.cells I t (0,0))
def zAn (w:World) x(w':World):=∀(b:Nat) (c:Array Value) (t:aK) (z:Nat × Nat),(w.heap.size<=b\/x=some b)->w'.heap[b]?=some (.cells c t z)->Fz z
theorem X7 {x}(h:zBg w x):zAn w x w:=λb c t z hb hc=>by
 rcases hb with hb | hb
 ·have:=(oW.1 hc).1;omega
 ·obtain⟨I,t',J⟩:=h b hb;rw[J]at hc;cases hc;exact fz0
theorem Pr {x}(h:zBg w x){w2:World}(I:w2.heap=w.heap){c0 t0}:zAn w x (w2.alloc (.cells c0 t0)):=λb c t z hb hc=>by
 by_cases J:b<w.heap.size
 ·rw[CQ (by rw[I];exact J),I]at hc;rcases hb with hb | hb
  ·omega
  ·obtain⟨U,t',Y⟩:=h b hb;rw[Y]at hc;cases hc;exact fz0
 ·have O:b=w2.heap.size:=by have:=(oW.1 hc).1;simp at this;rw[I]at this ⊢;omega
  subst O;rw[MN]at hc;cases hc;exact fz0
theorem Zu {b0 I J t0}(h:w.heap[b0]?=some (.cells I t0 (0,0))):zAn w (some b0) (w.setRow b0 J):=λb c t z hb hc=>by
 rcases hb with hb | hb
 ·have:=(oW.1 hc).1;simp[World.setRow]at this;omega
 ·cases hb;rw[setRow_heap w b0 I J t0 _ h]at hc;cases hc;exact fz0
theorem O0 {k}(h:pinned st k=false):∀ b,(st.kill k).pins[k]?≠some (some b):=λb hb=>by have hb:st.pins[k]?=some (some b):=hb;unfold pinned at h;rw[hb]at h;cases h
theorem FW t tx ty e i(ht:P.underlying t=some (.slice e))(hi:P.info? e=some i) g I J O(hg:w.heap[g]?=some (.cells O e (0,0))) x n news(hs:Src P i.size tx x n news w)(U:I+n<=J)(Y:I*i.size+news.length<=O.size) :
  (Builtin.append_ #[t,tx] ty #[.slice (some ⟨g,0,none⟩) I J,x]).run P w =
   .ok (.slice (some ⟨g,0,none⟩) (I+n) J) (w.setRow g (O.toList.take (I*i.size)++news++O.toList.drop (I*i.size+news.length)).toArray):=by
 have aa:=run_storeCells_at P g (I*i.size) e news 0 O w hg (by simpa using Y) hs.one;simp only[mY]at aa;rcases hs.kind with⟨e',hk⟩ | hk<;>simp[Builtin.append_,run_underlying ht,run_underlying hk,sizeOf,typeInfo,hi,hs.len,U,hs.cells,Addr.add_lit,aa]
theorem Gc (h:Rel av w0 e0 pS pB a w e st){dst t tx ty el i zv z}(ac:P.underlying t=some (.slice el))(hi:P.info? el=some i)(aq:i.zero=some zv)(au:zv.cells.size=ez z)(U:i.size=ez z)(a8:i.bytes≠0){vx vy k c es new}(ox:ValOk av w e pB st.bx vx (.sb k z 0 es.length c))(ba:pinned st k=false)(hk:st.bx[k]?=some (.arr el z es c))(O:∀ x∈new,eOk z x/\Good w (za av pB e st.bx) x)(hS:Src P i.size tx vy new.length ((yM new).map D.cv) w)(aa:zB es new i.bytes)(bb:∀ i,i∈pS->some i≠dst->i∈pS') :
  ∃ v w' e' c2,(Builtin.append_ #[t,tx] ty #[vx,vy]).run P w=.ok v w'/\(es++new).length<=c2/\Rel av w0 e0 pS' pB (a.put dst v) w' e' (St.put { st.kill k with bx:=(st.kill k).bx.set k (.arr el z (es++new) c2) } dst (.sb k z 0 (es++new).length c2)):=by
 have ae:((yM new).map D.cv).length=new.length*ez z:=by simp[zU λx hx=>(O x hx).1]
 have ah:=(ox.2.2 k (by simp[PV.refs])).1;have aj:k<st.bx.length:=(oD.1 hk).1;have bc:k<e.length:=by rw[h.el];exact aj
 have hr:=h.br k _ hk ah;have bg:=h.bo k _ hk ah;have aw:=ox.1.resolve_left aB;have ax:=JM aa a8;have bh:=QR h (AR k st);have bi:=Vb (k:=k) hk;obtain⟨bj,bm⟩:=HF (k:=k) (st:=st);have ak:∀ b,za av pB e (st.kill k).bx b->za av pB e st.bx b:=λb hb=>hb.imp id λ⟨j,j1,j2,B,j3,j4⟩=>by
  obtain⟨B0,g1,g2⟩:=(AR k st).bx j B j3;refine⟨j,j1,j2,B0,g1,λhc=>?_⟩;subst hc;rcases g2 with g2 | g2 | ⟨_,_,g2,_⟩
  ·exact j4 g2
  ·exact j4 g2
  ·cases g2
 have fin:∀(xx:Option Nat) (w':World) (c2:Nat) (v:Value),(∀ e':Env,Env.at e' k=xx->v=(PV.sb k z 0 (es++new).length c2).val e') ->
   (w.heap.size<=w'.heap.size)->(∀ b,b<w.heap.size->e.at k≠some b->w'.heap[b]?=w.heap[b]?)->(xx=e.at k\/∃ b,xx=some b/\w.heap.size<=b) ->
   Bx.Rel w' (e.set k xx) xx (.arr el z (es++new) c2)->(∀(b:Nat) (c:Array Value) (t:aK) (z:Nat × Nat),(w.heap.size<=b\/e.at k=some b)->w'.heap[b]?=some (.cells c t z)->Fz z)->KU w w'->(Builtin.append_ #[t,tx] ty #[vx,vy]).run P w=.ok v w' ->
   ∃ v w' e' c2,(Builtin.append_ #[t,tx] ty #[vx,vy]).run P w=.ok v w'/\(es++new).length<=c2/\Rel av w0 e0 pS' pB (a.put dst v) w' e' (St.put { st.kill k with bx:=(st.kill k).bx.set k (.arr el z (es++new) c2) } dst (.sb k z 0 (es++new).length c2)):=by
  intro xx w' c2 v hv U hold hx hB bp bq I;have ay:Bx.Ok w (za av pB e (st.kill k).bx) (.arr el z (es++new) c2):=λx hx=>by
   rcases oM.1 hx with hx | hx
   ·exact(bg x hx).mono (λ_ _ _=>rfl) (λb _=>ak b)
   ·exact(O x hx).2.mono (λ_ _ _=>rfl) (λb _=>ak b)
  have bt:=O7 bh (w':=w') (x:=xx) bi ah aB U hold
   (hx.imp id λhb=>⟨hb,λi p hi _=>bj i p hi,λj C hj _ _=>bm j C hj,rfl⟩) (λ_=>rfl) (.inr (O0 ba)) hB ay (by simp[Bx.refs]) bp bq
  refine⟨v,w',_,c2,I,?_,wE bt (dst:=dst) ⟨.inr (hv _ (Env.at_set_eq bc)),trivial,?_⟩ bb⟩
  ·rcases hB with⟨_,g2,_⟩ | ⟨_,_,_,_,_,g4,_⟩
   ·rw[g2];simp
   ·exact g4
  simp[PV.refs,St.kill,ah,aj]
 have bv:(es++new).length*ez z=(yM es).length+new.length*ez z:=by
  rw[oG,nJ];congr 1;rcases hr with⟨_,h2,_⟩ | ⟨b,cc,h1,h2,h3,h4,h5,h6,h7⟩
  ·subst h2;simp[yM]
  ·rw[zU h6]
 rcases hr with⟨h1,h2,h3⟩ | ⟨b,Y,h1,h2,h3,h4,h5,h6,h7⟩
 ·-- no row yet
  subst h2;subst h3;have ab:vx=.slice none 0 0:=by rw[aw];simp[PV.val,PV.val1,PV.cv,h1]
  by_cases hm:new.length=0
  ·have bw:new=[]:=oV hm;subst bw;refine fin none w 0 (.slice none 0 0) (λe' he=>by simp[PV.val,PV.val1,PV.cv,he]) (oC _) (λ_ _ _=>rfl) (.inl h1.symm) (.inl ⟨rfl,aB,rfl⟩) (X7 (λb hb=>by rw[h1]at hb;cases hb)) .rfl ?_;have g1:=hS.len w;have g2:=hS.cells;simp only[oN,yM,lC]at g1 g2;rw[ab];rcases hS.kind with⟨e',hk2⟩ | hk2<;>simp[Builtin.append_,run_underlying ac,run_underlying hk2,sizeOf,typeInfo,hi,g1,g2]
  ·have bz:0<new.length:=aA
   unfold zB at aa;simp only[oa]at aa ax;have I:=run_append_grow_src (P:=P) w t tx ty el i zv ac hi aq none 0 0 [] (run_firstCells_none w.drew i.size 0 0 0) vy new.length ((yM new).map D.cv) hS aA aA (by rw[nI,nextslicecap_zero bz];omega);simp only[nI,oa]at I;refine fin (some w.heap.size) _ (grownCap w new.length 0 el) (.slice (some ⟨w.heap.size,0,none⟩) new.length (grownCap w new.length 0 el)) (λe' he=>by simp[PV.val,PV.val1,PV.cv,he]) aB (λb hb _=>CQ (w:=w.drew) hb) (.inr ⟨_,rfl,oC _⟩) ?_ (Pr (w2:=w.drew) (λb hb=>by rw[h1]at hb;cases hb) rfl) ⟨rfl,rfl⟩ (by rw[ab];exact I);have al:=grownCap_ge w new.length 0 el;have ao:=grownCap_le_maxLen w new.length 0 el (by unfold maxLen;omega);refine .inr ⟨w.heap.size,_,rfl,heap_alloc_new w.drew _,?_,by simpa using al,ao,λx hx=>(O x (by simpa using hx)).1,λj u hu=>?_⟩
   ·simp only[mW,ny,size_zeroCells,au,ae,<-nJ];refine ol _ ?_;omega
   ·have:=xU (l1:=[]) (l3:=(Builtin.zeroCells zv.cells (grownCap w new.length 0 el - new.length)).toList) (ds1:=[]) rfl rfl j u (by simpa using hu)
    rw[<-nR];simpa using this
 ·have ab:vx=.slice (some ⟨b,0,none⟩) es.length c:=by rw[aw];simp[PV.val,PV.val1,PV.cv,h1]
  have az:∀(j:Nat) (u:Value),((yM es).map D.cv)[j]?=some u->Y[j]?=some u:=λj u hu=>by
   simp only[oF]at hu;cases hf:(yM es)[j]? with
   | none=>simp[hf]at hu
   | some d=>simp[hf]at hu;subst hu;exact h7 j d hf
  ·by_cases J:es.length+new.length<=c
   ·have a6:es.length*i.size+((yM new).map D.cv).length<=Y.size:=by rw[ae,U,<-nJ];exact oR (ol _ J) h3
    have I:=FW (P:=P) t tx ty el i ac hi b es.length c Y h2 vy new.length ((yM new).map D.cv) hS J a6;refine fin (some b) _ c (.slice (some ⟨b,0,none⟩) (es.length+new.length) c) (λe' he=>by simp[PV.val,PV.val1,PV.cv,he]) (by simp[World.setRow]) (λj hj hn=>setRow_other w b j _ (λhc=>hn (by rw[h1,hc]))) (.inl h1.symm) ?_ (by intro b' c' t2 z hb hc;rw[h1]at hb;exact Zu h2 b' c' t2 z hb hc) ⟨rfl,rfl⟩ (by rw[ab];exact I);have a7:=zU h6;refine .inr ⟨b,_,rfl,setRow_heap w b Y _ el _ h2,?_,by simpa using J,h5,λx hx=>?_,λj u hu=>?_⟩
    ·have ai:(es.length+new.length)*ez z<=c*ez z:=ol _ J;rw[nJ]at ai;simp only[ny,oG,nO,ma,nY,ae,U];omega
    ·rcases oM.1 hx with hx | hx
     ·exact h6 x hx
     ·exact(O x hx).1
    ·rw[wA]at hu;have b3:Y.toList.take (es.length*i.size)=(yM es).map D.cv:=by
      apply nL;intro q;rw[om];split
      ·rename_i hq;rw[U,<-a7]at hq
       have:=az q _ (by rw[oF,oH hq];rfl)
       rw[nR,this,oF,oH hq];rfl
      ·rename_i hq;rw[U,<-a7]at hq;rw[oc aF]
     have:=xU (l3:=Y.toList.drop (es.length*i.size+((yM new).map D.cv).length)) b3 rfl j u hu
     simpa using this
   ·unfold zB at aa;rw[oG]at aa ax;have I:=run_append_grow_src (P:=P) w t tx ty el i zv ac hi aq (some ⟨b,0,none⟩) es.length c ((yM es).map D.cv) (run_firstCells_some w.drew i.size es.length ⟨b,0,none⟩ es.length c _ (by simp[zU h6,U]) (λj u hu=>by rw[Ce rfl (w:=w.drew) (c:=Y) (t:=el) (fz:=(0,0)) h2];simpa using az j u hu))
     vy new.length ((yM new).map D.cv) hS aA aA (growslice_fits aA aa)
    rw[show((yM es).map D.cv++(yM new).map D.cv).toArray=((yM es).map D.cv).toArray++((yM new).map D.cv).toArray by simp]at I;refine fin (some w.heap.size) _ (grownCap w (es.length+new.length) c el) (.slice (some ⟨w.heap.size,0,none⟩) (es.length+new.length) (grownCap w (es.length+new.length) c el)) (λe' he=>by simp[PV.val,PV.val1,PV.cv,he]) aB (λj hj _=>CQ (w:=w.drew) hj) (.inr ⟨_,rfl,oC _⟩) ?_ (Pr (w2:=w.drew) (λb' hb=>by rw[h1]at hb;cases hb;exact⟨_,_,h2⟩) rfl) ⟨rfl,rfl⟩ (by rw[ab];exact I);have al:=grownCap_ge w (es.length+new.length) c el;have ao:=grownCap_le_maxLen w (es.length+new.length) c el (by unfold maxLen;omega);refine .inr ⟨w.heap.size,_,rfl,heap_alloc_new w.drew _,?_,by simpa using al,ao,λx hx=>?_,λj u hu=>?_⟩
    ·simp only[mW,ny,size_zeroCells,au,ae,nE,zU h6,<-nJ];refine ol _ ?_;omega
    ·rcases oM.1 hx with hx | hx
     ·exact h6 x hx
     ·exact(O x hx).1
    ·rw[wA]at hu
     have:=xU (l3:=(Builtin.zeroCells zv.cells (grownCap w (es.length+new.length) c el - (es.length+new.length))).toList) rfl rfl j u hu
     rw[<-nR];simpa using this
theorem R4 {g}(h:Rel av w0 e0 pS pB a w e st)(bi:∀ k∈pB,k<st.bx.length){dst t ty x y K}(hx:∀ i,x=.tmp i->i∉pS)(hy:∀ i,y=.tmp i->i∉pS)(ak:∀ i,i∈pS->some i≠dst->i∈pS')(hs:apF g P st dst t x y K) :
  ∃ v w' e' st',(Builtin.append_ #[t,t] ty #[a.eval x,a.eval y]).run P w=.ok v w'/\K st'/\Rel av w0 e0 pS' pB (a.put dst v) w' e' st':=by
 have al:st.bx.length∉pB:=λhc=>Nat.lt_irrefl _ (bi _ hc);unfold apF at hs;split at hs
 rotate_left
 ·exact hs.elim
 rename_i el Y;split at hs
 rotate_left
 ·exact hs.elim
 rename_i z i hz hi;split at hs
 ·exact hs.elim
 rename_i ax;have ay:i.bytes≠0:=λhc=>ax (.inl hc);have bj:zOk P el z=true:=by
  cases hh:zOk P el z with
  | true=>rfl
  | false=>exact absurd (.inr hh) ax
 obtain⟨i',zv,az,ao,aq⟩:=Qs bj;rw[hi]at az
 have:=oZ az
 subst this;have ae:i.size=ez z:=by obtain⟨i',h1,h2⟩:=EH hz;rw[hi]at h1;cases h1;exact h2
 have oy:=(vn h hy).valOk.retag (P:=P) t;have ox:=(vn h hx).valOk.retag (P:=P) t;generalize a.eval y=vy at oy ⊢;generalize a.eval x=vx at ox ⊢;obtain⟨z2,new,hs,ab,ah⟩:=OG h.toMem oy hs;split at hs
 rotate_left
 ·exact hs.elim
 rename_i bm;subst bm;have ai:((yM new).map D.cv).length=new.length*ez z2:=by simp[zU λx hx=>(ab x hx).1]
 have bp:=G3 λx hx=>(ab x hx).1;split at hs
 ·-- onto a row of the call's own
  rename_i k z1 lo n c hq;rw[hq]at ox;split at hs
  ·exact hs.elim
  rename_i bq;split at hs
  rotate_left
  ·exact hs.elim
  rename_i t' z' es c' hk;split at hs
  rotate_left
  ·exact hs.elim
  rename_i hc;obtain⟨rfl,rfl,rfl,rfl⟩:=hc;obtain⟨⟨rfl,rfl⟩,O,hK⟩:=hs;have hS:Src P i.size t vy new.length ((yM new).map D.cv) w:=by
   rcases ah with⟨c2,rfl,rfl⟩ | ⟨ad,c2,rfl,I⟩
   ·exact Src.ofNil w Y c2
   ·exact Src.ofSlice w Y ad _ c2 _ (by rw[ai,ae]) I bp
  obtain⟨v,w',e',c2,g1,g2,g3⟩:=Gc h (ty:=ty) Y hi ao aq ae ay ox bq hk ab hS O ak;exact⟨v,w',e',_,g1,(hK c2).of g2,g3⟩
 ·-- onto a slice that is left as it is
  rename_i av' z1 es c hq;rw[hq]at ox;split at hs
  rotate_left
  ·exact hs.elim
  rename_i hc;subst hc;obtain⟨a6,O,hK⟩:=hs;have a7:=ox.1.resolve_left aB;have hg:=ox.2.1;simp only[PV.Ok]at hg;obtain⟨i1,i2,i3⟩:=hg.1.sl_inv;have a8:=JM O ay;have ba:∀ x∈es++new,eOk z1 x/\Good w (za av pB e st.bx) x:=λx hx=>by
   rcases oM.1 hx with hx | hx
   ·exact⟨i2 x hx,hg.elem hx⟩
   ·exact ab x hx
  rcases i3 with⟨rfl,rfl,rfl⟩ | ⟨bb,rfl,i4,i5⟩
  ·have aj:vx=.slice none 0 0:=by rw[a7];rfl
   have nothing:new=[]->(Builtin.append_ #[t,t] ty #[vx,vy]).run P w=.ok (.slice none 0 0) w->∃ v w' e' st',(Builtin.append_ #[t,t] ty #[vx,vy]).run P w=.ok v w'/\K st'/\Rel av w0 e0 pS' pB (a.put dst v) w' e' st':=λJ U=>by
    subst J;have bt:Env.at (e++[none]) st.bx.length=none:=by rw[<-h.el];exact Env.at_append_eq
    refine⟨_,w,_,_,U,hK 0,wE (Al h (el:=el) (z:=z1) al) (dst:=dst) (p:=.sb st.bx.length z1 0 0 0) ⟨.inr (by simp[PV.val,PV.val1,PV.cv,bt]),trivial,by simp[PV.refs];exact al⟩ ak⟩
   rcases ah with⟨c2,aa,J⟩ | ⟨ad,c2,aa,I⟩
   ·exact nothing J (by subst J;rw[aj,aa];exact Hg (P:=P) (w:=w) t ty el i Y hi none 0 0 c2 (oC _))
   ·by_cases hm:new.length=0
    ·have J:new=[]:=oV hm;exact nothing J (by subst J;rw[aj,aa];simp[Builtin.append_,run_underlying Y,sizeOf,typeInfo,hi,Builtin.lenOf,Builtin.firstCells,loadCells,loadCellsFrom])
    ·have bc:0<new.length:=aA
     unfold zB at O;simp only[oa]at O a8;have U:=run_append_nil (P:=P) w t ty el i zv Y hi ao ad new.length c2 ((yM new).map D.cv) (by rw[ai,ae]) I bc aA aA;have au:=grownCap_ge w new.length 0 el;have aw:=grownCap_le_maxLen w new.length 0 el (by unfold maxLen;omega);have ac:=EN h (el:=el) (z:=z1) (n:=grownCap w new.length 0 el) (es:=[]++new) (c:=(((yM new).map D.cv).toArray++Builtin.zeroCells zv.cells (grownCap w new.length 0 el - new.length))) al ba
      (by simp only[mW,ny,size_zeroCells,aq,ai,<-nJ];congr 1;omega) (by simpa using au) aw (λj u hu=>by
       have:=xU (l1:=[]) (l3:=(Builtin.zeroCells zv.cells (grownCap w new.length 0 el - new.length)).toList) (ds1:=[]) rfl rfl j u (by simpa using hu)
       rw[<-nR];simpa using this) (w2:=w.drew) rfl (dst:=dst) ak
     exact⟨_,_,_,_,by rw[aj,aa];exact U,hK (grownCap w new.length 0 el),ac⟩
  ·have bv:c=es.length/\new≠[]:=a6;obtain⟨rfl,J⟩:=bv;have bc:0<new.length:=lD.2 J;have aj:vx=.slice (some bb) es.length es.length:=by rw[a7];rfl
   rcases ah with⟨c2,aa,bg⟩ | ⟨ad,c2,aa,I⟩
   ·exact absurd bg J
   ·unfold zB at O;rw[oG]at O a8;have U:=run_append_grow (P:=P) w t ty el i zv Y hi ao bb es.length es.length ((yM es).map D.cv) (by simp[zU i2,ae]) (λj u hu=>UC i4 i5 j u hu)
     ad new.length c2 ((yM new).map D.cv) (by rw[ai,ae]) I aA aA (growslice_fits aA O)
    have au:=grownCap_ge w (es.length+new.length) es.length el;have aw:=grownCap_le_maxLen w (es.length+new.length) es.length el (by unfold maxLen;omega);have ac:=EN h (el:=el) (z:=z1) (n:=grownCap w (es.length+new.length) es.length el) (es:=es++new)
     (c:=(((yM es).map D.cv).toArray++((yM new).map D.cv).toArray++Builtin.zeroCells zv.cells (grownCap w (es.length+new.length) es.length el - (es.length+new.length)))) al ba
     (by simp only[mW,ny,size_zeroCells,aq,ai,nE,zU i2,<-nJ];congr 1;omega) (by simpa using au) aw (λj u hu=>by
      rw[wA]at hu
      have:=xU (l3:=(Builtin.zeroCells zv.cells (grownCap w (es.length+new.length) es.length el - (es.length+new.length))).toList) rfl rfl j u hu
      rw[<-nR];simpa using this) (w2:=w.drew) rfl (dst:=dst) ak
    have bh:=hK (grownCap w (es.length+new.length) es.length el);rw[oG]at ac bh;exact⟨_,_,_,_,by rw[aj,aa];exact U,bh,ac⟩
 ·exact hs.elim
variable {av:Nat->Prop} {P:Program} {w0 w w':World} {e0 e:Env} {pS pS' pB:aI} {a:Act} {st st':St}
def UU (st:St) (dst:Option Nat) (K:St->Prop):Prop:=
 match dst with
 | some d=>match st.sl[d]? with
   | some (.sb k z lo n c)=>match st.bx[k]? with
     | some (.arr t z' es I)=>match Nat.beq lo 0 with
       | true=>n<=es.length/\K { st with bx:=st.bx.set k (.arr t z' (es.take n) I) }
       | false=>False
     | _=>False
   | _=>K st
 | none=>K st
theorem QQ (h:Rel av w0 e0 pS pB a w e st){k t z c es I}(hk:st.bx[k]?=some (.arr t z es c))(O:k∉pB)(aa:I.length<=es.length)(J:∀ x∈I,x∈es)(hf:∀(i:Nat) (u:D),(yM I)[i]?=some u->(yM es)[i]?=some u) :
  Rel av w0 e0 pS pB a w e { st with bx:=st.bx.set k (.arr t z I c) }:=by
 have Y:k<e.length:=by rw[h.el];exact(oD.1 hk).1
 have hr:=h.br k _ hk O;have ab:=h.bo k _ hk O
 have:=O7 h (w':=w) (x:=e.at k) (B':=.arr t z I c) hk O aB (oC _) (λ_ _ _=>rfl) (.inl rfl) (λ_=>rfl) (.inl rfl) ?_ (λx hx=>ab x (J x hx)) (by simp[Bx.refs]) (λb c2 t2 z2 hb hc=>?_) .rfl
 ·rwa[AV Y]at this
 ·rw[AV Y];rcases hr with⟨U,h2,h3⟩ | ⟨b,cc,U,h2,h3,h4,h5,h6,h7⟩
  ·subst h2;have:I=[]:=oV (by simpa using aa);subst this;exact .inl ⟨U,rfl,h3⟩
  ·exact .inr ⟨b,cc,U,h2,h3,aA,h5,λx hx=>h6 x (J x hx),λi u hu=>h7 i u (hf i u hu)⟩
 ·rcases hb with hb | hb
  ·have:=(oW.1 hc).1;omega
  ·rcases hr with⟨U,_⟩ | ⟨b',cc,U,h2,_⟩
   ·rw[U]at hb;cases hb
   ·rw[U]at hb;cases hb;rw[h2]at hc;cases hc;exact fz0
theorem Kx es n(i:Nat) u(h:(yM (es.take n))[i]?=some u):(yM es)[i]?=some u:=by
 have I:yM es=yM (es.take n)++yM (es.drop n):=by rw[<-wA,np]
 rw[I,oQ (oD.1 h).1];exact h
theorem PJ {K dst}(h:Rel av w0 e0 pS [] a w e st)(hs:UU st dst K):∃ st',K st'/\Rel av w0 e0 pS [] a w e st'/\st'.bx.length=st.bx.length:=by
 unfold UU at hs;split at hs
 ·split at hs
  ·split at hs
   ·rename_i t z' es U I;split at hs
    ·obtain⟨Y,J⟩:=hs;exact⟨_,J,QQ h I aB aF (λx O=>ou O) (Kx es _),aB⟩
    ·exact hs.elim
   ·exact hs.elim
  ·exact⟨st,hs,h,rfl⟩
 ·exact⟨st,hs,h,rfl⟩
theorem IK {el zd}(w:World)(h:Rv P el 0=some zd):∃ i J,P.info? el=some i/\i.zero=some J/\J.cells.toList=[zd.cv]/\zd.isCell/\∀(w:World)(live:Nat->Prop),Good w live zd:=by
 unfold Rv at h;split at h
 ·rename_i cs Y;obtain⟨i2,J,aa,ab,I,O,_⟩:=uQ Y;simp only[mI]at h;split at h
  ·rename_i p;obtain⟨_,q2,q3,q4,_⟩:=wF (w:=w) (e:=[]) h (O w (λ_=>False) p aB).1;refine⟨i2,J,aa,ab,?_,q2,λw live=>(wF (w:=w) (e:=[]) h (O w live p aB).1).1⟩;have U:=(I w []).2 0 p rfl;have ac:p≠.any:=λhh=>by subst hh;exact q4
   have U:=U.resolve_left ac;have ae:J.cells.toList.length=1:=(I w []).1
   match ah:J.cells.toList,ae with
   | [v0],_=>rw[ah]at U;simp at U;rw[U,q3]
  ·cases h
 ·cases h
def Sg (P:Program) (st:St) (dst:Option Nat) (t:aK) (x:Operand) (K:St->Prop):Prop:=
 match P.underlying t with
 | some (.slice el)=>match kz P el,Rv P el 0 with
   | some 0,some zd=>match opd st.sl x with
     | .sb k z lo n c=>match st.bx[k]? with
       | some (.arr t' z' es I)=>match Nat.beq z 0&&Nat.beq z' 0 with
         | true=>lo+n<=es.length/\K (St.put { st with bx:=st.bx.set k (.arr t' 0 (es.take lo++(List.replicate n zd++es.drop (lo+n))) I) } dst (.tp []))
         | false=>False
       | _=>False
     | _=>False
   | _,_=>False
 | _=>False
theorem vz {I:Value}{v}(h:I.cells.toList=[v]) n:(Builtin.zeroCells I.cells n).toList=List.replicate n v:=by
 have:I.cells=#[v]:=by apply nc.1;simpa using h
 rw[this];simp[Builtin.zeroCells];apply List.ext_getElem
 ·simp
 ·intro i J O;simp[Nat.mod_one]
theorem rJ:∀ {es:aM},(∀ x∈es,x.isCell)->yM es=es
 | [],_=>rfl
 | x::es,h=>by
   rw[uZ,rJ λy I=>h y (by simp[I])]
   have:=h x aB
   cases x<;>simp[D.isCell]at this<;>rfl
theorem LK {t ty el i Y v b lo n c w'}(I:P.underlying t=some (.slice el))(hi:P.info? el=some i)(J:i.zero=some Y)(O:Y.cells.toList=[v])(hn:0<n)(U:(storeCells ⟨b,lo,none⟩ (List.replicate n v)).run P w=.ok () w'):(Builtin.clear_ #[t] ty #[.slice (some ⟨b,lo,none⟩) n c]).run P w=.ok (.tuple #[]) w':=by
 obtain⟨m,rfl⟩:∃ m,n=m+1:=⟨n - 1,aA⟩
 simp[Builtin.clear_,run_underlying I,uX hi J,vz O,U]
theorem OW (h:Rel av w0 e0 pS pB a w e st){dst t ty x K}(hx:∀ i,x=.tmp i->i∉pS)(aj:∀ i,i∈pS->some i≠dst->i∈pS')(hs:Sg P st dst t x K) :
  ∃ v w' st',(Builtin.clear_ #[t] ty #[a.eval x]).run P w=.ok v w'/\K st'/\Rel av w0 e0 pS' pB (a.put dst v) w' e st'/\∃ k B,(∃ z lo n c,opd st.sl x=.sb k z lo n c)/\st'=St.put { st with bx:=st.bx.set k B } dst (.tp []):=by
 unfold Sg at hs;split at hs
 rotate_left
 ·exact hs.elim
 rename_i el ac;split at hs
 rotate_left
 ·exact hs.elim
 rename_i zd ay ak;split at hs
 rotate_left
 ·exact hs.elim
 rename_i k z lo n c hp;split at hs
 rotate_left
 ·exact hs.elim
 rename_i t' z' es c' hk;split at hs
 rotate_left
 ·exact hs.elim
 rename_i hz;simp only[oL]at hz;obtain⟨rfl,rfl⟩:z=0/\z'=0:=⟨nK hz.1,nK hz.2⟩
 obtain⟨al,hK⟩:=hs;have ox:=vn h hx;rw[hp]at ox;have U:=(ox.rf k (by simp[PV.refs])).1;have hv:=ox.h.resolve_left aB;obtain⟨i,zv,hi,ao,aq,I,Y⟩:=IK w ak;have az:k<e.length:=by rw[h.el];exact(oD.1 hk).1
 have hr:=h.br k _ hk U;have ae:=h.bo k _ hk U;have put:∀ w2,Rel av w0 e0 pS pB a w2 e { st with bx:=st.bx.set k (.arr t' 0 (es.take lo++(List.replicate n zd++es.drop (lo+n))) c') }->Rel av w0 e0 pS' pB (a.put dst (.tuple #[])) w2 e (St.put { st with bx:=st.bx.set k (.arr t' 0 (es.take lo++(List.replicate n zd++es.drop (lo+n))) c') } dst (.tp [])):=λw2 h2=>wE h2 ⟨.inr (by simp[PV.val,PV.val1,PV.cvs]),by simp[PV.Ok,PV.OkL],by simp[PV.refs,PV.refsL]⟩ aj;rcases md n with hn0 | hn0
 ·subst hn0;refine⟨.tuple #[],w,_,?_,hK,put w ?_,k,_,⟨_,_,_,_,hp⟩,rfl⟩
  ·rw[hv];cases hb:e.at k<;>simp[PV.val,PV.val1,PV.cv,hb,Builtin.clear_,run_underlying ac]
  ·refine QQ h hk U (by simp<;>omega) (λx hx=>?_) (λj u J=>?_)
   ·simp only[List.replicate_zero,oa,mY,np]at hx;exact hx
   ·simp only[List.replicate_zero,oa,mY,np]at J;exact J
 ·rcases hr with⟨h1,h2,h3⟩ | ⟨b,O,h1,h2,h3,h4,h5,h6,h7⟩
  ·subst h2;simp at al;omega
  ·have aa:∀ x∈es,x.isCell:=λx hx=>by have:=h6 x hx;simpa [eOk]using this
   have au:yM es=es:=rJ aa;have ab:ez 0=1:=rfl;rw[au]at h7;rw[ab,Nat.mul_one]at h3;have aw:∀ v∈List.replicate n zd.cv,v.oneCell'=true:=λv hv=>by rw[nZ hv];exact xz I
   have ah:=run_storeCells_at (P:=P) b lo t' (List.replicate n zd.cv) 0 O w h2 aF aw;rw[mY]at ah;refine⟨.tuple #[],w.setRow b (O.toList.take lo++List.replicate n zd.cv++O.toList.drop (lo+(List.replicate n zd.cv).length)).toArray,_,?_,hK,put _ (C4 h hk U aB h1 h2 (λ_=>rfl) ?_ ?_ (by simp[Bx.refs])),k,_,⟨_,_,_,_,hp⟩,rfl⟩
   ·have ax:(PV.sb k 0 lo n c).val e=.slice (some ⟨b,lo,none⟩) n c:=by simp[PV.val,PV.val1,PV.cv,h1,ab]
    rw[hv,ax];exact LK ac hi ao aq hn0 ah
   ·rw [h1];refine .inr ⟨b,_,rfl,setRow_heap w b O _ t' _ h2,?_,?_,h5,?_,?_⟩
    ·simp only[ny,oG,nO,ma,mU,nY,ab,Nat.mul_one];omega
    ·simp only[oG,nO,ma,mU];omega
    ·intro x hx;rcases oM.1 hx with hx | hx
     ·exact h6 x (ou hx)
     ·rcases oM.1 hx with hx | hx
      ·rw[nZ hx];simpa [eOk]using I
      ·exact h6 x (nG hx)
    ·intro j u J;rw[rJ λx hx=>?_]at J
     ·simp only[mU,lQ,oP];by_cases hj:j<lo
      ·rw[oQ aF,om,if_pos hj]at J;rw[oQ aF,om,if_pos hj];simpa using h7 j u J
      ·rw[oU aF]at J ⊢;have e1:(es.take lo).length=lo:=aF
       have e2:(O.toList.take lo).length=lo:=aF
       rw[e1]at J;rw[e2];by_cases ai:j - lo<n
       ·rw[oQ (by simpa using ai),mt,if_pos ai]at J ⊢;cases J;rfl
       ·rw[oU aF]at J ⊢;simp only[mU,nT]at J ⊢
        have:=h7 _ u J
        simpa using this
     ·rcases oM.1 hx with hx | hx
      ·exact aa x (ou hx)
      ·rcases oM.1 hx with hx | hx
       ·rw[nZ hx];exact I
       ·exact aa x (nG hx)
   ·intro x hx;rcases oM.1 hx with hx | hx
    ·exact ae x (ou hx)
    ·rcases oM.1 hx with hx | hx
     ·rw[nZ hx];exact Y _ _
     ·exact ae x (nG hx)
def YI (P:Program)(st:St)(dst:Option Nat)(t t':aK)(x y:Operand)(K:St->Prop):Prop:=
 match P.underlying t,P.underlying t' with
 | some (.slice el),some (.int _)=>match kz P el,P.info? el,Rv P el 0 with
   | some 0,some i,some zd=>match retag P t (opd st.sl x),opd st.sl y with
     | .sv none _ [] 0,.int .i64 m=>(0<=m/\m*i.bytes<=140737488355328/\m<=140737488355328)/\∀ c2,K (St.put { st with bx:=st.bx++[.arr el 0 (List.replicate m.toNat zd) c2] } dst (.sb st.bx.length 0 0 m.toNat c2))
     | _,_=>False
   | _,_,_=>False
 | _,_=>False
theorem S9 (n:Nat)(h:(n:Int)<=9223372036854775807):IntKind.i64.wrap (n:Int)=n:=by rw[IntKind.wrap_i64];omega
theorem Hf t t' ty el k i z(ht:P.underlying t=some (.slice el))(Y:P.underlying t'=some (.int k))(hi:P.info? el=some i)(hz:i.zero=some z)(h1:i.size=1)(n:Nat)(h0:0<n)(aa:(n:Int)<=9223372036854775807)(ab:n*i.bytes<=281474976710656) :
  (Builtin.append_ #[t,t'] ty #[.slice none 0 0,.int .i64 n]).run P w =
   .ok (.slice (some ⟨w.heap.size,0,none⟩) n (grownCap w n 0 el)) (w.drew.alloc (.cells (Builtin.zeroCells z.cells n++Builtin.zeroCells z.cells (grownCap w n 0 el - n)) el)):=by
 have hn:n≠0:=aA
 have J:¬(9223372036854775807<(n:Int)):=aA
 have O:¬(281474976710656<Builtin.nextslicecap n 0*i.bytes):=by rw[nextslicecap_zero h0];omega
 have I:¬(281474976710656<(n:Int)*(i.bytes:Int)):=by
  have h5:((n*i.bytes:Nat):Int)<=281474976710656:=aA
  rw[Int.natCast_mul]at h5;omega
 have hw:IntKind.i64.wrap (n:Int)=n:=S9 n aa;have U:¬((n:Int)<0):=aA
 simp[U,Builtin.append_,run_underlying ht,run_underlying Y,sizeOf,typeInfo,zeroValue,hi,hz,asInt,asIntOf,hw,h1,Builtin.lenOf,hn,J,O,I,Question.forced,run_firstCells_none,newRow,grownCap]
theorem RR (h:Rel av w0 e0 pS pB a w e st)(ai:∀ k∈pB,k<st.bx.length){dst t t' ty x y K}(hx:∀ i,x=.tmp i->i∉pS)(hy:∀ i,y=.tmp i->i∉pS)(aa:∀ i,i∈pS->some i≠dst->i∈pS')(hs:YI P st dst t t' x y K) :
  ∃ v w' e' st',(Builtin.append_ #[t,t'] ty #[a.eval x,a.eval y]).run P w=.ok v w'/\K st'/\Rel av w0 e0 pS' pB (a.put dst v) w' e' st'/\∃ rows q,st'=St.put { st with bx:=st.bx++rows } dst q:=by
 have U:st.bx.length∉pB:=λhc=>Nat.lt_irrefl _ (ai _ hc);unfold YI at hs;split at hs
 rotate_left
 ·exact hs.elim
 rename_i el kk ab ac;split at hs
 rotate_left
 ·exact hs.elim
 rename_i i zd aj hi ak;have ox:=(vn h hx).valOk.retag (P:=P) t;have oy:=(vn h hy).valOk;generalize a.eval x=vx at ox ⊢;generalize a.eval y=vy at oy ⊢;split at hs
 rotate_left
 ·exact hs.elim
 rename_i zz m al ao;rw[al]at ox;rw[ao]at oy;have aq:vx=.slice none 0 0:=by have:=ox.1.resolve_left aB;simpa [PV.val,PV.val1,PV.cv]using this
 have au:vy=.int .i64 m:=by have:=oy.1.resolve_left aB;simpa [PV.val,PV.val1,PV.cv]using this
 subst aq;subst au;obtain⟨⟨bc,aw,bg⟩,hK⟩:=hs;obtain⟨i',zv,ae,ax,J,I,Y⟩:=IK w ak;rw[hi]at ae
 have:=oZ ae
 subst this;have ay:i.size=1:=by obtain⟨i',h1,h2⟩:=EH aj;rw[hi]at h1;cases h1;exact h2
 obtain⟨n,rfl⟩:∃ n:Nat,m=n:=⟨m.toNat,aA⟩
 simp only[oI]at hK;have hw:IntKind.i64.wrap (n:Int)=n:=S9 n aA;have az:n*i.bytes<=281474976710656:=by
  have h5:((n*i.bytes:Nat):Int)<=140737488355328:=by rw[Int.natCast_mul];exact aw
  omega
 rcases md n with hn0 | hn0
 ·subst hn0;have a6:Env.at (e++[none]) st.bx.length=none:=by rw[<-h.el];exact Env.at_append_eq
  refine⟨.slice none 0 0,w,_,_,?_,hK 0,wE (Al h (el:=el) (z:=0) U) (dst:=dst) (p:=.sb st.bx.length 0 0 0 0) ⟨.inr (by simp[PV.val,PV.val1,PV.cv,a6]),trivial,by simp[PV.refs];exact U⟩ aa,_,_,rfl⟩;have a7:IntKind.i64.wrap 0=0:=by rw[IntKind.wrap_i64];rfl
  simp[Builtin.append_,run_underlying ab,run_underlying ac,sizeOf,typeInfo,hi,asInt,asIntOf,a7]
 ·have ah:=Hf (P:=P) (w:=w) t t' ty el kk i zv ab ac hi ax ay n hn0 aA az;have a8:=grownCap_ge w n 0 el;have ba:=grownCap_le_maxLen w n 0 el (by unfold maxLen;omega);have bb:∀ x∈List.replicate n zd,x.isCell:=λx hx=>by rw[nZ hx];exact I
  have O:=EN h (el:=el) (z:=0) (n:=grownCap w n 0 el) (es:=List.replicate n zd) (c:=Builtin.zeroCells zv.cells n++Builtin.zeroCells zv.cells (grownCap w n 0 el - n)) U
   (λx hx=>by rw[nZ hx];exact⟨by simpa [eOk]using I,Y _ _⟩)
   (by
    have h1:(Builtin.zeroCells zv.cells n).size=n:=by rw[<-nY,vz J];simp
    have h2:(Builtin.zeroCells zv.cells (grownCap w n 0 el - n)).size=grownCap w n 0 el - n:=by rw[<-nY,vz J];simp
    rw[mW,h1,h2,show ez 0=1 from rfl];omega) (by simpa using a8) ba (λj u hu=>by
    rw[rJ bb]at hu;rw[mt]at hu;split at hu
    ·rename_i hj;cases hu;rw[<-nR,Array.toList_append,oQ (by rw[vz J];simpa using hj),vz J,mt,if_pos hj]
    ·cases hu) (w2:=w.drew) rfl (dst:=dst) aa
  simp only[mU]at O;exact⟨_,_,_,_,ah,hK _,O,_,_,rfl⟩
def xH (s:aG):aM:=s.data.toList.map λb=>.lit (.int .u8 b.toNat)
theorem SK s:(yM (xH s)).map D.cv=byteCells s:=by rw[rJ λx I=>by obtain⟨_,_,rfl⟩:=oT.1 I;trivial];simp[xH,byteCells,D.cv]
theorem rE s:(xH s).length=s.size:=by rw[<-byteCells_length s];simp[xH,byteCells]
def UP (P : Program) (st:St) (dst:Option Nat) (t t':aK) (x y:Operand) (K:St->Prop):Prop:=
 match P.underlying t,P.underlying t' with
 | some (.slice el),some .string=>match kz P el,P.info? el with
   | some 0,some i=>if i.bytes=0\/zOk P el 0=false then False else
     match retag P t (opd st.sl x),opd st.sl y with
     | .sb k I lo n c,.str s=>match pinned st k with
       | true=>False
       | false=>match st.bx[k]? with
         | some (.arr t1 z' es J)=>if I=0/\z'=0/\lo=0/\t1=el then
          (n=es.length/\c=J)/\zB es (xH s) i.bytes/\∀ c2,K (St.put { st.kill k with bx:=(st.kill k).bx.set k (.arr el 0 (es++xH s) c2) } dst (.sb k 0 0 (es++xH s).length c2))else False
         | _=>False
     | _,_=>False
   | _,_=>False
 | _,_=>False
theorem PH (h:Rel av w0 e0 pS pB a w e st){dst t t' ty x y K}(U:∀ i,x=.tmp i->i∉pS)(hy:∀ i,y=.tmp i->i∉pS)(Y:∀ i,i∈pS->some i≠dst->i∈pS')(hs:UP P st dst t t' x y K) :
  ∃ v w' e' st',(Builtin.append_ #[t,t'] ty #[a.eval x,a.eval y]).run P w=.ok v w'/\K st'/\Rel av w0 e0 pS' pB (a.put dst v) w' e' st' /\
    ∃ k z lo n c B q,retag P t (opd st.sl x)=.sb k z lo n c/\(∃ t1 z1 es c1,st.bx[k]?=some (.arr t1 z1 es c1))/\st'=St.put { st.kill k with bx:=(st.kill k).bx.set k B } dst q:=by
 unfold UP at hs;split at hs
 rotate_left
 ·exact hs.elim
 rename_i el aa ab;split at hs
 rotate_left
 ·exact hs.elim
 rename_i i hz hi;split at hs
 ·exact hs.elim
 rename_i I;have ac:i.bytes≠0:=λhc=>I (.inl hc);have ae:zOk P el 0=true:=by
  cases hh:zOk P el 0 with
  | true=>rfl
  | false=>exact absurd (.inr hh) I
 obtain⟨i',zv,J,ah,ai⟩:=Qs ae;rw[hi]at J
 have:=oZ J
 subst this;have O:i.size=ez 0:=by obtain⟨i',h1,h2⟩:=EH hz;rw[hi]at h1;cases h1;exact h2
 have oy:=(vn h hy).valOk;have ox:=(vn h U).valOk.retag (P:=P) t;generalize a.eval y=vy at oy ⊢;generalize a.eval x=vx at ox ⊢;split at hs
 rotate_left
 ·exact hs.elim
 rename_i k z1 lo n c s hq hp;split at hs
 ·exact hs.elim
 rename_i aj;split at hs
 rotate_left
 ·exact hs.elim
 rename_i t1 z' es c' hk;split at hs
 rotate_left
 ·exact hs.elim
 rename_i hc;obtain⟨rfl,rfl,rfl,rfl⟩:=hc;obtain⟨⟨rfl,rfl⟩,ak,hK⟩:=hs;rw[hq]at ox;rw[hp]at oy;have al:vy=.string s:=by have:=oy.1.resolve_left aB;simpa [PV.val,PV.val1,PV.cv]using this
 subst al;have hS:Src P i.size t' (.string s) (xH s).length ((yM (xH s)).map D.cv) w:=by rw[O,SK,rE];exact Src.ofString w ab s
 obtain⟨v,w',e',c2,g1,g2,g3⟩:=Gc h (ty:=ty) aa hi ah ai O ac ox aj hk (λx U=>by obtain⟨_,_,rfl⟩:=oT.1 U;exact⟨by simp[eOk,D.isCell];rfl,Good.lit⟩) hS ak Y;exact⟨v,w',e',_,g1,hK c2,g3,_,_,_,_,_,_,_,hq,⟨_,_,_,_,hk⟩,rfl⟩
def zBk:PV->Option Nat
 | .sv _ _ _ c=>some c
 | .sb _ _ _ _ c=>some c
 | _=>none
end Go.Proofs.YtlaniepnglheoaaGreatDoor
namespace Go.Proofs.YtlaniepnglheoaaGreatDoor
open Go
inductive Sh where
 | int (k:IntKind)
 | bool
 | str
 | sl (z:Nat)
 | ag (n:Nat)
 | row (t:aK) (z:Nat)
 | pk
 | dc
 | bk (j:Nat)
 | cu
def QT:List Sh->Type
 | []=>Nat->Prop
 | .int _::l=>Int->QT l
 | .bool::l=>Bool->QT l
 | .str::l=>aG->QT l
 | .sl _::l=>aH->aM->Nat->QT l
 | .ag _::l=>D->QT l
 | .row _ _::l=>aM->Nat->QT l
 | .pk::l=>QT l
 | .dc::l=>D->QT l
 | .bk j::l=>D->QT l
 | .cu::l=>aH->aM->Nat->Int->Int->QT l
def Ww:List Sh->Bool
 | []=>true
 | .ag _::_=>false
 | .pk::_=>false
 | .cu::_=>false
 | _::l=>Ww l
def FS:List Sh->Bool
 | .pk::_=>true
 | _=>false
def QT.app:(l:List Sh)->QT l->Nat->aN->aO->Nat->Prop
 | .pk::l,Q,b,ps,rows,N=>Ww l=true/\QT.app l Q b ps rows N
 | [],Q,_,[],[],N=>Q N
 | .int k::l,Q,b,.int J n::ps,rows,N=>k=J/\QT.app l (Q n) b ps rows N
 | .bool::l,Q,b,.bool v::ps,rows,N=>QT.app l (Q v) b ps rows N
 | .str::l,Q,b,.str v::ps,rows,N=>QT.app l (Q v) b ps rows N
 | .sl z::l,Q,b,.sv a z' es c::ps,rows,N=>z=z'/\QT.app l (Q a es c) b ps rows N
 | .ag n::l,Q,b,.dg n' x::ps,rows,N=>n=n'/\QT.app l (Q x) b ps rows N
 | .dc::l,Q,b,.dc x::ps,rows,N=>QT.app l (Q x) b ps rows N
 | .bk j::l,Q,b,.dc x::ps,rows,N=>QT.app l (Q x) b ps rows N
 | .row t z::l,Q,b,.sb k z' lo n c::ps,.arr t' I es O::rows,N=>(k=b/\z'=z/\lo=0/\n=es.length/\c=O/\t'=t/\I=z)/\QT.app l (Q es c) (b+1) ps rows N
 | .cu::l,Q,b,p::ps,B::rows,N=>∃ a es c n m,p=.pb b 0 0 0/\B=.var [.sv a 0 es c,.int .i64 n,.int .i64 m]/\QT.app l (Q a es c n m) (b+1) ps rows N
 | _,_,_,_,_,_=>False
def QT.lam:(l:List Sh)->Nat->(aN->aO->Nat->Prop)->QT l
 | [],_,K=>λN=>K [] [] N
 | .int k::l,b,K=>λn=>QT.lam l b λps rows N=>K (.int k n::ps) rows N
 | .bool::l,b,K=>λv=>QT.lam l b λps rows N=>K (.bool v::ps) rows N
 | .str::l,b,K=>λv=>QT.lam l b λps rows N=>K (.str v::ps) rows N
 | .sl z::l,b,K=>λa es c=>QT.lam l b λps rows N=>K (.sv a z es c::ps) rows N
 | .ag n::l,b,K=>λx=>QT.lam l b λps rows N=>K (.dg n x::ps) rows N
 | .row t z::l,b,K=>λes c=>QT.lam l (b+1) λps rows N=>K (.sb b z 0 es.length c::ps) (.arr t z es c::rows) N
 | .pk::l,b,K=>QT.lam l b K
 | .dc::l,b,K=>λx=>QT.lam l b λps rows N=>K (.dc x::ps) rows N
 | .bk j::l,b,K=>λx=>QT.lam l b λps rows N=>K (.dc x::ps) rows N
 | .cu::l,b,K=>λa es c n m=>QT.lam l (b+1) λps rows N=>K (.pb b 0 0 0::ps) (.var [.sv a 0 es c,.int .i64 n,.int .i64 m]::rows) N
def PV.shift (b:Nat):PV->PV
 | .sb k z lo n c=>.sb (b+k) z lo n c
 | .pb k z i o=>.pb (b+k) z i o
 | p=>p
theorem QT.app_lam:∀(l:List Sh)(d b:Nat)(K:aN->aO->Nat->Prop)(ps:aN)(rows:aO)(N:Nat),QT.app l (QT.lam l (d+b) K) b ps rows N->K (ps.map (PV.shift d)) rows N:=by
 intro l
 induction l with
 | nil=>
   intro d b K ps rows N h;cases ps<;>cases rows<;>simp[QT.app]at h
   exact h
 | cons s l I=>
   intro d b K ps rows N h;cases s with
   | pk=>exact I d b K ps rows N h.2
   | row t z=>
     rcases ps with _ | ⟨p,ps⟩<;>rcases rows with _ | ⟨B,rows⟩<;>try(simp[QT.app]at h;done)
     cases p<;>cases B<;>simp[QT.app]at h
     obtain⟨⟨rfl,rfl,rfl,rfl,rfl,rfl,rfl⟩,h⟩:=h;exact I d (_+1) (λps rows N=>K (.sb _ _ 0 _ _::ps) (.arr _ _ _ _::rows) N) ps rows N h
   | cu=>
     rcases ps with _ | ⟨p,ps⟩<;>rcases rows with _ | ⟨B,rows⟩<;>try(simp[QT.app]at h;done)
     obtain⟨a,es,c,n,m,rfl,rfl,h⟩:=h;exact I d (b+1) (λps rows N=>K (.pb _ 0 0 0::ps) (.var _::rows) N) ps rows N h
   | _=>
     rcases ps with _ | ⟨p,ps⟩
     ·simp[QT.app]at h
     cases p<;>simp[QT.app]at h<;>first | exact I d b _ ps rows N h | (obtain⟨rfl,h⟩:=h;exact I d b _ ps rows N h)
def Bx.row (B:Bx):Prop:=match B with
 | .arr _ _ _ _=>True
 | B=>∃ a es c n m,B=.var [.sv a 0 es c,.int .i64 n,.int .i64 m]
theorem Bx.row.sp {B:Bx}(h:B.row):B≠.gone/\B.refs=[]:=by
 cases B with
 | arr t z es c=>exact⟨aB,rfl⟩
 | _=>obtain⟨_,_,_,_,_,h⟩:=h;cases h<;>exact⟨aB,rfl⟩
def Bx.offB (b:Nat):Bx->Prop
 | .arr _ _ es _=>b∉zC es
 | _=>False
theorem QT.app_rows:∀(l:List Sh) (Q:QT l) (b:Nat) (ps:aN) (rows:aO) (N:Nat),QT.app l Q b ps rows N ->
  (∀ B∈rows,B.row)/\(∀ p∈ps,p≠.any/\(∀ l,p≠.tp l)/\∀ k∈p.refs,k<b+rows.length):=by
 intro l
 induction l with
 | nil=>intro Q b ps rows N h;cases ps<;>cases rows<;>simp[QT.app]at h ⊢
 | cons s l J=>
   intro Q b ps rows N h;have I:∀(p:PV) (B:Bx) (ps:aN) (rows:aO) (Q:QT l),QT.app l Q (b+1) ps rows N->B.row->p≠.any->(∀ l,p≠.tp l)->(∀ k∈p.refs,k=b)->(∀ B'∈B::rows,B'.row)/\(∀ q∈p::ps,q≠.any/\(∀ l,q≠.tp l)/\∀ k∈q.refs,k<b+(B::rows).length):=λp B ps rows Q h hB O U h3=>by
    obtain⟨g1,g2⟩:=J Q _ ps rows N h;refine⟨λB' hB'=>?_,λq hq=>?_⟩
    ·rcases oK.1 hB' with rfl | hB'
     ·exact hB
     ·exact g1 _ hB'
    ·rcases oK.1 hq with rfl | hq
     ·exact⟨O,U,λk Y=>by have:=h3 k Y;simp;omega⟩
     ·obtain⟨i1,i2,i3⟩:=g2 q hq;exact⟨i1,i2,λk Y=>by have:=i3 k Y;simp;omega⟩
   cases s with
   | pk=>exact J Q b ps rows N h.2
   | row t z=>
     rcases ps with _ | ⟨p,ps⟩<;>rcases rows with _ | ⟨B,rows⟩<;>try(simp[QT.app]at h;done)
     cases p<;>cases B<;>simp[QT.app]at h
     obtain⟨⟨rfl,_⟩,h⟩:=h;exact I _ _ _ _ _ h trivial aB aB (by simp[PV.refs])
   | cu=>
     rcases ps with _ | ⟨p,ps⟩<;>rcases rows with _ | ⟨B,rows⟩<;>try(simp[QT.app]at h;done)
     obtain⟨a,es,c,n,m,rfl,rfl,h⟩:=h;exact I _ _ _ _ _ h ⟨_,_,_,_,_,rfl⟩ aB aB (by simp[PV.refs])
   | _=>
     rcases ps with _ | ⟨p,ps⟩
     ·simp[QT.app]at h
     cases p<;>simp[QT.app]at h
     all_goals
      first | replace h:=h.2 | skip
      obtain⟨O,U⟩:=J _ b ps rows N h;exact⟨O,λq hq=>by rcases oK.1 hq with rfl | hq;exact⟨aB,aB,by simp[PV.refs]⟩;exact U q hq⟩
def xt (P:Program)(f:aL):Bool:=
 match P.funcs[f]? with
 | some fn => fn.name != "runtime.NumGoroutine" && fn.body.isSome
 | none=>false
def T7 (e:Env):aN->Value
 | [p]=>p.val1 e
 | ps=>.tuple (ps.map (PV.val1 e)).toArray
def Rg (pk:Bool)(e:Env)(ps:aN):Value:=match pk with
 | true=>.agg (PV.cvs e ps).toArray
 | false=>T7 e ps
theorem QT.app_cells:∀(l:List Sh)(Q:QT l)(b:Nat)(ps:aN)(rows:aO)(N:Nat),Ww l=true->QT.app l Q b ps rows N->∀ p∈ps,p.isC:=by
 intro l
 induction l with
 | nil=>intro Q b ps rows N hc h;cases ps<;>cases rows<;>simp[QT.app]at h ⊢
 | cons s l I=>
   intro Q b ps rows N hc h;cases s with
   | pk=>simp[Ww]at hc
   | ag n=>simp[Ww]at hc
   | cu=>simp[Ww]at hc
   | row t z=>
     rcases ps with _ | ⟨p,ps⟩<;>rcases rows with _ | ⟨B,rows⟩<;>try(simp[QT.app]at h;done)
     cases p<;>cases B<;>simp[QT.app]at h
     have I:=I _ _ ps rows N hc h.2;intro q hq;rcases oK.1 hq with rfl | hq
     ·trivial
     ·exact I q hq
   | _=>
     rcases ps with _ | ⟨p,ps⟩
     ·simp[QT.app]at h
     cases p<;>simp[QT.app]at h
     all_goals
      first | replace h:=h.2 | skip
      intro q hq;rcases oK.1 hq with rfl | hq
      ·trivial
      ·exact I _ b ps rows N hc h q hq
structure Done (rs:List Sh) (Q:QT rs) (av:Nat->Prop) (w0:World) (v:Value) (w:World) (ps:aN) (rows:aO) (e:Env):Prop where
 q:QT.app rs Q 0 ps rows w.heap.size
 v:v=Rg (FS rs) e ps
 m:Mem av [] w e rows
 ok:∀ p∈ps,p.Ok w (za av [] e rows)
 fresh:∀(k b:Nat),e.at k=some b->w0.heap.size<=b
 size:w0.heap.size<=w.heap.size
 old:∀ b,b<w0.heap.size->w.heap[b]?=w0.heap[b]?
 fz:∀(b:Nat) (c:Array Value) (t:aK) (z:Nat × Nat),w0.heap.size<=b->w.heap[b]?=some (.cells c t z)->Fz z
 ku:KU w0 w
def Fin (rs:List Sh)(Q:QT rs)(av:Nat->Prop)(w0:World):Ending->World->Prop
 | .returned v,w=>∃ ps rows e,Done rs Q av w0 v w ps rows e
 | _,_=>False
structure ACalls (P:Program) (f:aL) (rs:List Sh) (args:aN) (N:Nat) (Q:QT rs):Prop where
 c:xt P f=true
 h : ∀(av:Nat->Prop) (w0:World),w0.heap.size=N->Avl av w0 []->(∀ p∈args,p.Ok w0 av/\p.refs=[]) ->
   Calls P f (args.map (PV.val [])).toArray w0 (Fin rs Q av w0)
variable {av:Nat->Prop} {P:Program} {w0 w w':World} {e0 e:Env} {pS pS' pB pB':aI} {a:Act} {st st':St}
def Z2 (st:St)(k:Nat):Bool:=match st.bx[k]? with
 | some (.arr ..)=>true
 | _=>false
def C2 (bx:aO):Nat->aI->aI->aI
 | 0,_,I=>I
 | _+1,[],I=>I
 | n+1,k::J,I=>match I.contains k with
   | true=>C2 bx n J I
   | false=>C2 bx n (J++(bx.getD k .gone).refs) (I++[k])
theorem tl {bx}:∀(n:Nat)(J I:aI),I.Nodup->(C2 bx n J I).Nodup
 | 0,_,I,h=>h
 | _+1,[],I,h=>h
 | n+1,k::J,I,h=>by
   simp only[C2];split
   ·exact tl n J I h
   ·rename_i Y;refine tl n _ _ ?_;rw[nV];refine⟨h,aB,λx hx y U O=>?_⟩;simp at U;subst U;subst O;simp[hx]at Y
theorem C3 {bx}{A:Nat->Prop}(U:∀ k,A k->∀ j∈(bx.getD k .gone).refs,A j):∀(n:Nat)(J I:aI),(∀ k∈J,A k)->(∀ k∈I,A k)->∀ k∈C2 bx n J I,A k
 | 0,_,I,_,h=>h
 | _+1,[],I,_,h=>h
 | n + 1,k::J,I,O,Y=>by
   simp only[C2];split
   ·exact C3 U n J I (λj hj=>O j (by simp[hj])) Y
   ·refine C3 U n _ _ (λj hj=>?_) λj hj=>?_
    ·rcases oM.1 hj with hj | hj
     ·exact O j (by simp[hj])
     ·exact U k (O k aB) j hj
    ·rcases oM.1 hj with hj | hj
     ·exact Y j hj
     ·simp at hj;subst hj;exact O j aB
def pos:aI->Nat->Option Nat
 | [],_=>none
 | x :: xs,k=>match decide (x=k)with
   | true=>some 0
   | false=>match pos xs k with
     | some j=>some (j+1)
     | none=>none
theorem Ai:∀ {ks:aI}{k j:Nat},pos ks k=some j->ks[j]?=some k
 | [],k,j,h=>by simp[pos]at h
 | x::xs,k,j,h=>by
   simp only[pos]at h;split at h
   ·rename_i I;simp at I h;subst I;subst h;rfl
   ·split at h
    ·rename_i i hi;simp at h;subst h;simpa using Ai hi
    ·cases h
mutual
def PV.ren (ks:aI):PV->Option PV
 | .pb k z i o=>match pos ks k with
   | some j=>some (.pb j z i o)
   | none=>none
 | .sb k z lo n c=>match pos ks k with
   | some j=>some (.sb j z lo n c)
   | none=>none
 | .fn f caps=>match PV.renL ks caps with
   | some l=>some (.fn f l)
   | none=>none
 | .pg cs=>match PV.renL ks cs with
   | some l=>some (.pg l)
   | none=>none
 | .tp cs=>match PV.renL ks cs with
   | some l=>some (.tp l)
   | none=>none
 | p=>some p
def PV.renL (ks:aI):aN->Option (aN)
 | []=>some []
 | p::ps=>match PV.ren ks p,PV.renL ks ps with
   | some q,some qs=>some (q::qs)
   | _,_=>none
end
structure Ren (ks:aI) (e e':Env) (p q:PV):Prop where
 cv:p.cv e=q.cv e'
 v1:p.val1 e=q.val1 e'
 ok:∀ w live,p.Ok w live->q.Ok w live
 rf:∀ j∈q.refs,j<ks.length
 ic:p.isC->q.isC
 an:p=.any↔q=.any
structure RenL (ks:aI) (e e':Env) (ps qs:aN):Prop where
 cv:PV.cvs e ps=PV.cvs e' qs
 v1:ps.map (PV.val1 e)=qs.map (PV.val1 e')
 ok:∀ w live,PV.OkL w live ps->PV.OkL w live qs
 rf:∀ j∈PV.refsL qs,j<ks.length
 ic:(∀ p∈ps,p.isC)->∀ q∈qs,q.isC
def Ay (e:Env)(ks:aI):Env:=ks.map e.at
theorem Sw {ks k j}(h:pos ks k=some j):(Ay e ks).at j=e.at k:=by
 have:=Ai h
 simp[Ay,Env.at,oA,this]
theorem Wz {ks k j}(h:pos ks k=some j):j<ks.length:=(oD.1 (Ai h)).1
mutual
theorem wo {ks}:∀ {p q:PV},p.ren ks=some q->Ren ks e (Ay e ks) p q
 | .pb k z i o,q,h=>by
   simp only[PV.ren]at h
   split at h
   ·rename_i j hj
    simp at h;subst h
    have J:(PV.pb k z i o).cv e=(PV.pb j z i o).cv (Ay e ks):=by simp[PV.cv,Sw hj]
    exact⟨J,J,λ_ _=>id,by simp[PV.refs];exact Wz hj,id,aB⟩
   ·cases h
 | .sb k z lo n c,q,h=>by
   simp only[PV.ren]at h
   split at h
   ·rename_i j hj
    simp at h;subst h
    have J:(PV.sb k z lo n c).cv e=(PV.sb j z lo n c).cv (Ay e ks):=by simp[PV.cv,Sw hj]
    exact⟨J,J,λ_ _=>id,by simp[PV.refs];exact Wz hj,id,aB⟩
   ·cases h
 | .fn f caps,q,h=>by
   simp only[PV.ren]at h
   split at h
   ·rename_i l hl
    simp at h;subst h
    have:=AE hl
    have J:(PV.fn f caps).cv e=(PV.fn f l).cv (Ay e ks):=by simp only[PV.cv,this.cv]
    exact⟨J,J,λw live I=>by simp only[PV.Ok]at I ⊢;exact this.ok w live I,by simp only[PV.refs];exact this.rf,id,aB⟩
   ·cases h
 | .pg cs,q,h=>by
   simp only[PV.ren]at h
   split at h
   ·rename_i l hl
    simp at h;subst h
    have:=AE hl
    exact⟨rfl,by simp only[PV.val1,this.cv],λw live I=>by simp only[PV.Ok]at I ⊢;exact⟨this.ok w live I.1,this.ic I.2⟩,by simp only[PV.refs];exact this.rf,id,aB⟩
   ·cases h
 | .tp cs,q,h=>by
   simp only[PV.ren]at h
   split at h
   ·rename_i l hl
    simp at h;subst h
    have:=AE hl
    exact⟨rfl,rfl,λw live I=>by simp only[PV.Ok]at I ⊢;exact this.ok w live I,by simp only[PV.refs];exact this.rf,id,aB⟩
   ·cases h
 | .any,q,h=>by simp[PV.ren]at h;subst h;exact⟨rfl,rfl,λ_ _=>id,by simp[PV.refs],id,aB⟩
 | .int ..,q,h=>by simp[PV.ren]at h;subst h;exact⟨rfl,rfl,λ_ _=>id,by simp[PV.refs],id,aB⟩
 | .bool ..,q,h=>by simp[PV.ren]at h;subst h;exact⟨rfl,rfl,λ_ _=>id,by simp[PV.refs],id,aB⟩
 | .str ..,q,h=>by simp[PV.ren]at h;subst h;exact⟨rfl,rfl,λ_ _=>id,by simp[PV.refs],id,aB⟩
 | .lit ..,q,h=>by simp[PV.ren]at h;subst h;exact⟨rfl,rfl,λ_ _=>id,by simp[PV.refs],id,aB⟩
 | .sv ..,q,h=>by simp[PV.ren]at h;subst h;exact⟨rfl,rfl,λ_ _=>id,by simp[PV.refs],id,aB⟩
 | .d ..,q,h=>by simp[PV.ren]at h;subst h;exact⟨rfl,rfl,λ_ _=>id,by simp[PV.refs],id,aB⟩
 | .dc ..,q,h=>by simp[PV.ren]at h;subst h;exact⟨rfl,rfl,λ_ _=>id,by simp[PV.refs],id,aB⟩
 | .dg ..,q,h=>by simp[PV.ren]at h;subst h;exact⟨rfl,rfl,λ_ _=>id,by simp[PV.refs],id,aB⟩
 | .pd ..,q,h=>by simp[PV.ren]at h;subst h;exact⟨rfl,rfl,λ_ _=>id,by simp[PV.refs],id,aB⟩
theorem AE {ks}:∀ {ps qs:aN},PV.renL ks ps=some qs->RenL ks e (Ay e ks) ps qs
 | [],qs,h=>by simp[PV.renL]at h;subst h;exact⟨rfl,rfl,λ_ _=>id,by simp[PV.refsL],λ_=>aB⟩
 | p :: ps,qs,h=>by
   simp only[PV.renL]at h
   split at h
   ·rename_i q l Y hl
    simp at h;subst h
    have O:=wo Y
    have U:=AE hl
    refine⟨by simp[PV.cvs,O.cv,U.cv],by simp[O.v1,U.v1],λw live I=>⟨O.ok w live I.1,U.ok w live I.2⟩,λj hj=>?_,λhc r hr=>?_⟩
    ·simp only[PV.refsL]at hj
     rcases oM.1 hj with hj | hj
     ·exact O.rf j hj
     ·exact U.rf j hj
    ·rcases oK.1 hr with rfl | hr
     ·exact O.ic (hc p aB)
     ·exact U.ic (λx hx=>hc x (by simp[hx])) r hr
   ·cases h
end
theorem T6 {ks}{p q:PV}(h:p.ren ks=some q):p.val e=q.val (Ay e ks):=by
 have J:=wo (e:=e) h;cases p
 case tp cs=>
  simp only[PV.ren]at h;split at h
  ·rename_i l hl;simp at h;subst h;simp only[PV.val,(AE (e:=e) hl).v1]
  ·cases h
 all_goals
  have I:=J.v1;simp only[PV.ren]at h
  first
   | (simp at h;subst h;exact I)
   | (split at h
      ·simp at h;subst h;exact I
      ·cases h)
def Ui (ks:aI)(p:PV):PV:=match PV.ren ks p with
 | some q=>q
 | none=>.any
def Bx.ren (ks:aI):Bx->Bx
 | .var cs=>.var (cs.map (Ui ks))
 | B=>B
def qr:PV->Option PV
 | .pg cs=>match LO cs with
   | some ds=>some (.dg cs.length (.ag ds))
   | none=>none
 | .int k n=>some (.int k n)
 | .bool v=>some (.bool v)
 | .str v=>some (.str v)
 | .lit x=>some (.lit x)
 | .sv a z es c=>some (.sv a z es c)
 | .dg n x=>some (.dg n x)
 | .dc x=>some (.dc x)
 | .pd ad z x=>some (.pd ad z x)
 | _=>none
def VE (B:Bx):Option (Nat × D):=
 match B with
 | .var cs=>match cs with
   | [p]=>match Aq p with
     | some d=>some (0,d)
     | none=>none
   | cs=>match cs.length,LO cs with
     | z+1,some ds=>some (z+1,.ag ds)
     | _,_=>none
 | .vd x n=>match n with
   | 0=>none
   | z+1=>some (z+1,x)
 | _=>none
def ApA (a:aH)(es:aM):Prop:=∀ ad,a=some ad->∀ d∈es,ad.block∉d.foot
def Off (bs:List (aH))(d:D):Prop:=∀ a∈bs,∀ ad,a=some ad->ad.block∉d.foot
def Wu (a:aH):aN->Prop->Prop
 | [],K=>K
 | .sv I z es c::ps,K=>Off [a] (.sl I z es c)->Wu a ps K
 | .dg _ x::ps,K=>Off [a] x->Wu a ps K
 | _::ps,K=>Wu a ps K
def Jj (st:St) (I:aN):aN->(aM->List (aH)->Prop)->Prop
 | [],K=>K [] []
 | p :: ps,K=>match p with
   | .sb k z lo n c=>match st.bx[k]? with
     | some (.arr _ z' es J)=>match decide (z=z'/\lo=0)with
       | true=>(n=es.length/\c=J)/\∀ a,ApA a es->Wu a I (Jj st I ps λds bs=>K (.sl a z es c::ds) (a::bs))
       | false=>False
     | _=>False
   | p=>match Aq p with
     | some d=>Jj st I ps λds bs=>K (d::ds) bs
     | none=>False
mutual
def MP (st:St) (I:aN):PV->(PV->List (aH)->Prop)->Prop
 | .sb k z lo n c,K=>match st.bx[k]? with
   | some (.arr _ z' es J)=>match decide (z=z'/\lo=0)with
     | true=>(n=es.length/\c=J)/\∀ a,ApA a es->Wu a I (K (.sv a z es c) [a])
     | false=>False
   | _=>False
 | .pb k z i o,K=>match st.bx[k]? with
   | some B=>match decide (i=0/\o=0),VE B with
     | true,some (z,x)=>∀ ad:Addr,ApA (some ad) [x]->Wu (some ad) I (K (.pd ad z x) [some ad])
     | _,_=>False
   | none=>False
 | .fn f caps,K=>match caps.all PV.isCap with
   | true=>R8 st I caps λcs bs=>K (.fn f cs) bs
   | false=>False
 | .pg cs,K=>match LO cs with
   | some ds=>K (.dg cs.length (.ag ds)) []
   | none=>Jj st I cs λds bs=>K (.dg cs.length (.ag ds)) bs
 | p,K=>match qr p with
   | some q=>K q []
   | none=>False
def R8 (st:St) (I:aN):aN->(aN->List (aH)->Prop)->Prop
 | [],K=>K [] []
 | p::ps,K=>MP st I p λq b1=>R8 st I ps λqs b2=>K (q::qs) (b1++b2)
end
def X3 (p:PV):Option (aL × aN):=match p with
 | .fn f caps=>some (f,caps)
 | .dc (.fn f caps)=>some (f,RA caps)
 | _=>none
def Wv (bs:List (aH)):aN->Prop->Prop
 | [],K=>K
 | .sv a z es c::ps,K=>Off bs (.sl a z es c)/\Wv bs ps K
 | .dg _ x::ps,K=>Off bs x/\Wv bs ps K
 | .dc x::ps,K=>Off bs x/\Wv bs ps K
 | _::ps,K=>Wv bs ps K
def zAi (bs:List (aH)):aO->Prop->Prop
 | [],K=>K
 | .arr _ _ es _::rs,K=>Off bs (.ag es)/\zAi bs rs K
 | _::_,_=>False
def zBL (bs:List (aH))(ps:aN)(rows:aO)(K:Prop):Prop:=
 match bs with
 | []=>K
 | b::bs=>Wv (b::bs) ps (zAi (b::bs) rows K)
def Bel N(d:D):=∀ b∈d.foot,b<N
def U1 (N:Nat):aN->Prop->Prop
 | [],K=>K
 | .sv a z es c::ps,K=>Bel N (.sl a z es c)->U1 N ps K
 | .dg _ x::ps,K=>Bel N x->U1 N ps K
 | _::ps,K=>U1 N ps K
def Y8 (N:Nat):aO->Prop->Prop
 | [],K=>K
 | .arr _ _ es _::rs,K=>Bel N (.ag es)->Y8 N rs K
 | _::rs,K=>Y8 N rs K
def Na:aN->PV
 | [p]=>p
 | ps=>.tp ps
def Iv (pk:Bool)(ps:aN):PV:=match pk with
 | true=>.pg ps
 | false=>Na ps
def xj N(bs:List (aH)):=∀ a∈bs,∀ ad,a=some ad->ad.block<N
def zAx (N:Nat)(bs:List (aH))(K:Prop):Prop:=match bs with
 | []=>K
 | _=>xj N bs->K
def bkP (as I:aN):List Sh->aN->(aN->Prop)->Prop
 | [],ps,K=>K ps
 | s :: l,ps,K=>match s with
   | .pk=>bkP as I l ps K
   | .bk j=>match ps with
     | []=>K []
     | p::ps=>match p,as[j]?,I[j]? with
       | .dc x,some (.sv a z es c),some (.sb k z' lo n J)=>x=.sl a z es c/\bkP as I l ps λqs=>K (.sb k z' lo n J::qs)
       | _,_,_=>bkP as I l ps λqs=>K (p::qs)
   | _=>match ps with
     | []=>K []
     | p::ps=>bkP as I l ps λqs=>K (p::qs)
def Xk (P:Program)(sh:aL->List Sh)(st:St)(dst:Option Nat)(x:Operand)(args:aN)(K:St->Prop):Prop:=
 match X3 (opd st.sl x)with
 | some (f,caps)=>match caps.all PV.isCap with
   | true=>R8 st (args++caps) (args++caps) λas bs=>∀ N1,st.N<=N1->zAx N1 bs (ACalls P f (sh f) as N1 (QT.lam (sh f) st.bx.length λps rows N2=>N1<=N2->bkP as (args++caps) (sh f) ps λps=>
     zBL bs ps rows (U1 N2 ps (Y8 N2 rows (K (St.put { st with bx:=st.bx++rows,N:=N2 } dst (Iv (FS (sh f)) ps)))))))
   | false=>False
 | none=>False
variable [Dfs] {av:Nat->Prop} {P:Program} {w0 w w':World} {e0 e:Env} {pS pS' pB:aI} {a:Act} {st st':St}
theorem Env.at_app {e e' k}:Env.at (e++e') k=if k<e.length then e.at k else e'.at (k - e.length):=by simp only[Env.at,oA,m7];split<;>rfl
theorem Good.lt {w live d}(h:Good w live d):∀ b∈d.foot,b<w.heap.size:=h.1.lt
theorem Yc (h:Rel av w0 e0 pS pB a w e st)(aw:∀ k∈pB,k<st.bx.length){av'}{bb:aI}(al:∀ b,za av pB e st.bx b->av' b\/b∈bb){e' rows}(ak:w.heap.size<=w'.heap.size)(hold:∀ b,b<w.heap.size->w'.heap[b]?=w.heap[b]?)(hm:Mem av' [] w' e' rows)(ai:∀ B∈rows,B.row)(ac:∀(k b:Nat),e'.at k=some b->w.heap.size<=b)(ao:∀ b∈bb,∀ B∈rows,B.offB b)(aq:∀(b:Nat) (c:Array Value) (t:aK) (z:Nat × Nat),w.heap.size<=b->w'.heap[b]?=some (.cells c t z)->Fz z)(au:KU w w') :
  Rel av w0 e0 pS pB a w' (e++e') { st with bx:=st.bx++rows,N:=w'.heap.size } /\
  ∀ d:D,Good w' (za av' [] e' rows) d->(∀ b∈bb,b∉d.foot)->Good w' (za av pB (e++e') (st.bx++rows)) d:=by
 have U:∀ k,k<st.bx.length->Env.at (e++e') k=e.at k:=λk J=>by rw[Env.at_app,if_pos (by rw[h.el];exact J)]
 have aj:∀ k,Env.at (e++e') (st.bx.length+k)=e'.at k:=λk=>by rw[Env.at_app,if_neg (by rw[h.el];omega)];congr 1;rw[h.el];omega
 have I:∀ k b,Lives pB (e++e') (st.bx++rows) k b->Lives pB e st.bx k b\/∃ j,k=st.bx.length+j/\e'.at j=some b/\∃ B,rows[j]?=some B:=λk b ⟨h1,h2,B,h3,h4⟩=>by
  by_cases J:k<st.bx.length
  ·rw[U k J]at h2;rw[oQ J]at h3;exact .inl ⟨h1,h2,B,h3,h4⟩
  ·obtain⟨j,rfl⟩:∃ j,k=st.bx.length+j:=⟨k - st.bx.length,aA⟩
   rw[aj]at h2;rw[oU aA]at h3;rw[show st.bx.length+j - st.bx.length=j by omega]at h3;exact .inr ⟨j,rfl,h2,B,h3⟩
 have ae:∀ b,b<w.heap.size->za av pB (e++e') (st.bx++rows) b->za av pB e st.bx b:=λb hb hl=>hl.elim .inl λ⟨k,J⟩=>by
  rcases I k b J with h1 | ⟨j,_,h1,_⟩
  ·exact .inr ⟨k,h1⟩
  ·have:=ac j b h1;omega
 have O:∀(j:Nat) (B:Bx),rows[j]?=some B->B≠.gone/\B.refs=[]:=λj B hj=>(ai B (oB hj)).sp;have aa:∀ d:D,Good w' (za av' [] e' rows) d->(∀ b∈bb,b∉d.foot)->Good w' (za av pB (e++e') (st.bx++rows)) d:=λd hd hb=>by
  refine⟨hd.1,λb ab hl=>?_⟩;rcases hl with hl | ⟨k,J⟩
  ·rcases al b (.inl hl)with h1 | h1
   ·exact hd.2 b ab (.inl h1)
   ·exact hb b h1 ab
  ·rcases I k b J with h1 | ⟨j,_,h1,B,h2⟩
   ·rcases al b (.inr ⟨k,h1⟩)with h1 | h1
    ·exact hd.2 b ab (.inl h1)
    ·exact hb b h1 ab
   ·exact hd.2 b ab (.inr ⟨j,aB,h1,B,h2,(O j B h2).1⟩)
 have ah:∀(k:Nat) (B:Bx),(st.bx++rows)[k]?=some B->(k<st.bx.length/\st.bx[k]?=some B)\/∃ j,k=st.bx.length+j/\rows[j]?=some B:=λk B J=>by
  by_cases Y:k<st.bx.length
  ·rw[oQ Y]at J;exact .inl ⟨Y,J⟩
  ·rw[oU aA]at J;exact .inr ⟨k - st.bx.length,aA,J⟩
 refine⟨?_,aa⟩;exact {
  el:=by simp[h.el,hm.el]
  br:=λk B J hn=>by
   rcases ah k B J with⟨Y,J⟩ | ⟨j,rfl,hj⟩
   ·rw[U k Y];by_cases hg:B=.gone
    ·subst hg;exact True.intro
    ·exact(h.br k B J hn).congr (λb hb=>hold b (Lives.lt h.toMem ⟨hn,hb,B,J,hg⟩)) λi hi=>U i (h.bf k B J hn i hi).2
   ·rw[aj];exact(hm.br j B hj aB).congr (λ_ _=>rfl) λi hi=>by rw[(O j B hj).2]at hi;simp at hi
  bo:=λk B J hn=>by
   rcases ah k B J with⟨Y,J⟩ | ⟨j,rfl,hj⟩
   ·exact(h.bo k B J hn).mono (λb hb _=>hold b hb) ak ae
   ·have hr:=ai B (oB hj);have ho:=λb hb=>ao b hb B (oB hj);have h0:=hm.bo j _ hj aB;cases B with
    | arr t z es c=>exact λx hx=>aa x (h0 x hx) λb hb ab=>ho b hb (zJ.2 ⟨x,hx,ab⟩)
    | _=>obtain⟨_,_,_,_,_,he⟩:=hr;cases he<;>exact⟨⟨aa _ h0.1.1 λb hb=>(ho b hb).elim,h0.1.2⟩,h0.2⟩
  bf:=λk B J hn i hi=>by
   rcases ah k B J with⟨Y,J⟩ | ⟨j,rfl,hj⟩
   ·have:=h.bf k B J hn i hi;exact⟨this.1,aF⟩
   ·rw[(O j B hj).2]at hi;simp at hi
  inj:=λi j b hi hj=>by
   rcases I i b hi with h1 | ⟨i',rfl,h1,B1,g1⟩
   ·rcases I j b hj with h2 | ⟨j',rfl,h2,B2,g2⟩
    ·exact h.inj i j b h1 h2
    ·have:=Lives.lt h.toMem h1;have:=ac j' b h2;omega
   ·rcases I j b hj with h2 | ⟨j',rfl,h2,B2,g2⟩
    ·have:=Lives.lt h.toMem h2;have:=ac i' b h1;omega
    ·rw[hm.inj i' j' b ⟨aB,h1,B1,g1,(O _ _ g1).1⟩ ⟨aB,h2,B2,g2,(O _ _ g2).1⟩]
  ku:=h.ku.trans au
  size:=oR h.size ak
  old:=λb hb hn=>(hold b (o7 hb h.size)).trans (h.old b hb hn)
  fz:=λb c t z hb hc=>by
   by_cases Y:b<w.heap.size
   ·rw[hold b Y]at hc;exact h.fz b c t z hb hc
   ·exact aq b c t z aA hc
  nd:=h.nd
  sz:=h.sz
  hN:=oC _
  hs:=λi p hi hn=>by
   rcases h.hs i p hi hn with h1 | h1
   ·exact .inl h1
   ·exact .inr (h1.trans (PV.val_congr p λk J=>U k (h.sr i p hi hn k J).2).symm)
  so:=λi p hi hn=>PV.Ok.mono (λb hb _=>hold b hb) ak ae p (h.so i p hi hn)
  sr:=λi p hi hn k J=>by have:=h.sr i p hi hn k J;exact⟨this.1,aF⟩
  own:=λk b J=>by
   rcases I k b J with h1 | ⟨j,_,h1,_⟩
   ·exact h.own k b h1
   ·have:=ac j b h1;have:=h.size;exact .inl aA
  avl:=h.avl
  avn:=λk b J=>by
   rcases I k b J with h1 | ⟨j,_,h1,_⟩
   ·exact h.avn k b h1
   ·intro hc;have:=h.avl.lt b hc;have:=ac j b h1;have:=h.size;omega
  pin:=λk b hb=>by
   have:=h.pin k b hb
   have hl:k<st.bx.length:=by rw[<-h.el];exact lT λhc=>by rw[Env.at_ge hc]at this;simp at this
   rw[U k hl];exact this
  pit:=h.pit }
end Go.Proofs.YtlaniepnglheoaaGreatDoor
