/- How a real state that fits an abstract one goes on fitting: a slot is set, a box is made, a box is written. -/
import Derived.Test.YtlaniepnglheoaaGreatDoorJa
import Derived.Deep.AppendSrc
import Derived.Laws.BitsLemmas
set_option linter.unusedVariables false
set_option linter.unusedSimpArgs false
set_option linter.unusedSectionVars false
namespace Go.Proofs.YtlaniepnglheoaaGreatDoor
open Go
def St.put (st:St)(dst:Option Nat)(p:PV):St:=
 match dst with
 | some d=>{ st with sl:=st.sl.set d p }
 | none=>st
variable [Dfs] {av:Nat->Prop} {P:Program} {w0 w w':World} {e0 e:Env} {pS pS' pB:List Nat} {a:Act} {st:St}
theorem BC {w:World}{o:Obj}{b:Nat}(h:b<w.heap.size):(w.alloc o).heap[b]?=w.heap[b]?:=by show(w.heap.push o)[b]?=w.heap[b]?;rw[Array.getElem?_push,if_neg (Nat.ne_of_lt h)]
theorem KM {w:World}{o:Obj}:(w.alloc o).heap[w.heap.size]?=some o:=by show(w.heap.push o)[w.heap.size]?=some o;simp
theorem xm (h:Rel av w0 e0 pS pB a w e st){dst:Option Nat}{v:Value}{p:PV}(hv:ValOk av w e pB st.bx v p)(Y:∀ i,i∈pS->some i≠dst->i∈pS'):Rel av w0 e0 pS' pB (a.put dst v) w e (st.put dst p):=by
 cases dst with
 | none=>exact { h with hs:=λi q hi I=>h.hs i q hi (λhc=>I (Y i hc (by simp))),so:=λi q hi I=>h.so i q hi (λhc=>I (Y i hc (by simp))),sr:=λi q hi I=>h.sr i q hi (λhc=>I (Y i hc (by simp))) }
 | some d=>
   have J:∀ i,i∉pS'->i≠d->i∉pS:=λi I hd hc=>I (Y i hc (by simp[hd]));have U:∀(i:Nat) (q:PV),(st.sl.set d p)[i]?=some q->(i=d/\q=p/\d<st.sl.length)\/(i≠d/\st.sl[i]?=some q):=λi q hi=>by
    rw[nR]at hi;split at hi
    ·rename_i hd;subst hd;split at hi
     ·rename_i O;simp at hi;exact .inl ⟨rfl,hi.symm,O⟩
     ·cases hi
    ·rename_i hd;exact .inr ⟨λhh=>hd hh.symm,hi⟩
   refine { h with nd:=h.nd,sz:=?_,hs:=?_,so:=?_,sr:=?_ }
   ·simp[St.put,Act.put];exact h.sz
   ·intro i q hi I;rcases U i q hi with⟨rfl,rfl,O⟩ | ⟨hd,hi⟩
    ·rcases hv.1 with h1 | h1
     ·exact .inl h1
     ·right;have:i<a.tmps.size:=by have:=h.sz;omega
      simp[Act.put,this,h1]
    ·have:=h.hs i q hi (J i I hd)
     simp only[Act.put];rw[o9,Array.getElem?_setIfInBounds_ne (Ne.symm hd),<-o9];exact this
   ·intro i q hi I;rcases U i q hi with⟨rfl,rfl,O⟩ | ⟨hd,hi⟩
    ·exact hv.2.1
    ·exact h.so i q hi (J i I hd)
   ·intro i q hi I;rcases U i q hi with⟨rfl,rfl,O⟩ | ⟨hd,hi⟩
    ·exact hv.2.2
    ·exact h.sr i q hi (J i I hd)
theorem wW {pB:List Nat}{e:Env}{bx:List Bx}{B:Bx}(hl:e.length=bx.length){k b:Nat}:Lives (bx.length::pB) (e++[none]) (bx++[B]) k b↔Lives (bx.length::pB) e bx k b:=by
 constructor
 ·rintro⟨O,U,B',I,Y⟩
  have hk:k≠bx.length:=λh=>O (by simp[h]);by_cases J:k<bx.length
  ·rw[Env.at_append_lt (by omega)]at U;rw[oQ J]at I;exact⟨O,U,B',I,Y⟩
  ·rw[ob (by simp;omega)]at I;cases I
 ·rintro⟨O,U,B',I,Y⟩
  have J:k<bx.length:=(oD.1 I).1;exact⟨O,by rw[Env.at_append_lt (by omega)];exact U,B',by rw[oQ J];exact I,Y⟩
theorem Bf {pB:List Nat}{e:Env}{bx:List Bx}{j b:Nat}(h:zY av (j::pB) e bx b):zY av pB e bx b:=by
 rcases h with h | ⟨k,I,J⟩
 ·exact .inl h
 ·exact .inr ⟨k,λhc=>I (by simp[hc]),J⟩
theorem rC (h:Rel av w0 e0 pS pB a w e st) {B:Bx} :
  Rel av w0 e0 pS (st.bx.length::pB) a w (e++[none]) { st with bx:=st.bx++[B] }:=by
 have Y:∀ b,zY av (st.bx.length::pB) (e++[none]) (st.bx++[B]) b->zY av pB e st.bx b:=λb hb=>Bf (hb.imp id λ⟨k,I⟩=>⟨k,(wW h.el).1 I⟩);have U:∀(k:Nat) (B':Bx),(st.bx++[B])[k]?=some B'->(k<st.bx.length/\st.bx[k]?=some B')\/(k=st.bx.length/\B'=B):=λk B' I=>by
  by_cases O:k<st.bx.length
  ·rw[oQ O]at I;exact .inl ⟨O,I⟩
  ·rw[oT (by omega)]at I;have:k - st.bx.length=0:=by
    rcases mZ (k - st.bx.length)with h0 | h0
    ·exact h0
    ·rw[ob (by simp;omega)]at I;cases I
   rw[this]at I;simp at I;exact .inr ⟨by omega,I.symm⟩
 have aa:∀ k,k<st.bx.length->Env.at (e++[none]) k=e.at k:=λk I=>Env.at_append_lt (by rw[h.el];exact I);have ab:∀(B':Bx),B'.Ok w (zY av pB e st.bx)->B'.Ok w (zY av (st.bx.length::pB) (e++[none]) (st.bx++[B])):=λB' hb=>hb.mono (λ_ _ _=>rfl) (oC _) (λb _=>Y b);exact {
  el:=by simp[h.el]
  br:=λk B' I J=>by
   rcases U k B' I with⟨O,I⟩ | ⟨rfl,_⟩
   ·rw[aa k O];have ac:k∉pB:=λhc=>J (by simp[hc]);exact(h.br k B' I ac).congr (λ_ _=>rfl) (λj hj=>aa j (h.bf k B' I ac j hj).2)
   ·exact absurd (by simp) J
  bo:=λk B' I J=>by
   rcases U k B' I with⟨O,I⟩ | ⟨rfl,_⟩
   ·exact ab _ (h.bo k B' I λhc=>J (by simp[hc]))
   ·exact absurd (by simp) J
  bf:=λk B' I J j hj=>by
   rcases U k B' I with⟨O,I⟩ | ⟨rfl,_⟩
   ·have:=h.bf k B' I (λhc=>J (by simp[hc])) j hj
    exact⟨by simp;exact⟨by omega,this.1⟩,by simp;omega⟩
   ·exact absurd (by simp) J
  inj:=λk j b I hj=>by have h1:=(wW h.el).1 I;have h2:=(wW h.el).1 hj;exact h.inj k j b ⟨λhc=>h1.1 (by simp[hc]),h1.2⟩ ⟨λhc=>h2.1 (by simp[hc]),h2.2⟩
  ku:=h.ku
  size:=h.size
  old:=h.old
  fz:=h.fz
  nd:=h.nd
  sz:=h.sz
  hN:=h.hN
  hs:=λi p hi J=>by
   have h1:=h.hs i p hi J;rcases h1 with h1 | h1
   ·exact .inl h1
   ·refine .inr (h1.trans (PV.val_congr p λk I=>?_).symm);exact aa k (h.sr i p hi J k I).2
  so:=λi p hi J=>PV.Ok.mono (λ_ _ _=>rfl) (oC _) (λb _=>Y b) p (h.so i p hi J)
  sr:=λi p hi J k I=>by
   have:=h.sr i p hi J k I
   exact⟨by simp;exact⟨by omega,this.1⟩,by simp;omega⟩
  own:=λk b I=>by have h1:=(wW h.el).1 I;exact h.own k b ⟨λhc=>h1.1 (by simp[hc]),h1.2⟩
  avl:=h.avl
  avn:=λk b I=>by have h1:=(wW h.el).1 I;exact h.avn k b ⟨λhc=>h1.1 (by simp[hc]),h1.2⟩
  pin:=λk b hb=>by
   have:=h.pin k b hb
   have hl:k<e.length:=lN λhc=>by rw[Env.at_ge hc]at this;simp at this
   rw[Env.at_append_lt hl];exact⟨this.1,by simp;exact⟨by rw[<-h.el];omega,this.2⟩⟩
  pit:=h.pit }
theorem Aa (h:Rel av w0 e0 pS pB a w e st) {k:Nat} {B:Bx} {v:Value} {c:Array Value} {t:TypeId} {f:Nat->PV} (hk:st.bx[k]?=some B) (ak:k∈pB)
  (nb:NewBox av w e pB st.bx v (w.alloc (.cells c t)) B f) :
  Rel av w0 e0 pS (pB.filter (·≠k)) a (w.alloc (.cells c t)) (e.set k (some w.heap.size)) st:=by
 have al:k<st.bx.length:=(oD.1 hk).1;have ao:k<e.length:=by rw[h.el];exact al
 have O:∀ j,j∉pB.filter (·≠k)↔(j∉pB\/j=k):=λj=>by simp;exact Decidable.imp_iff_not_or
 have aa:∀ j,j≠k->Env.at (e.set k (some w.heap.size)) j=e.at j:=λj I=>Env.at_set_ne I;have ac:Env.at (e.set k (some w.heap.size)) k=some w.heap.size:=Env.at_set_eq ao;have J:∀ j b,Lives (pB.filter (·≠k)) (e.set k (some w.heap.size)) st.bx j b->(j=k/\b=w.heap.size)\/(j≠k/\Lives pB e st.bx j b):=λj b ⟨h1,h2,B',h3,h4⟩=>by
  by_cases I:j=k
  ·subst I;rw[ac]at h2;exact .inl ⟨rfl,(oX h2).symm⟩
  ·rw[aa j I]at h2;rcases(O j).1 h1 with h5 | h5
   ·exact .inr ⟨I,h5,h2,B',h3,h4⟩
   ·exact absurd h5 I
 have U:∀ b,b<w.heap.size->(w.alloc (.cells c t)).heap[b]?=w.heap[b]?:=λb Y=>BC Y;have ab:∀ b,b<w.heap.size->zY av (pB.filter (·≠k)) (e.set k (some w.heap.size)) st.bx b->zY av pB e st.bx b:=λb Y hl=>by
  rcases hl with hl | ⟨j,I⟩
  ·exact .inl hl
  rcases J j b I with⟨_,rfl⟩ | ⟨_,h1⟩
  ·omega
  ·exact .inr ⟨j,h1⟩
 have ae:w.heap.size<=(w.alloc (.cells c t)).heap.size:=by simp
 have ah:∀ j,j∉pB->j≠k:=λj I hh=>I (hh ▸ ak);exact {
  el:=by simp[h.el]
  br:=λj B' I hn=>by
   by_cases ai:j=k
   ·subst ai;rw[hk]at I
    have:=oX I
    subst this;rw[ac];exact nb.rel _ λi hi=>aa i (ah i (nb.rf i hi).1)
   ·have aj:j∉pB:=((O j).1 hn).resolve_right ai;rw[aa j ai];have hr:=h.br j B' I aj;by_cases hg:B'=.gone
    ·subst hg;exact True.intro
    ·exact hr.congr (λb Y=>U b (Lives.lt h.toMem ⟨aj,Y,B',I,hg⟩)) (λi hi=>aa i (ah i (h.bf j B' I aj i hi).1))
  bo:=λj B' I hn=>by
   rcases(O j).1 hn with h1 | h1
   ·exact(h.bo j B' I h1).mono (λb Y _=>U b Y) ae ab
   ·subst h1;rw[hk]at I
    have:=oX I
    subst this;exact nb.ok.mono (λb Y _=>U b Y) ae ab
  bf:=λj B' I hn i hi=>by
   rcases(O j).1 hn with h1 | h1
   ·have:=h.bf j B' I h1 i hi;exact⟨(O i).2 (.inl this.1),this.2⟩
   ·subst h1;rw[hk]at I
    have:=oX I
    subst this
    have:=nb.rf i hi
    exact⟨(O i).2 (.inl this.1),this.2⟩
  inj:=λi j b hi I=>by
   rcases J i b hi with⟨rfl,rfl⟩ | ⟨h1,h2⟩
   ·rcases J j _ I with⟨rfl,_⟩ | ⟨h3,h4⟩
    ·rfl
    ·have:=Lives.lt h.toMem h4;omega
   ·rcases J j b I with⟨rfl,rfl⟩ | ⟨h3,h4⟩
    ·have:=Lives.lt h.toMem h2;omega
    ·exact h.inj i j b h2 h4
  ku:=⟨h.ku.os,h.ku.out⟩
  size:=by have:=h.size;simp;omega
  old:=λb Y hn=>by rw[U b (by have:=h.size;omega)];exact h.old b Y hn
  fz:=λb c' t' z Y hc=>by
   by_cases aq:b<w.heap.size
   ·rw[U b aq]at hc;exact h.fz b c' t' z Y hc
   ·have au:b=w.heap.size:=by have:=(oW.1 hc).1;simp at this;omega
    subst au;rw[KM]at hc;cases hc;exact fz0
  nd:=h.nd
  sz:=h.sz
  hN:=by have:=h.hN;simp;omega
  hs:=λi p hi hn=>by
   rcases h.hs i p hi hn with h1 | h1
   ·exact .inl h1
   ·exact .inr (h1.trans (PV.val_congr p λj I=>aa j (ah j (h.sr i p hi hn j I).1)).symm)
  so:=λi p hi hn=>PV.Ok.mono (λb Y _=>U b Y) ae ab p (h.so i p hi hn)
  sr:=λi p hi hn j I=>by
   have:=h.sr i p hi hn j I
   exact⟨(O j).2 (.inl this.1),this.2⟩
  own:=λj b I=>by
   rcases J j b I with⟨rfl,rfl⟩ | ⟨_,h2⟩
   ·left;exact h.size
   ·exact h.own j b h2
  avl:=h.avl
  avn:=λj b I=>by
   rcases J j b I with⟨rfl,rfl⟩ | ⟨_,h2⟩
   ·intro hc;have h3:=h.avl.lt _ hc;have h4:=h.size;omega
   ·exact h.avn j b h2
  pin:=λj b Y=>by
   have:=h.pin j b Y
   have aw:j≠k:=λhc=>this.2 (hc ▸ ak);rw[aa j aw];exact⟨this.1,(O j).2 (.inl this.2)⟩
  pit:=h.pit }
end Go.Proofs.YtlaniepnglheoaaGreatDoor
namespace Go.Proofs.YtlaniepnglheoaaGreatDoor
open Go
inductive Res where
 | v (p:PV)
 | b (B:Bx) (f:Nat->PV)
def OY (ds:List D):List PV:=ds.map λd=>match d with
 | .pt ad z x=>.pd ad z x
 | d=>.dc d
def Uv (P:Program)(t:TypeId)(p:PV)(R:PV->Prop):Prop:=
 match p with
 | .dc x=>match P.underlying t with
   | some (.int k)=>∃ n,x=.lit (.int k n)/\R (.int k n)
   | some .bool=>∃ v,x=.lit (.bool v)/\R (.bool v)
   | some .string=>∃ v,x=.lit (.string v)/\R (.str v)
   | some (.slice el)=>match kz P el with
     | some z=>∃ a es cap,x=.sl a z es cap/\R (.sv a z es cap)
     | none=>R (.dc x)
   | some (.pointer _)=>match x with
     | .pt ad z y=>R (.pd ad z y)
     | x=>R (.dc x)
   | some (.func _ _ _)=>match x with
     | .fn f ds=>R (.fn f (OY ds))
     | x=>R (.dc x)
   | _=>R (.dc x)
 | p=>R p
def U1:Op->Bool
 | .alloc _ | .box .. | .buildSlice .. | .makeSlice .. | .build ..=>true
 | .move _ | .assign _ | .pick .. | .load .. | .nilCheck _ | .binOp .. | .unOp .. | .convert .. | .fieldAddr .. | .indexAddr .. | .index .. | .slice .. | .field .. | .extract .. | .makeFunc .. | .lookup ..=>true
 | .call c=>match c.callee with
   | .builtin .len=>true
   | .builtin .max=>true
   | .builtin .min=>true
   | _=>false
 | _=>false
def nev (P:Program)(ρ:Operand->PV)(rb:Nat->Option Bx)(op:Op)(ty:TypeId)(R:Res->Prop):Prop:=
 match op with
 | .alloc t=>NT P ρ (.alloc t) λB f=>R (.b B f)
 | .box t x=>NT P ρ (.box t x) λB f=>R (.b B f)
 | .buildSlice t n parts=>NT P ρ (.buildSlice t n parts) λB f=>R (.b B f)
 | .makeSlice t l c=>NT P ρ (.makeSlice t l c) λB f=>R (.b B f)
 | .build t parts=>CY P ρ t parts.toList λp=>R (.v p)
 | op=>Bi P ρ rb op ty λp=>Uv P ty p λq=>R (.v q)
def Lin {α:Type}(F:(α->Prop)->Prop):Prop:=∀ R,F R->∃ x,R x/\∀ R':α->Prop,R' x->F R'
theorem Lin.pure {α:Type}(x:α):Lin (λR:α->Prop=>R x):=λR h=>⟨x,h,λ_ h=>h⟩
theorem Lin.bind {α β:Type}{F:(α->Prop)->Prop}{G:α->(β->Prop)->Prop}(I:Lin F)(J:∀ x,Lin (G x)):Lin (λR=>F λx=>G x R):=λR h=>by obtain⟨x,O,U⟩:=I _ h;obtain⟨y,Y,h4⟩:=J x R O;exact⟨y,Y,λR' h=>U _ (h4 R' h)⟩
theorem Lin.and {α:Type}{p:Prop}{F:(α->Prop)->Prop}(I:Lin F):Lin (λR=>p/\F R):=λR h=>by obtain⟨y,J,O⟩:=I R h.2;exact⟨y,J,λR' U=>⟨h.1,O R' U⟩⟩
theorem Lin.ex {α β:Type}{F:β->(α->Prop)->Prop}(I:∀ b,Lin (F b)):Lin (λR=>∃ b,F b R):=λR ⟨b,h⟩=>by obtain⟨y,J,O⟩:=I b R h;exact⟨y,J,λR' U=>⟨b,O R' U⟩⟩
theorem Lin.no {α:Type}:Lin (λ_:α->Prop=>False):=λ_ h=>h.elim
theorem Lin.ite {α:Type}{p:Prop} [Decidable p]{F G:(α->Prop)->Prop}(I:Lin F)(J:Lin G):Lin (λR=>if p then F R else G R):=by
 by_cases h:p
 ·simp only[h,mF];exact I
 ·simp only[h,na];exact J
theorem va {P:Program}{t:TypeId}{p:PV}:Lin (frc P t p):=by
 unfold frc;cases p
 case dc x=>
  simp only;cases P.underlying t with
  | none=>exact Lin.no
  | some d=>
    cases d<;>simp only<;>first
     | exact Lin.no
     | exact Lin.ex λn=>Lin.and (Lin.pure _)
     | skip
    rename_i el;cases kz P el with
    | none=>exact Lin.no
    | some z=>exact Lin.ex λa=>Lin.ex λes=>Lin.ex λc=>Lin.and (Lin.pure _)
 all_goals exact Lin.pure _
theorem Sl {P:Program}{t:TypeId}{p:PV}:Lin (Uv P t p):=by
 unfold Uv;cases p
 case dc x=>
  simp only;cases P.underlying t with
  | none=>exact Lin.pure _
  | some d=>
    cases d<;>simp only<;>first
     | exact Lin.pure _
     | exact Lin.ex λn=>Lin.and (Lin.pure _)
     | skip
    ·cases x<;>exact Lin.pure _
    ·rename_i el;cases kz P el with
     | none=>exact Lin.pure _
     | some z=>exact Lin.ex λa=>Lin.ex λes=>Lin.ex λc=>Lin.and (Lin.pure _)
    ·cases x<;>exact Lin.pure _
 all_goals exact Lin.pure _
theorem pN {p:PV}:Lin (Rx p):=by
 unfold Rx;cases p<;>simp only<;>first | exact Lin.pure _ | exact Lin.no | skip
 exact Lin.ex λk=>Lin.ex λn=>Lin.and (Lin.pure _)
theorem Sk {p:PV}:Lin (Wa p):=by
 unfold Wa;cases p<;>simp only<;>first | exact Lin.pure _ | exact Lin.no | skip
 exact Lin.ex λn=>Lin.and (Lin.pure _)
theorem pO {p:Option PV}{d:Int}:Lin (SW p d):=by
 unfold SW;cases p<;>simp only
 ·exact Lin.pure _
 ·exact pN
theorem MI {cs:List PV}:Lin (pgR cs):=by unfold pgR;exact Lin.ite (Lin.pure _) (Lin.pure _)
theorem Qd {z zz:Nat}{B:Bx}{i o:Nat}:Lin (MU z zz B i o):=by
 unfold MU;cases B<;>simp only
 case gone=>exact Lin.no
 case var cs=>cases i<;>simp only<;>first | exact Lin.no | exact Lin.ite (Lin.ite (Lin.pure _) Lin.no) (Lin.ite MI Lin.no)
 case vd x n=>cases i<;>simp only<;>first | exact Lin.no | exact Lin.ite (Lin.ite (Lin.pure _) Lin.no) (Lin.ite (Lin.pure _) (Lin.ite (Lin.pure _) Lin.no))
 case arr t z' es n=>refine Lin.ite (Lin.and ?_) Lin.no;exact Lin.ite (Lin.ite (Lin.pure _) Lin.no) (Lin.ite (Lin.ite (Lin.pure _) Lin.no) (Lin.ite (Lin.pure _) (Lin.ite (Lin.pure _) Lin.no)))
theorem Sm {op:BinOp}{k:IntKind}{a b:Int}:Lin (Wi op k a b):=by unfold Wi;cases op<;>simp only<;>first | exact Lin.pure _ | exact Lin.no | exact Lin.and (Lin.pure _)
theorem Sq {op:BinOp}{a b:ByteArray}:Lin (XM op a b):=by unfold XM;cases op<;>simp only<;>first | exact Lin.pure _ | exact Lin.no | exact Lin.and (Lin.pure _)
theorem Qa {op:BinOp}{a b:Bool}:Lin (SA op a b):=by unfold SA;cases op<;>simp only<;>first | exact Lin.pure _ | exact Lin.no
theorem Sp {P:Program}{op:BinOp}{t:TypeId}{a b:Option Addr}{I cb:Nat}{J:List D}:Lin (XI P op t a b I J cb):=by
 unfold XI;split<;>try exact Lin.no
 split<;>try exact Lin.no
 cases op<;>simp only<;>first | exact Lin.pure _ | exact Lin.no
theorem Sj {P:Program}{op:BinOp}{t:TypeId}{p q:PV}:Lin (WG P op t p q):=by
 unfold WG;cases p<;>cases q<;>simp only<;>first | exact Lin.no | exact Sq | exact Sp | skip
 ·cases op<;>simp only<;>first | exact Lin.and (Lin.pure _) | exact Lin.ite Sm Lin.no
 ·cases P.underlying t with
  | none=>exact Lin.no
  | some d=>cases d<;>simp only<;>first | exact Lin.no | exact Qa
theorem Oo {rb:Nat->Option Bx}{p:PV}:Lin (E1 rb p):=by
 unfold E1;split
 ·split
  ·exact Lin.ex λns=>Lin.and (Lin.pure _)
  ·exact Lin.no
 ·split
  ·split
   ·exact Lin.and (Lin.ex λns=>Lin.and (Lin.pure _))
   ·exact Lin.no
  ·exact Lin.no
 ·exact Lin.no
theorem So {P:Program} {ρ:Operand->PV} {rb:Nat->Option Bx} {op:Op} {ty:TypeId}:Lin (Bi P ρ rb op ty):=by
 unfold Bi;cases op<;>(try simp only)<;>try exact Lin.no
 case move=>exact Lin.pure _
 case assign=>exact Lin.pure _
 case pick=>exact Lin.bind Sk λv=>Lin.ite (Lin.pure _) (Lin.pure _)
 case load t x=>
  cases kz P t with
  | none=>exact Lin.no
  | some z=>
    simp only;cases ρ x<;>(try simp only)<;>try exact Lin.no
    ·rename_i k zz i o;cases rb k with
     | none=>exact Lin.no
     | some B=>exact Qd
    ·exact Lin.ite (Lin.pure _) Lin.no
 case nilCheck x=>cases ρ x<;>(try simp only)<;>first | exact Lin.no | exact Lin.pure _
 case binOp=>exact Lin.bind va λp=>Lin.bind va λq=>Sj
 case unOp op t x=>
  cases op<;>(try simp only)<;>first
   | exact Lin.no
   | exact Lin.bind va λp=>(by cases p<;>(try simp only)<;>first | exact Lin.no | exact Lin.pure _)
 case convert s d x=>
  cases P.underlying d with
  | none=>exact Lin.no
  | some dd=>
    cases dd<;>(try simp only)<;>try exact Lin.no
    ·cases P.underlying s with
     | none=>exact Lin.no
     | some I=>
       cases I<;>(try simp only)<;>try exact Lin.no
       exact Lin.bind va λp=>(by cases p<;>(try simp only)<;>first | exact Lin.no | exact Lin.pure _)
    ·cases P.underlying s with
     | none=>exact Lin.no
     | some I=>
       cases I<;>(try simp only)<;>try exact Lin.no
       split<;>try exact Lin.no
       exact Lin.bind va λp=>Oo
 case lookup t m i ok=>
  cases ok<;>(try simp only)<;>try exact Lin.no
  cases P.underlying t with
  | none=>exact Lin.no
  | some d=>
    cases d<;>(try simp only)<;>try exact Lin.no
    refine Lin.bind va λp=>?_;cases p<;>(try simp only)<;>try exact Lin.no
    cases ρ m<;>(try simp only)<;>try exact Lin.no
    exact Lin.ex λb=>Lin.ex λes=>Lin.ex λc=>Lin.and (Lin.ex λo=>Lin.and (Lin.pure _))
 case makeFunc f first caps=>
  cases f<;>(try simp only)<;>try exact Lin.no
  cases first.toList<;>(try simp only)<;>try exact Lin.no
  exact Lin.ite (Lin.pure _) Lin.no
 case slice t x lo hi O=>
  cases O<;>(try simp only)<;>try exact Lin.no
  cases P.underlying t with
  | none=>exact Lin.no
  | some d=>
    cases d<;>(try simp only)<;>try exact Lin.no
    ·refine Lin.bind va λp=>?_;cases p<;>(try simp only)<;>try exact Lin.no
     exact Lin.bind pO λl=>Lin.bind pO λh=>Lin.and (Lin.pure _)
    ·rename_i el;cases kz P el with
     | none=>exact Lin.no
     | some z=>
       try simp only
       refine Lin.bind va λp=>?_;cases p<;>(try simp only)<;>try exact Lin.no
       ·exact Lin.ite (Lin.bind pO λl=>Lin.bind pO λh=>Lin.and (Lin.pure _)) Lin.no
       ·cases lo<;>simp only
        ·exact Lin.bind pO λh=>Lin.and (Lin.pure _)
        ·exact Lin.ite (Lin.bind pN λl=>Lin.bind pO λh=>Lin.and (Lin.pure _)) Lin.no
 case fieldAddr t x f=>
  cases pH P t f with
  | none=>exact Lin.no
  | some J=>obtain⟨o,z⟩:=J;simp only;cases ρ x<;>(try simp only)<;>first | exact Lin.no | exact Lin.pure _ | exact Lin.ite (Lin.pure _) Lin.no
 case field t x f=>
  cases pH P t f with
  | none=>exact Lin.no
  | some J=>
    obtain⟨o,z⟩:=J;simp only;cases ρ x<;>(try simp only)<;>try exact Lin.no
    ·exact Lin.ite (Lin.ite (Lin.pure _) Lin.no) (Lin.ite (Lin.pure _) Lin.no)
    ·exact Lin.ite (Lin.ite (Lin.pure _) Lin.no) (Lin.ite MI Lin.no)
 case indexAddr t x i=>
  cases P.underlying t with
  | none=>exact Lin.no
  | some d=>
    cases d<;>(try simp only)<;>try exact Lin.no
    rename_i el;cases kz P el with
    | none=>exact Lin.no
    | some z=>
      try simp only
      refine Lin.bind pN λn=>Lin.bind va λp=>?_;cases p<;>(try simp only)<;>try exact Lin.no
      ·exact Lin.ite (Lin.and (Lin.pure _)) Lin.no
      ·rename_i k z' lo m c;cases rb k with
       | none=>exact Lin.no
       | some B=>cases B<;>(try simp only)<;>first | exact Lin.no | exact Lin.ite (Lin.and (Lin.pure _)) Lin.no
 case index t x i=>
  cases P.underlying t with
  | none=>exact Lin.no
  | some d=>
    cases d<;>(try simp only)<;>try exact Lin.no
    refine Lin.bind pN λn=>Lin.bind va λp=>?_;cases p<;>(try simp only)<;>try exact Lin.no
    exact Lin.and (Lin.pure _)
 case extract x i=>
  cases ρ x<;>(try simp only)<;>try exact Lin.no
  rename_i l;cases l[i]? with
  | none=>exact Lin.no
  | some p=>cases p<;>(try simp only)<;>first | exact Lin.no | exact Lin.pure _
 case call c=>
  cases c.callee<;>(try simp only)<;>try exact Lin.no
  rename_i b;cases b<;>(try simp only)<;>try exact Lin.no
  all_goals(rcases c.args.toList with _ | ⟨x,_ | ⟨y,_ | ⟨u,us⟩⟩⟩<;>rcases c.argTypes.toList with _ | ⟨s,_ | ⟨t,_ | ⟨r,rs⟩⟩⟩<;>(try simp only)<;>try exact Lin.no)
  ·cases P.underlying s with
   | none=>exact Lin.no
   | some d=>
     cases d<;>(try simp only)<;>try exact Lin.no
     all_goals(refine Lin.bind va λp=>?_;cases p<;>(try simp only)<;>first | exact Lin.no | exact Lin.pure _)
  all_goals(refine Lin.bind va λp=>Lin.bind va λq=>?_;cases p<;>cases q<;>(try simp only)<;>first | exact Lin.no | exact Lin.pure _)
theorem MH {P:Program}{ρ:Operand->PV}{t:TypeId}{parts:List (Nat × Operand)}:Lin (CY P ρ t parts):=by
 unfold CY;split<;>try exact Lin.no
 split<;>try exact Lin.no
 split<;>try exact Lin.no
 exact MI
theorem Sn {P:Program}{ρ:Operand->PV}{op:Op}:Lin (λR:Res->Prop=>NT P ρ op λB f=>R (.b B f)):=by
 unfold NT;cases op<;>(try simp only)<;>try exact Lin.no
 case alloc t=>
  cases Di P t with
  | none=>exact Lin.no
  | some cs=>exact Lin.pure _
 case box t x=>cases ρ x<;>(try simp only)<;>first | exact Lin.no | exact Lin.pure _
 case buildSlice t n parts=>
  split<;>try exact Lin.no
  split<;>try exact Lin.no
  split<;>try exact Lin.no
  exact Lin.ite (Lin.pure _) Lin.no
 case makeSlice t l c=>
  split<;>try exact Lin.no
  split<;>try exact Lin.no
  split<;>try exact Lin.no
  exact Lin.bind pN λn=>Lin.bind pN λm=>Lin.and (Lin.pure _)
theorem Qc {P:Program}{ρ:Operand->PV}{rb:Nat->Option Bx}{op:Op}{ty:TypeId}:Lin (nev P ρ rb op ty):=by
 have I:Lin (λR:Res->Prop=>Bi P ρ rb op ty λp=>Uv P ty p λq=>R (.v q)):=
  Lin.bind So λp=>Lin.bind Sl λq=>Lin.pure _
 unfold nev;cases op<;>(try simp only)<;>first | exact Sn | exact I | skip
 exact Lin.bind MH λp=>Lin.pure _
variable [Dfs] {av:Nat->Prop} {P:Program} {w0 w:World} {e0 e:Env} {pS pS' pB:List Nat} {a:Act} {st:St}
theorem vC (h:Rel av w0 e0 pS pB a w e st){x:Operand}(O:∀ t,x=.tmp t->t∉pS):OpdOk av a w e pB st.bx x (opd st.sl x):=by
 cases x with
 | tmp t=>
   simp only[opd];cases I:st.sl[t]? with
   | none=>rw[oA,I];exact⟨.inl rfl,trivial,by simp[PV.refs]⟩
   | some p=>rw[oA,I];have J:=O t rfl;exact⟨h.hs t p I J,h.so t p I J,h.sr t p I J⟩
 | const v=>obtain⟨U,Y,h3⟩:=MR v w (zY av pB e st.bx) e;exact⟨h3.imp id Eq.symm,U,by simp only[opd];rw[Y];simp⟩
 | global g=>exact⟨.inl rfl,trivial,by simp[opd,PV.refs]⟩
 | func f=>exact⟨.inr rfl,by simp only[opd];exact trivial,by simp[opd,PV.refs,PV.refsL]⟩
theorem Hv {ρ ρ':Operand->PV} {rb rb':Nat->Option Bx} {op:Op} {ty:TypeId} {R:PV->Prop} (hρ:∀ x∈op.operands,ρ' x=ρ x)
  (J:∀ x∈op.operands,∀ k∈(ρ x).refs,rb' k=rb k):Bi P ρ' rb' op ty R=Bi P ρ rb op ty R:=by
 cases op<;>simp only[Op.operands]at hρ J<;>try rfl
 case move x=>simp[Bi,hρ x (by simp)]
 case assign x=>simp[Bi,hρ x (by simp)]
 case pick c x y=>simp[Bi,hρ c (by simp),hρ x (by simp),hρ y (by simp)]
 case load t x=>
  simp only[Bi,hρ x (by simp)]
  have:=J x (by simp)
  generalize ρ x=p at this;cases p<;>try rfl
  rename_i k z i o;simp only[this k (by simp[PV.refs])]
 case nilCheck x=>simp[Bi,hρ x (by simp)]
 case binOp op t x y yt=>simp[Bi,hρ x (by simp),hρ y (by simp)]
 case unOp op t x=>simp[Bi,hρ x (by simp)]
 case convert s d x=>
  simp only[Bi,hρ x (by simp)]
  have:=J x (by simp)
  generalize ρ x=p at this;cases p with
  | sb k z lo n c=>simp only[frc,E1,this k (by simp[PV.refs])]
  | dc y=>simp only[frc,E1]
  | _=>rfl
 case fieldAddr t x f=>simp[Bi,hρ x (by simp)]
 case field t x f=>simp[Bi,hρ x (by simp)]
 case extract x i=>simp[Bi,hρ x (by simp)]
 case index t x i=>simp[Bi,hρ x (by simp),hρ i (by simp)]
 case lookup t m i ok=>simp only[Bi,hρ m (by simp),hρ i (by simp)]
 case makeFunc f first caps=>have hc:caps.toList.map ρ'=caps.toList.map ρ:=nC λx O=>hρ x (by simp[o8.1 O]);simp only[Bi,hc]
 case slice t x lo hi mx=>
  have I:=hρ x (by simp);have h2:lo.map ρ'=lo.map ρ:=by cases lo<;>simp;exact hρ _ (by simp)
  have U:hi.map ρ'=hi.map ρ:=by cases hi<;>simp;exact hρ _ (by simp)
  cases lo with
  | none=>simp only[Bi,I,U,mT]
  | some y=>have Y:ρ' y=ρ y:=hρ y (by simp);simp only[Bi,I,U,Y,oZ]
 case indexAddr t x i=>
  simp only[Bi,hρ x (by simp),hρ i (by simp)]
  have:=J x (by simp)
  generalize ρ x=p at this;cases p with
  | sb k z lo n c=>simp only[frc,this k (by simp[PV.refs])]
  | _=>rfl
 case call c=>
  have I:∀ x∈c.args.toList,ρ' x=ρ x:=λx O=>hρ x (by simp[Call.operands,o8.1 O]);simp only[Bi];generalize c.args.toList=as at I;generalize c.argTypes.toList=ts;cases c.callee<;>try rfl
  rename_i b;cases b<;>try rfl
  all_goals(rcases as with _ | ⟨x,_ | ⟨y,_ | ⟨u,us⟩⟩⟩<;>rcases ts with _ | ⟨s,_ | ⟨t,_ | ⟨r,rs⟩⟩⟩<;>try rfl)
  ·simp only[I x (by simp)]
  ·simp only[I x (by simp),I y (by simp)]
  ·simp only[I x (by simp),I y (by simp)]
theorem Kf {ρ ρ':Operand->PV}{z:Nat}(l:List (Nat × Operand)):∀ k,(∀ p∈l,ρ' p.2=ρ p.2)->AL z ρ' k l=AL z ρ k l:=by
 induction l with
 | nil=>intro k _;rfl
 | cons p l I=>intro k h;obtain⟨i,x⟩:=p;simp only[AL];rw[h (i,x) (by simp),I (k+1) λp J=>h p (by simp[J])]
theorem Ot {ρ ρ':Operand->PV}{op:Op}{R:Bx->(Nat->PV)->Prop}(hρ:∀ x∈op.operands,ρ' x=ρ x):NT P ρ' op R=NT P ρ op R:=by
 cases op<;>simp only[Op.operands]at hρ<;>try rfl
 case box t x=>simp[NT,hρ x (by simp)]
 case buildSlice t n parts=>have:∀ z,AL z ρ' 0 parts.toList=AL z ρ 0 parts.toList:=λz=>Kf _ 0 λp I=>hρ p.2 (by simp;exact⟨p.1,o8.1 I⟩);simp only[NT,this]
 case makeSlice t l c=>simp[NT,hρ l (by simp),hρ c (by simp)]
theorem Fc {ρ ρ':Operand->PV} {rb rb':Nat->Option Bx} {op:Op} {ty:TypeId} {R:Res->Prop} (hρ:∀ x∈op.operands,ρ' x=ρ x)
  (I:∀ x∈op.operands,∀ k∈(ρ x).refs,rb' k=rb k):nev P ρ' rb' op ty R=nev P ρ rb op ty R:=by
 unfold nev;cases op<;>simp only<;>first
  | exact Ot hρ
  | exact Hv hρ I
  | skip
 rename_i t parts;have:(parts.toList.map λ(i,x)=>(i,ρ' x))=(parts.toList.map λ(i,x)=>(i,ρ x)):=nC λp J=>by
  have:=hρ p.2 (by simp only[Op.operands];simp;exact⟨p.1,o8.1 J⟩)
  simp[this]
 unfold CY;rw[this]
theorem Hf {bx:List Bx}{v:Value}{f:FuncId}{ds:List D}(hv:ValOk av w e pB bx v (.dc (.fn f ds))):ValOk av w e pB bx v (.fn f (OY ds)):=by
 have J:=hv.1.resolve_left (by simp);obtain⟨hg,hc⟩:=hv.2.1;obtain⟨g1,g2⟩:=hg;cases g1 with
 | fn k1 k2=>
   have O:∀ d∈ds,Good w (zY av pB e bx) d:=λd hd=>⟨k2 d hd,λb U=>g2 b (by simp only[D.foot];exact zJ.2 ⟨d,hd,U⟩)⟩
   refine⟨.inr ?_,?_,?_⟩
   ·rw[J];show(D.fn f ds).cv=_;simp only[PV.val,PV.val1,PV.cv,D.cv,D.cvL_eq,PV.cvs_eq,OY,mL];congr 2;refine nC λd hd=>?_;cases d<;>rfl
   ·simp only[PV.Ok,PV.OkL_iff,OY];intro q Y;obtain⟨d,hd,rfl⟩:=oU.1 Y;have I:=O d hd;cases d with
    | pt ad z x=>
      obtain⟨j1,j2⟩:=id I;have aa:=j1.lt ad.block (by simp[D.foot]);cases j1 with
      | pt m1 m2 m3 m4=>exact⟨⟨m4,λb U=>j2 b (by simp[D.foot,U])⟩,m2,m1,m3,j2 _ (by simp[D.foot]),aa⟩
    | _=>exact⟨I,k1 _ hd⟩
   ·intro k hk;simp only[PV.refs,OY]at hk;obtain⟨q,Y,ab⟩:=PV.refsL_mem.1 hk;obtain⟨d,hd,rfl⟩:=oU.1 Y;cases d<;>simp[PV.refs]at ab
theorem Oh {bx:List Bx}{t:TypeId}{v:Value}{p:PV}{R:PV->Prop}(O:ValOk av w e pB bx v p)(h:Uv P t p R):∃ q,R q/\ValOk av w e pB bx v q:=by
 unfold Uv at h;split at h
 ·rename_i x;have I:=O;obtain⟨J,U,h3⟩:=O;have J:=J.resolve_left (by simp);simp only[PV.Ok]at U;split at h
  ·obtain⟨n,rfl,h⟩:=h;exact⟨_,h,.inr J,trivial,by simp[PV.refs]⟩
  ·obtain⟨n,rfl,h⟩:=h;exact⟨_,h,.inr J,trivial,by simp[PV.refs]⟩
  ·obtain⟨n,rfl,h⟩:=h;exact⟨_,h,.inr J,trivial,by simp[PV.refs]⟩
  ·split at h
   ·obtain⟨a,es,c,rfl,h⟩:=h;exact⟨_,h,.inr J,U.1,by simp[PV.refs]⟩
   ·exact⟨_,h,I⟩
  ·split at h
   ·rename_i ad z y hh;have hg:=U.1;obtain⟨g1,g2⟩:=id hg;have Y:=g1.lt ad.block (by simp[D.foot]);cases g1 with
    | pt k1 k2 k3 k4=>exact⟨_,h,.inr J,⟨⟨k4,λb hb=>g2 b (by simp[D.foot,hb])⟩,k2,k1,k3,g2 _ (by simp[D.foot]),Y⟩,by simp[PV.refs]⟩
   ·exact⟨_,h,I⟩
  ·split at h
   ·exact⟨_,h,Hf I⟩
   ·exact⟨_,h,I⟩
  ·exact⟨_,h,I⟩
 ·exact⟨_,h,O⟩
theorem Ed (h:Rel av w0 e0 pS pB a w e st) {o:Oper} {R:Res->Prop} (hx:∀ x∈o.op.operands,∀ t,x=.tmp t->t∉pS)
  (J:nev P (opd st.sl) (λk=>st.bx[k]?) o.op o.type R) :
  (∃ v p,(execOp a.eval o).run P w=.ok (.value v) w/\R (.v p)/\ValOk av w e pB st.bx v p) \/
  (∃ v c t B f,(execOp a.eval o).run P w=.ok (.value v) (w.alloc (.cells c t))/\R (.b B f)/\NewBox av w e pB st.bx v (w.alloc (.cells c t)) B f):=by
 have Y:∀ x∈o.op.operands,OpdOk av a w e pB st.bx x (opd st.sl x):=λx O=>vC h (hx x O);have hv:Bi P (opd st.sl) (λk=>st.bx[k]?) o.op o.type (λp=>Uv P o.type p λq=>R (.v q))->∃ v p,(execOp a.eval o).run P w=.ok (.value v) w/\R (.v p)/\ValOk av w e pB st.bx v p:=λJ=>by
  rw[<-Hv (ρ':=opd st.sl) (rb':=λk=>if k∈pB then none else st.bx[k]?) (λ_ _=>rfl) (λx O k U=>by simp[((Y x O).rf k U).1])]at J;obtain⟨v,p,h1,h2,h3⟩:=Hw h.toMem Y (λk B U=>by
   split at U
   ·cases U
   ·rename_i aa;exact⟨U,aa⟩) J
  obtain⟨q,h4,h5⟩:=Oh h3 h2;exact⟨v,q,h1,h4,h5⟩
 have hA:NT P (opd st.sl) o.op (λB f=>R (.b B f))->∃ v c t B f,(execOp a.eval o).run P w=.ok (.value v) (w.alloc (.cells c t))/\R (.b B f)/\NewBox av w e pB st.bx v (w.alloc (.cells c t)) B f:=λJ=>Ou Y J;unfold nev at J;split at J
 ·rename_i t I;exact .inr (hA (by rw[I];exact J))
 ·rename_i t x I;exact .inr (hA (by rw[I];exact J))
 ·rename_i t n ps I;exact .inr (hA (by rw[I];exact J))
 ·rename_i t l c I;exact .inr (hA (by rw[I];exact J))
 ·rename_i t parts I;obtain⟨v,p,h1,h2,h3⟩:=Ic (λx O=>Y x (by rw[I];exact O)) J;refine .inl ⟨v,p,?_,h2,h3⟩;obtain⟨dst,op,ty,pos,after,guard⟩:=o;simp only at I;subst I;simp[execOp,h1]
 ·exact .inl (hv J)
def St.push (st:St)(dst:Option Nat):Res->St
 | .v p=>st.put dst p
 | .b B f=>St.put { st with bx:=st.bx++[B] } dst (f st.bx.length)
def Res.isB:Res->Bool
 | .v _=>false
 | .b ..=>true
theorem JK (h:Rel av w0 e0 pS pB a w e st){dst:Option Nat}{p:PV}:Rel av w0 e0 (dst.toList++pS) pB a w e (st.put dst p):=by
 cases dst with
 | none=>simpa [St.put]using h
 | some d=>
   have J:∀(i:Nat) (q:PV),(st.sl.set d p)[i]?=some q->i≠d->st.sl[i]?=some q:=λi q hi hd=>by rw[nE (Ne.symm hd)]at hi;exact hi
   exact { h with
    nd:=h.nd
    sz:=by simp[St.put];exact h.sz
    hs:=λi q hi I=>by simp at I;exact h.hs i q (J i q hi I.1) I.2
    so:=λi q hi I=>by simp at I;exact h.so i q (J i q hi I.1) I.2
    sr:=λi q hi I=>by simp at I;exact h.sr i q (J i q hi I.1) I.2 }
theorem TD (h:Rel av w0 e0 pS pB a w e st) (dst:Option Nat) (r:Res) :
  Rel av w0 e0 (dst.toList++pS) (if r.isB then st.bx.length::pB else pB) a w (if r.isB then e++[none]else e) (st.push dst r):=by
 cases r with
 | v p=>exact JK h
 | b B f=>exact JK (rC h)
theorem St.put_same {st:St}{dst:Option Nat}{p:PV}(h:∀ d,dst=some d->d<st.sl.length->st.sl[d]?=some p):st.put dst p=st:=by
 cases dst with
 | none=>rfl
 | some d=>
   simp only[St.put];by_cases hd:d<st.sl.length
   ·have I:st.sl.set d p=st.sl:=by
     have J:=h d rfl hd;apply nJ;intro i;rw[nR];split
     ·rename_i hi;subst hi;rw[J]
     ·rfl
    rw[I]
   ·rw[lA (by omega)]
theorem TC (h:Rel av w0 e0 pS pB a w e st) {o:Oper} {r:Res} {k:Nat} (hx:∀ x∈o.op.operands,∀ t,x=.tmp t->t∉pS)
  (hn:nev P (opd st.sl) (λk=>st.bx[k]?) o.op o.type (λq=>q=r))
  (hd:∀ d,o.dst=some d->d<st.sl.length->st.sl[d]?=some (match r with | .v p=>p | .b _ f=>f k))
  (hk:∀ B f,r=.b B f->st.bx[k]?=some B/\k∈pB)
  (hp:∀ i,i∈pS->some i≠o.dst->i∈pS') :
  ∃ v w' e',(execOp a.eval o).run P w=.ok (.value v) w'/\Rel av w0 e0 pS' (if r.isB then pB.filter (·≠k)else pB) (a.put o.dst v) w' e' st:=by
 rcases Ed h hx hn with⟨v,p,U,Y,I⟩ | ⟨v,c,t,B,f,U,Y,I⟩
 ·subst Y;refine⟨v,w,e,U,?_⟩;have J:=xm h (dst:=o.dst) I hp;rw[St.put_same hd]at J;exact J
 ·subst Y;obtain⟨h5,h6⟩:=hk B f rfl;have h8:=Aa h h5 h6 I;have O:k<st.bx.length:=(oD.1 h5).1;have h9:ValOk av (w.alloc (.cells c t)) (e.set k (some w.heap.size)) (pB.filter (·≠k)) st.bx v (f k):=
   ⟨.inr (I.val k _ (Env.at_set_eq (by rw[h.el];exact O))),I.fok k _ _,by rw[I.fr];simp[O]⟩
  have J:=xm h8 (dst:=o.dst) h9 hp;rw[St.put_same hd]at J;exact⟨v,_,_,U,J⟩
def V2 (cs cs':List PV):Prop:=cs'.length=cs.length/\∀(i:Nat) (p:PV),cs'[i]?=some p->p=.any\/cs[i]?=some p
def XN (B B':Bx):Prop:=B'=.gone\/B'=B\/∃ cs cs',B=.var cs/\B'=.var cs'/\V2 cs cs'
structure St.Weak (st st':St):Prop where
 sl:∀(i:Nat) (p:PV),st'.sl[i]?=some p->p=.any\/st.sl[i]?=some p
 len:st'.sl.length<=st.sl.length
 bl:st'.bx.length=st.bx.length
 bx:∀(k:Nat) (B':Bx),st'.bx[k]?=some B'->∃ B,st.bx[k]?=some B/\XN B B'
 N:st'.N<=st.N
 pin:st'.pin=st.pin
variable {av:Nat->Prop} {P:Program} {w0 w w':World} {e0 e:Env} {pS pS' pB:List Nat} {a:Act} {st st':St}
theorem PV.ok_any {w:World}{live:Nat->Prop}:PV.any.Ok w live:=trivial
theorem Nq (h:Rel av w0 e0 pS pB a w e st)(O:st.Weak st'):Rel av w0 e0 pS pB a w e st':=by
 have aa:st'.pins=st.pins:=by unfold St.pins;rw[O.pin]
 have I:∀ k b,Lives pB e st'.bx k b->Lives pB e st.bx k b:=λk b ⟨h1,h2,B',h3,h4⟩=>by
  obtain⟨B,h5,h6⟩:=O.bx k B' h3;refine⟨h1,h2,B,h5,?_⟩;rcases h6 with rfl | rfl | ⟨cs,cs',rfl,_⟩
  ·exact absurd rfl h4
  ·exact h4
  ·simp
 have U:∀ b,zY av pB e st'.bx b->zY av pB e st.bx b:=λb hb=>hb.imp id λ⟨k,J⟩=>⟨k,I k b J⟩
 have Y:∀ p:PV,p.Ok w (zY av pB e st.bx)->p.Ok w (zY av pB e st'.bx):=λp hp=>PV.Ok.mono (λ_ _ _=>rfl) (oC _) (λb _=>U b) p hp;exact {
  el:=h.el.trans O.bl.symm
  br:=λk B' J hn=>by
   obtain⟨B,h5,h6⟩:=O.bx k B' J;have h7:=h.br k B h5 hn;rcases h6 with rfl | rfl | ⟨cs,cs',rfl,rfl,h8,h9⟩
   ·exact True.intro
   ·exact h7
   ·obtain⟨b,c,t,g1,g2,g3,g4⟩:=h7;refine⟨b,c,t,g1,g2,g3.trans h8.symm,λi p hp=>?_⟩;rcases h9 i p hp with h10 | h10
    ·exact .inl h10
    ·exact g4 i p h10
  bo := λk B' J hn=>by
   obtain⟨B,h5,h6⟩:=O.bx k B' J;have h7:=h.bo k B h5 hn;rcases h6 with rfl | rfl | ⟨cs,cs',rfl,rfl,h8,h9⟩
   ·exact True.intro
   ·exact h7.mono (λ_ _ _=>rfl) (oC _) (λb _=>U b)
   ·obtain⟨g1,g2⟩:=h7;rw[PV.OkL_iff]at g1;refine⟨PV.OkL_iff.2 λp hp=>?_,λp hp=>?_⟩
    ·obtain⟨i,hi⟩:=oS.1 hp;rcases h9 i p hi with rfl | h10
     ·exact PV.ok_any
     ·exact Y p (g1 p (oB h10))
    ·obtain⟨i,hi⟩:=oS.1 hp;rcases h9 i p hi with h10 | h10
     ·exact .inl h10
     ·exact g2 p (oB h10)
  bf:=λk B' J hn j hj=>by
   obtain⟨B,h5,h6⟩:=O.bx k B' J;have h7:=h.bf k B h5 hn;rw[O.bl];rcases h6 with rfl | rfl | ⟨cs,cs',rfl,rfl,h8,h9⟩
   ·simp[Bx.refs]at hj
   ·exact h7 j hj
   ·simp only[Bx.refs]at hj;obtain⟨p,hp,hj⟩:=PV.refsL_mem.1 hj;obtain⟨i,hi⟩:=oS.1 hp;rcases h9 i p hi with rfl | h10
    ·simp[PV.refs]at hj
    ·exact h7 j (by simp only[Bx.refs];exact PV.refsL_mem.2 ⟨p,oB h10,hj⟩)
  inj:=λk j b J hj=>h.inj k j b (I k b J) (I j b hj)
  ku:=h.ku
  size:=h.size
  old:=h.old
  fz:=h.fz
  nd:=h.nd
  sz:=oR O.len h.sz
  hN:=oR O.N h.hN
  hs:=λi p hi hn=>by
   rcases O.sl i p hi with h1 | h1
   ·exact .inl h1
   ·exact h.hs i p h1 hn
  so:=λi p hi hn=>by
   rcases O.sl i p hi with rfl | h1
   ·exact PV.ok_any
   ·exact Y p (h.so i p h1 hn)
  sr:=λi p hi hn k J=>by
   rw[O.bl];rcases O.sl i p hi with rfl | h1
   ·simp[PV.refs]at J
   ·exact h.sr i p h1 hn k J
  own:=λk b J=>by rw[aa];exact h.own k b (I k b J)
  avl:=h.avl
  avn:=λk b J=>h.avn k b (I k b J)
  pin:=λk b hb=>h.pin k b (aa ▸ hb)
  pit:=λL T hb=>h.pit L T (O.pin ▸ hb) }
theorem Nn (h:Rel av w0 e0 pS pB a w e st) (J:w.heap.size<=w'.heap.size) (hold:∀ b,b<w.heap.size->w'.heap[b]?=w.heap[b]?)
  (U:∀(b:Nat) (c:Array Value) (t:TypeId) (z:Nat × Nat),w.heap.size<=b->w'.heap[b]?=some (.cells c t z)->Fz z) (aa:KU w w':=by exact⟨rfl,rfl⟩) :
  Rel av w0 e0 pS pB a w' e { st with N:=w'.heap.size }:=by
 exact {
  el:=h.el
  br:=λk B Y O=>by
   by_cases hg:B=.gone
   ·subst hg;exact True.intro
   ·exact(h.br k B Y O).congr (λb I=>hold b (Lives.lt h.toMem ⟨O,I,B,Y,hg⟩)) λ_ _=>rfl
  bo:=λk B Y O=>(h.bo k B Y O).mono (λb I _=>hold b I) J λ_ _=>id
  bf:=h.bf
  inj:=h.inj
  ku:=h.ku.trans aa
  size:=oR h.size J
  old:=λb I O=>(hold b (o6 I h.size)).trans (h.old b I O)
  fz:=λb c t z I hc=>by
   by_cases ab:b<w.heap.size
   ·rw[hold b ab]at hc;exact h.fz b c t z I hc
   ·exact U b c t z (by omega) hc
  nd:=h.nd
  sz:=h.sz
  hN:=oC _
  hs:=h.hs
  so:=λi p hi hp=>PV.Ok.mono (λb I _=>hold b I) J (λ_ _=>id) p (h.so i p hi hp)
  sr:=h.sr
  own:=h.own
  avl:=h.avl
  avn:=h.avn
  pin:=h.pin
  pit:=h.pit }
theorem W0 (h:Rel av w0 e0 pS pB a w e st){n:Nat}(I:n<=w.heap.size):Rel av w0 e0 pS pB a w e { st with N:=n }:={ h with hN:=I,nd:=h.nd }
theorem Ma (h:Rel av w0 e0 pS pB a w e st) {k:Nat} {B B':Bx} {x:Option Nat} (hk:st.bx[k]?=some B) (au:k∉pB) (aj:B≠.gone)
  (ae:w.heap.size<=w'.heap.size) (hold:∀ b,b<w.heap.size->e.at k≠some b->w'.heap[b]?=w.heap[b]?)
  (hx:x=e.at k\/((∃ b,x=some b/\w.heap.size<=b)/\(∀(i:Nat) (p:PV),st.sl[i]?=some p->i∉pS->k∉p.refs)/\(∀(j:Nat) (C:Bx),st.bx[j]?=some C->j∉pB->j≠k->k∉C.refs)/\B'.isArr=true))
  (hA:B.isArr=true->B'.isArr=true) (aw:x=e.at k\/∀ b,st.pins[k]?≠some (some b))
  (hB:B'.Rel w' (e.set k x) x) (a7:B'.Ok w (zY av pB e st.bx)) (a8:∀ j∈B'.refs,j∉pB/\j<st.bx.length)
  (ao:∀(b:Nat) (c:Array Value) (t:TypeId) (z:Nat × Nat),(w.heap.size<=b\/e.at k=some b)->w'.heap[b]?=some (.cells c t z)->Fz z) (ba:KU w w':=by exact⟨rfl,rfl⟩) :
  Rel av w0 e0 pS pB a w' (e.set k x) { st with bx:=st.bx.set k B' }:=by
 have aq:k<st.bx.length:=(oD.1 hk).1;have bb:k<e.length:=by rw[h.el];exact aq
 have ak:∀ j,j≠k->Env.at (e.set k x) j=e.at j:=λj I=>Env.at_set_ne I;have ac:Env.at (e.set k x) k=x:=Env.at_set_eq bb;have al:∀ b,e.at k=some b->zY av pB e st.bx b:=λb Y=>.inr ⟨k,au,Y,B,hk,aj⟩;have O:∀ j b,Lives pB (e.set k x) (st.bx.set k B') j b->Lives pB e st.bx j b\/(j=k/\x=some b/\w.heap.size<=b):=λj b ⟨h1,U,C,h3,h4⟩=>by
  by_cases I:j=k
  ·subst I;rw[ac]at U;rcases hx with hx | ⟨⟨b',ax,ay⟩,_⟩
   ·exact .inl ⟨h1,hx ▸ U,B,hk,aj⟩
   ·rw[U]at ax;cases ax;exact .inr ⟨rfl,U,ay⟩
  ·rw[ak j I]at U;rw[nE (Ne.symm I)]at h3;exact .inl ⟨h1,U,C,h3,h4⟩
 have aa:∀ b,b<w.heap.size->zY av pB (e.set k x) (st.bx.set k B') b->zY av pB e st.bx b:=λb Y hl=>hl.elim .inl λ⟨j,I⟩=>by
  rcases O j b I with h1 | ⟨_,_,h1⟩
  ·exact .inr ⟨j,h1⟩
  ·omega
 have ab:∀ b,b<w.heap.size->¬zY av pB e st.bx b->w'.heap[b]?=w.heap[b]?:=λb Y hn=>hold b Y λhc=>hn (al b hc);have ah:∀(j:Nat) (C:Bx),(st.bx.set k B')[j]?=some C->(j=k/\C=B')\/(j≠k/\st.bx[j]?=some C):=λj C I=>by
  by_cases J:j=k
  ·subst J;rw[nA aq]at I;exact .inl ⟨rfl,(oX I).symm⟩
  ·rw[nE (Ne.symm J)]at I;exact .inr ⟨J,I⟩
 have ai:∀ j,(j≠k\/x=e.at k)->Env.at (e.set k x) j=e.at j:=λj I=>by
  by_cases J:j=k
  ·subst J;rw[ac];exact I.resolve_left (by simp)
  ·exact ak j J
 have az:∀(j:Nat) (C:Bx),st.bx[j]?=some C->j∉pB->j≠k->∀ b,e.at j=some b->C≠.gone->w'.heap[b]?=w.heap[b]?:=λj C I hn J b Y hg=>by
  have hl:Lives pB e st.bx j b:=⟨hn,Y,C,I,hg⟩
  exact hold b (Lives.lt h.toMem hl) λhc=>J (h.inj j k b hl ⟨au,hc,B,hk,aj⟩)
 exact {
  el:=by simp[h.el]
  br:=λj C I hn=>by
   rcases ah j C I with⟨rfl,rfl⟩ | ⟨J,I⟩
   ·rw[ac];exact hB
   ·rw[ak j J];by_cases hg:C=.gone
    ·subst hg;exact True.intro
    refine(h.br j C I hn).congr (λb Y=>az j C I hn J b Y hg) λi hi=>ai i ?_;rcases hx with hx | ⟨_,_,U,_⟩
    ·exact .inr hx
    ·exact .inl λhc=>U j C I hn J (hc ▸ hi)
  bo:=λj C I hn=>by
   rcases ah j C I with⟨rfl,rfl⟩ | ⟨J,I⟩
   ·exact a7.mono ab ae aa
   ·exact(h.bo j C I hn).mono ab ae aa
  bf:=λj C I hn i hi=>by
   simp only[nX];rcases ah j C I with⟨rfl,rfl⟩ | ⟨J,I⟩
   ·exact a8 i hi
   ·exact h.bf j C I hn i hi
  inj:=λi j b hi I=>by
   rcases O i b hi with h1 | ⟨rfl,_,h1⟩
   ·rcases O j b I with U | ⟨rfl,_,U⟩
    ·exact h.inj i j b h1 U
    ·have:=Lives.lt h.toMem h1;omega
   ·rcases O j b I with U | ⟨rfl,_,U⟩
    ·have:=Lives.lt h.toMem U;omega
    ·rfl
  ku:=h.ku.trans ba
  size:=oR h.size ae
  old:=λb Y hn=>by
   refine(hold b (o6 Y h.size) λhc=>?_).trans (h.old b Y hn);rcases h.own k b ⟨au,hc,B,hk,aj⟩with h1 | h1
   ·omega
   ·exact hn h1.1
  fz:=λb c t z Y hc=>by
   by_cases bc:b<w.heap.size
   ·by_cases a6:e.at k=some b
    ·exact ao b c t z (.inr a6) hc
    ·rw[hold b bc a6]at hc;exact h.fz b c t z Y hc
   ·exact ao b c t z (.inl (by omega)) hc
  nd:=h.nd
  sz:=h.sz
  hN:=oR h.hN ae
  hs:=λi p hi hp=>by
   rcases h.hs i p hi hp with h1 | h1
   ·exact .inl h1
   ·refine .inr (h1.trans (PV.val_congr p λj I=>ai j ?_).symm);rcases hx with hx | ⟨_,U,_⟩
    ·exact .inr hx
    ·exact .inl λhc=>U i p hi hp (hc ▸ I)
  so:=λi p hi hp=>PV.Ok.mono ab ae aa p (h.so i p hi hp)
  sr:=λi p hi hp j I=>by simp only[nX];exact h.sr i p hi hp j I
  own:=λj b I=>by
   rcases O j b I with h1 | ⟨_,_,h1⟩
   ·exact h.own j b h1
   ·exact .inl (oR h.size h1)
  avl:=h.avl
  avn:=λj b I=>by
   rcases O j b I with h1 | ⟨_,_,h1⟩
   ·exact h.avn j b h1
   ·intro hc;have U:=h.avl.lt b hc;have h3:=h.size;omega
  pin:=λj b Y=>by
   have:=h.pin j b Y
   by_cases J:j=k
   ·subst J;rw[ac];rcases aw with h1 | h1
    ·rw[h1];exact this
    ·exact absurd Y (h1 b)
   ·rw[ak j J];exact this
  pit:=h.pit }
def dcs (x:D)(n:Nat):List PV:=(List.range n).map λj=>.dc (x.cell j)
def stV (z o:Nat)(cs:List PV)(p:PV)(K:Bx->Prop):Prop:=
 match qp p with
 | some ps=>if ps.length=ez z/\o+ps.length<=cs.length then K (.var (rG o ps cs))else False
 | none=>False
def Qy (o:Nat)(ds cs:List D):List D:=cs.take o++ds++cs.drop (o+ds.length)
def O9 (z zz:Nat) (B:Bx) (i o:Nat) (p:PV) (K:Bx->Prop):Prop:=
 match B with
 | .var cs=>match i with
   | 0=>match p with
     | .dg n x=>if o=0/\n=cs.length/\z=n/\n≠0 then K (.vd x n)else stV z o cs p K
     | _=>stV z o cs p K
   | _+1=>False
 | .vd x n=>match i with
   | 0=>match p with
     | .dg m y=>if o=0/\m=n/\z=n/\n≠0 then K (.vd y n)else stV z o (dcs x n) p K
     | _=>stV z o (dcs x n) p K
   | _+1=>False
 | .arr t z' es c=>if zz=z' then i<es.length /\
  (if z=z'/\o=0 then(match MA z p with
    | some d=>K (.arr t z' (es.set i d) c)
    | none=>False)
   else if z'=0 then False
   else match(qp p).bind JR with
    | some ds=>if ds.length=ez z/\o+ds.length<=z' then K (.arr t z' (es.set i (.ag (Qy o ds (es.getD i default).cells))) c)else False
    | none=>False)else False
 | .gone=>False
def stF (P:Program)(ρ:Operand->PV)(rb:Nat->Option Bx)(t:TypeId)(x y:Operand)(K:Nat->Bx->Prop):Prop:=
 match kz P t,ρ x with
 | some z,.pb k zz i o=>match rb k with
   | some B=>O9 z zz B i o (retag P t (ρ y)) (K k)
   | none=>False
 | _,_=>False
variable {av:Nat->Prop} {P:Program} {w0 w w':World} {e0 e:Env} {pS pS' pB:List Nat} {a:Act} {st st':St}
theorem Fy {t:TypeId} {z:Nat} (U:kz P t=some z) {b off:Nat} {c:Array Value} {J:TypeId} (Y:w.heap[b]?=some (.cells c J (0,0))) {v:Value}
  (I:v.cells.toList.length=ez z) (aa:off+ez z<=c.size) (h1:∀ u∈v.cells.toList,u.oneCell'=true) :
  (Instr.storeAt t (.pointer (some ⟨b,off,none⟩)) v).run P w=.ok () (w.setRow b (c.toList.take off++v.cells.toList++c.toList.drop (off+ez z)).toArray):=by
 have O:=run_storeCells_at (P:=P) b off J v.cells.toList 0 c w Y (by rw[I];omega) h1;rw[mU,I]at O;have hs:v.cells.size=ez z:=by simpa using I
 simp[Instr.storeAt,Instr.sureAddr,storeVar,wz U,hs,O]
theorem pF {e:Env}{k:Nat}(h:k<e.length):e.set k (e.at k)=e:=by
 apply nJ;intro i;rw[nR];split
 ·rename_i hi;subst hi;simp[h,Env.at]
 ·rfl
theorem Bo (h:Rel av w0 e0 pS pB a w e st) {k b:Nat} {B B':Bx} {c I:Array Value} {tb:TypeId} (hk:st.bx[k]?=some B) (U:k∉pB) (Y:B≠.gone) (J:e.at k=some b)
  (hb:w.heap[b]?=some (.cells c tb (0,0))) (hA:B.isArr=true->B'.isArr=true)
  (hB:B'.Rel (w.setRow b I) e (e.at k)) (aa:B'.Ok w (zY av pB e st.bx)) (ab:∀ j∈B'.refs,j∉pB/\j<st.bx.length) :
  Rel av w0 e0 pS pB a (w.setRow b I) e { st with bx:=st.bx.set k B' }:=by
 have O:k<e.length:=by rw[h.el];exact(oD.1 hk).1
 have hs:(w.setRow b I).heap.size=w.heap.size:=by simp[World.setRow]
 have:=Ma h (w':=w.setRow b I) (x:=e.at k) hk U Y (by rw[hs];exact oC _) (λj hj hn=>setRow_other w b j I (λhc=>hn (by rw[J,hc]))) (.inl rfl) hA (.inl rfl) (by rw[pF O];exact hB) aa ab λj c2 t2 z hj hc=>by
  rcases hj with hj | hj
  ·have:=(oW.1 hc).1;omega
  ·rw[J]at hj;cases hj;rw[setRow_heap w b c I tb _ hb]at hc;cases hc;exact fz0
 rwa[pF O]at this
theorem Ul {x:D}{n:Nat}(O:IsAg n x){c:Array Value}(hc:c.size=n)(h:∀(i:Nat)(u:D),x.cells[i]?=some u->c[i]?=some u.cv):CellsAre e c.toList (dcs x n):=by
 refine⟨by simp[dcs,hc],λi q I=>.inr ?_⟩;simp only[dcs,oF]at I;cases J:(List.range n)[i]? with
 | none=>simp[J]at I
 | some j=>
   rw[J]at I;simp at I;subst I;have hi:i<n:=by have:=(oD.1 J).1;simpa using this
   have U:j=i:=by have:=(oD.1 J).2;simpa using this.symm
   subst U
   have:=h j _ (O.cell hi).2
   simpa [PV.cv]using this
theorem WT {x:D}{n:Nat}(I:IsAg n x){live:Nat->Prop}(J:Good w live x):∀ p∈dcs x n,p.Ok w live/\p.isC/\p.refs=[]:=by intro p O;obtain⟨j,U,rfl⟩:=oU.1 O;exact⟨⟨J.cell j,(I.cell (by simpa using U)).1⟩,trivial,rfl⟩
theorem K9 (h:Rel av w0 e0 pS pB a w e st) {t:TypeId} {z o k b:Nat} {B:Bx} {cs:List PV} {v:Value} {p:PV} {K:Bx->Prop} {c:Array Value} {tb:TypeId} (hz:kz P t=some z)
  (hk:st.bx[k]?=some B) (aa:k∉pB) (ab:B≠.gone) (ac:B.isArr=false) (Y:e.at k=some b) (hb:w.heap[b]?=some (.cells c tb (0,0))) (J:CellsAre e c.toList cs) (I:CM av w e pB st.bx cs)
  (hv:ValOk av w e pB st.bx v p) (hs:stV z o cs p K) :
  ∃ w' B',(Instr.storeAt t (.pointer (some ⟨b,o,none⟩)) v).run P w=.ok () w'/\K B'/\Rel av w0 e0 pS pB a w' e { st with bx:=st.bx.set k B' }:=by
 unfold stV at hs;split at hs
 ·rename_i ps ae;split at hs
  ·rename_i hc;obtain⟨a1,a2,a3⟩:=wY ae hv;have O:∀ q∈rG o ps cs,q∈cs.take o\/q∈ps\/q∈cs.drop (o+ps.length):=λq hq=>by simpa [rG]using hq
   have hl:v.cells.toList.length=ez z:=by rw[a1.1];exact hc.1
   have ah:c.size=cs.length:=by have:=J.1;simpa using this
   refine⟨_,_,Fy hz hb hl (by rw[ah,<-hc.1];exact hc.2) a3,hs,Bo h hk aa ab Y hb (by simp[ac]) ?_ ?_ ?_⟩
   ·rw[Y];refine⟨b,_,tb,rfl,setRow_heap w b c _ tb _ hb,?_,?_⟩
    ·have:=((J.take o).append a1).append (J.drop (o+ez z))
     rw[<-hc.1]at this ⊢;simpa [rG]using this.1
    ·have:=((J.take o).append a1).append (J.drop (o+ez z))
     intro i q hq;rw[<-hc.1]at this;rcases this.2 i q (by simpa [rG]using hq)with h1 | h1
     ·exact .inl h1
     ·right;rw[<-hc.1];simpa using h1
   ·refine⟨PV.OkL_iff.2 λq hq=>?_,λq hq=>?_⟩
    ·rcases O q hq with hq | hq | hq
     ·exact(I q (ol hq)).1
     ·exact(a2 q hq).1
     ·exact(I q (nD hq)).1
    ·rcases O q hq with hq | hq | hq
     ·exact(I q (ol hq)).2.1
     ·exact .inr (a2 q hq).2.1
     ·exact(I q (nD hq)).2.1
   ·intro j U;simp only[Bx.refs]at U;obtain⟨q,hq,U⟩:=PV.refsL_mem.1 U;rcases O q hq with hq | hq | hq
    ·exact(I q (ol hq)).2.2 j U
    ·exact(a2 q hq).2.2 j U
    ·exact(I q (nD hq)).2.2 j U
  ·exact hs.elim
 ·exact hs.elim
theorem S6 {o:Nat} {ds cs:List D} {vs:List Value} {c:List Value} (O:ds.map D.cv=vs) (Y:o+ds.length<=cs.length)
  (h:∀(i:Nat) (u:D),cs[i]?=some u->c[i]?=some u.cv) (i:Nat) (u:D) (I:(Qy o ds cs)[i]?=some u):(c.take o++vs++c.drop (o+vs.length))[i]?=some u.cv:=by
 have aa:cs.length<=c.length:=by
  by_cases h0:cs.length=0
  ·omega
  ·have:=h (cs.length - 1) _ (oI (by omega))
   have:=(oD.1 this).1;omega
 have U:vs.length=ds.length:=by rw[<-O];simp
 unfold Qy at I;rw[oP,mt]at I ⊢;simp only[nL]at I ⊢;rw[show min o cs.length=o by omega]at I;rw[show min o c.length=o by omega];split at I
 ·rename_i hi;rw[if_pos hi];rw[oi]at I ⊢;rw[if_pos hi]at I ⊢;exact h i u I
 ·rename_i hi;rw[if_neg hi];rw[mt]at I ⊢;rw[U];split at I
  ·rename_i J;rw[if_pos J,<-O,oF,I];rfl
  ·rename_i J;rw[if_neg J];rw[nQ]at I ⊢;exact h _ u I
theorem Hl {z:Nat} {es:List D} (h:∀ e∈es,eOk z e) {i:Nat} (hi:i<es.length) (d:D) :
  yV (es.set i d)=(yV es).take (i*ez z)++d.cells++(yV es).drop ((i+1)*ez z):=by
 induction es generalizing i with
 | nil=>simp at hi
 | cons x es J=>
   have I:=xi (h x (by simp));cases i with
   | zero=>simp only[mb,vp,mw,mu,oa,nG,Nat.one_mul];rw[<-I,List.drop_left]
   | succ i=>
     simp only[oJ]at hi;simp only[mq,vp];rw[J (λy O=>h y (by simp[O])) (by omega)];have e1:(i+1)*ez z=x.cells.length+i*ez z:=by rw[I,nP];omega
     have U:(i+1+1)*ez z=x.cells.length+(i+1)*ez z:=by rw[I,nP (i+1)];omega
     rw[U,List.drop_length_add_append];rw[e1,List.take_length_add_append];simp only[oP,<-e1]
theorem Oc {z:Nat} {es:List D} (h:∀ e∈es,eOk z e) {i o:Nat} (hi:i<es.length) {ds:List D} {vs:List Value} {c:List Value} (U:ds.map D.cv=vs) (ah:o+ds.length<=ez z)
  (hc:∀(j:Nat) (u:D),(yV es)[j]?=some u->c[j]?=some u.cv) {d:D} (hd:d.cells=Qy o ds (es.getD i default).cells) (j:Nat) (u:D) (hu:(yV (es.set i d))[j]?=some u) :
  (c.take (i*ez z+o)++vs++c.drop (i*ez z+o+vs.length))[j]?=some u.cv:=by
 have Y:=zg h;have I:es[i]?=some (es.getD i default):=by simp[oA,oI hi]
 have aa:eOk z (es.getD i default):=h _ (oB I);have ai:=xi aa;have ac:(i+1)*ez z<=es.length*ez z:=nc _ hi;have ae:(i+1)*ez z=i*ez z+ez z:=by rw[nP];omega
 have ab:yV es=(yV es).take (i*ez z)++(es.getD i default).cells++(yV es).drop ((i+1)*ez z):=by
  have h1:=Hl h hi (es.getD i default);rwa[show es.set i (es.getD i default)=es from by
   apply nJ;intro j;rw[nR];split
   ·rename_i hj;subst hj;simp[hi,I]
   ·rfl]at h1
 have J:yV (es.set i d)=Qy (i*ez z+o) ds (yV es):=by
  rw[Hl h hi d,hd];unfold Qy;have O:((yV es).take (i*ez z)).length=i*ez z:=by simp;omega
  conv=>rhs;rw[ab]
  have t1:((yV es).take (i*ez z)++(es.getD i default).cells++(yV es).drop ((i+1)*ez z)).take (i*ez z+o)=(yV es).take (i*ez z)++(es.getD i default).cells.take o:=by rw[oP,List.take_append,O,List.take_append];rw[om (by omega)];rw[show i*ez z+o - i*ez z=o by omega,show o - (es.getD i default).cells.length=0 by omega];simp
  have t2:((yV es).take (i*ez z)++(es.getD i default).cells++(yV es).drop ((i+1)*ez z)).drop (i*ez z+o+ds.length)=(es.getD i default).cells.drop (o+ds.length)++(yV es).drop ((i+1)*ez z):=by rw[oP,List.drop_append,O,List.drop_append];rw[List.drop_of_length_le (by omega)];rw[show i*ez z+o+ds.length - i*ez z=o+ds.length by omega,show o+ds.length - (es.getD i default).cells.length=0 by omega];simp
  rw[t1,t2];simp
 rw[J]at hu;exact S6 U (by rw[Y];omega) hc j u hu
theorem SR {z o:Nat}{x:D}{ds:List D}(O:z≠0)(U:eOk z x)(I:∀ d∈ds,d.isCell)(Y:o+ds.length<=z):eOk z (.ag (Qy o ds x.cells)):=by
 have hl:=xi U;have hc:=Co U;have aa:ez z=z:=by simp[ez,O]
 simp only[eOk,O,na];refine⟨_,rfl,?_,λc J=>?_⟩
 ·simp[Qy];omega
 ·rcases oM.1 J with h1 | h1
  ·rcases oM.1 h1 with h1 | h1
   ·exact hc c (ol h1)
   ·exact I c h1
  ·exact hc c (nD h1)
theorem Nm (h:Rel av w0 e0 pS pB a w e st) {t tb:TypeId} {z z' k b i o n:Nat} {es:List D} {v:Value} {c:Array Value} (hz:kz P t=some z)
  (hk:st.bx[k]?=some (.arr tb z' es n)) (O:k∉pB) (U:e.at k=some b) (hb:w.heap[b]?=some (.cells c tb (0,0)))
  (ak:n*ez z'<=c.size) (hn:es.length<=n) (hm:n<=maxLen) (he:∀ x∈es,eOk z' x) (hf:∀(i:Nat) (u:D),(yV es)[i]?=some u->c[i]?=some u.cv) (hi:i<es.length)
  {ds:List D} (Y:ds.map D.cv=v.cells.toList) (h1:∀ u∈v.cells.toList,u.oneCell'=true) (aa:ds.length=ez z) (ab:o+ds.length<=ez z') {d:D} (hd:d.cells=Qy o ds (es.getD i default).cells)
  (ac:eOk z' d) (ae:Good w (zY av pB e st.bx) d) :
  ∃ w',(Instr.storeAt t (.pointer (some ⟨b,i*ez z'+o,none⟩)) v).run P w=.ok () w'/\Rel av w0 e0 pS pB a w' e { st with bx:=st.bx.set k (.arr tb z' (es.set i d) n) }:=by
 have I:v.cells.toList.length=ez z:=by rw[<-Y];simpa using aa
 have ai:(i+1)*ez z'<=n*ez z':=nc _ (by omega);have aj:(i+1)*ez z'=i*ez z'+ez z':=by rw[nP];omega
 have ah:=h.bo k _ hk O;refine⟨_,Fy hz hb I (by omega) h1,Bo h hk O (by simp) U hb (λ_=>rfl) ?_ ?_ (by simp[Bx.refs])⟩
 ·rw[U];refine .inr ⟨b,_,rfl,setRow_heap w b c _ tb _ hb,?_,by simpa using hn,hm,?_,?_⟩
  ·simp only[nq,oH,nL,mW,nY,I];omega
  ·intro x J;rcases nM J with J | rfl
   ·exact he x J
   ·exact ac
  ·intro j u hu
   have:=Oc he hi Y ab (c:=c.toList) (λj u hu=>by simpa using hf j u hu) hd j u hu
   rw[I]at this;simpa using this
 ·intro x J;rcases nM J with J | rfl
  ·exact ah x J
  ·exact ae
theorem Fx (h : Rel av w0 e0 pS pB a w e st) {t:TypeId} {z zz k i o:Nat} {B:Bx} {v:Value} {p:PV} {K:Bx->Prop} (hz:kz P t=some z)
  (hk:st.bx[k]?=some B) (hkp:k∉pB) (hv:ValOk av w e pB st.bx v p) (hs:O9 z zz B i o p K) :
  ∃ w' B',(Instr.storeAt t (.pointer (some ⟨(e.at k).getD 0,i*ez zz+o,none⟩)) v).run P w=.ok () w'/\K B'/\Rel av w0 e0 pS pB a w' e { st with bx:=st.bx.set k B' }:=by
 have hr:=h.br k B hk hkp;have hok:=h.bo k B hk hkp;have hrf:=h.bf k B hk hkp;have whole:∀(n:Nat) (x:D) (b:Nat) (c:Array Value) (tb:TypeId),B≠.gone->B.isArr=false->e.at k=some b->w.heap[b]?=some (.cells c tb (0,0))->c.size=n->p=.dg n x->o=0->i=0->z=n->n≠0->K (.vd x n) ->
   ∃ w' B',(Instr.storeAt t (.pointer (some ⟨(e.at k).getD 0,i*ez zz+o,none⟩)) v).run P w=.ok () w'/\K B'/\Rel av w0 e0 pS pB a w' e { st with bx:=st.bx.set k B' }:=by
  intro n x b c tb hng hnA hat hb hcs hp ho hi hzn hn0 hK;subst hp;subst ho;subst hi;subst hzn;have hv1:=hv.1.resolve_left (by simp);obtain⟨hg,ha⟩:=hv.2.1;have hvc:v.cells.toList=x.cells.map D.cv:=by rw[hv1];simp only[PV.val,PV.val1,ha.val,Value.cells]
  have hez:ez z=z:=by simp[ez,hn0]
  have hvl:v.cells.toList.length=ez z:=by rw[hvc,hez];simpa using ha.length
  have h1:∀ u∈v.cells.toList,u.oneCell'=true:=by rw[hvc];intro u hu;obtain⟨y,hy,rfl⟩:=oU.1 hu;obtain⟨cs,rfl,_,hc⟩:=ha;exact xh (hc y hy)
  refine⟨_,_,by rw[hat];simp only[nB,mw,mU];exact Fy hz hb hvl (by omega) h1,hK,Bo h hk hkp hng hat hb (by simp[hnA]) ?_ hg (by simp[Bx.refs])⟩;rw[hat];refine⟨b,_,tb,rfl,setRow_heap w b c _ tb _ hb,?_,ha,?_⟩
  ·simp only[nq,oH,nL,mW,nY,hvl];omega
  ·intro j u hu;have hlt:j<x.cells.length:=(oD.1 hu).1;simp only[mu,oa,List.getElem?_toArray];rw[oQ (by rw[hvc];simpa using hlt),hvc,oF,hu];rfl
 cases B with
 | gone=>exact hs.elim
 | var cs=>
   obtain⟨b,c,tb,h1,h2,h3,h4⟩:=hr;obtain⟨ho1,ho2⟩:=hok;rw[PV.OkL_iff]at ho1;simp only[Bx.refs]at hrf;have hca:CellsAre e c.toList cs:=⟨by simpa using h3,fun i p hp=>by simpa [Td]using h4 i p hp⟩
   have hco:CM av w e pB st.bx cs:=fun q hq=>⟨ho1 q hq,ho2 q hq,fun j hj=>hrf j (PV.refsL_mem.2 ⟨q,hq,hj⟩)⟩
   have go:i=0->stV z o cs p K->∃ w' B',(Instr.storeAt t (.pointer (some ⟨(e.at k).getD 0,i*ez zz+o,none⟩)) v).run P w=.ok () w'/\K B'/\Rel av w0 e0 pS pB a w' e { st with bx:=st.bx.set k B' }:=fun hi hs2=>by
    subst hi
    have:=K9 h hz hk hkp (by simp) rfl h1 h2 hca hco hv hs2
    simpa [h1]using this
   simp only[O9]at hs;split at hs
   ·split at hs
    ·split at hs
     ·rename_i n x hc;exact whole n x b c tb (by simp) rfl h1 h2 (by omega) rfl hc.1 rfl hc.2.2.1 hc.2.2.2 hs
     ·exact go rfl hs
    ·exact go rfl hs
   ·exact hs.elim
 | vd x n=>
   obtain⟨b,c,tb,h1,h2,h3,h4,h5⟩:=hr;have hca:CellsAre e c.toList (dcs x n):=Ul h4 h3 h5;have hco:CM av w e pB st.bx (dcs x n):=fun q hq=>by obtain⟨a1,a2,a3⟩:=WT h4 hok q hq;exact⟨a1,.inr a2,by rw[a3];simp⟩
   have go:i=0->stV z o (dcs x n) p K->∃ w' B',(Instr.storeAt t (.pointer (some ⟨(e.at k).getD 0,i*ez zz+o,none⟩)) v).run P w=.ok () w'/\K B'/\Rel av w0 e0 pS pB a w' e { st with bx:=st.bx.set k B' }:=fun hi hs2=>by
    subst hi
    have:=K9 h hz hk hkp (by simp) rfl h1 h2 hca hco hv hs2
    simpa [h1]using this
   simp only[O9]at hs;split at hs
   ·split at hs
    ·split at hs
     ·rename_i m y hc;obtain⟨hc1,hc2,hc3,hc4⟩:=hc;subst hc2;exact whole _ y b c tb (by simp) rfl h1 h2 h3 rfl hc1 rfl hc3 hc4 hs
     ·exact go rfl hs
    ·exact go rfl hs
   ·exact hs.elim
 | arr tb z' es n=>
   simp only[O9]at hs;split at hs
   ·rename_i hzz;subst hzz;obtain⟨hi,hs⟩:=hs;rcases hr with⟨_,h2,_⟩ | ⟨b,c,h1,h2,h3,h4,h5,h6,h7⟩
    ·subst h2;simp at hi
    have hge:es[i]?=some (es.getD i default):=by simp[oA,oI hi]
    have heo:eOk zz (es.getD i default):=h6 _ (oB hge);have hgo:Good w (zY av pB e st.bx) (es.getD i default):=hok _ (oB hge);have hel:=xi heo;rw[h1];simp only[nB];split at hs
    ·rename_i hc;obtain⟨rfl,rfl⟩:=hc;split at hs
     ·rename_i d hd;obtain⟨g1,g2,g3⟩:=Cr (e:=e) hd hv.2.1;have hpne:p≠.any:=fun hp=>by subst hp;simp[MA,pY]at hd
      have hv1:=hv.1.resolve_left hpne;have hvc:v.cells.toList=d.cells.map D.cv:=by
       rw[hv1,<-g3];cases d with
       | lit x=>
         simp only[D.val,D.cells,nH,my,D.cv];by_cases hz0:z=0
         ·simp[eOk,hz0,D.isCell]at g2;cases x<;>simp[Value.cells,Value.oneCell']at g2 ⊢
         ·simp[eOk,hz0,IsAg]at g2
       | ag cs=>simp[D.val,D.cells,Value.cells]
       | sl aa zz' es' cap=>simp[D.val,D.cells,Value.cells,D.cv]
       | pt ad' zz' x'=>simp[D.val,D.cells,Value.cells,D.cv]
       | fn f' caps'=>simp[D.val,D.cells,Value.cells,D.cv]
       | mp b' es' c'=>simp[D.val,D.cells,Value.cells,D.cv]
      have hdl:d.cells.length=ez z:=xi g2;obtain⟨w',r1,r2⟩:=Nm h hz hk hkp h1 h2 h3 h4 h5 h6 h7 hi (ds:=d.cells) (o:=0) hvc.symm (by rw[hvc];intro u hu;obtain⟨y,hy,rfl⟩:=oU.1 hu;exact xh (Co g2 y hy)) hdl (by omega) (d:=d) (by rw[Qy,nG,hdl,List.drop_of_length_le (by omega)];simp) g2 g1;exact⟨w',_,r1,hs,r2⟩
     ·exact hs.elim
    ·split at hs
     ·exact hs.elim
     ·rename_i hz0;split at hs
      ·rename_i ds hds;split at hs
       ·rename_i hc;cases hps:qp p with
        | none=>rw[hps]at hds;cases hds
        | some ps=>
          rw [hps]at hds;simp only[oO]at hds;obtain⟨a1,a2,a3⟩:=wY hps hv;obtain⟨b1,b2⟩:=sX (e:=e) hds (PV.OkL_iff.2 fun q hq=>(a2 q hq).1);have hvc:ds.map D.cv=v.cells.toList:=by
           rw[b2,PV.cvs_eq];apply nJ;intro j;rw[oF];cases hj:ps[j]? with
           | none=>have:v.cells.toList[j]?=none:=ob (by rw[a1.1];exact mH.1 hj);rw[this];rfl
           | some q=>
             have:=(a1.2 j q hj).resolve_left (fun hq=>by
              have:=(a2 q (oB hj)).2.1
              rw[hq]at this;exact this)
             rw[this];rfl
          have hezz:ez zz=zz:=by simp[ez,hz0]
          obtain⟨w',r1,r2⟩:=Nm h hz hk hkp h1 h2 h3 h4 h5 h6 h7 hi (ds:=ds) (o:=o) hvc a3 hc.1 (by rw[hezz];exact hc.2) (d:=.ag (Qy o ds (es.getD i default).cells)) rfl
           (SR hz0 heo (fun d hd=>(b1 d hd).2) hc.2) (Good.ag fun d hd=>by
            rcases oM.1 hd with hd | hd
            ·rcases oM.1 hd with hd | hd
             ·exact hgo.cells d (ol hd)
             ·exact(b1 d hd).1
            ·exact hgo.cells d (nD hd))
          exact⟨w',_,r1,hs,r2⟩
       ·exact hs.elim
      ·exact hs.elim
   ·exact hs.elim
theorem RW (h:Rel av w0 e0 pS pB a w e st) {t:TypeId} {x y:Operand} {K:Nat->Bx->Prop} (O:∀ i,x=.tmp i->i∉pS) (U:∀ i,y=.tmp i->i∉pS)
  (hs:stF P (opd st.sl) (λk=>st.bx[k]?) t x y K) :
  ∃ w' k B',(Instr.storeAt t (a.eval x) (a.eval y)).run P w=.ok () w'/\K k B'/\Rel av w0 e0 pS pB a w' e { st with bx:=st.bx.set k B' }:=by
 have ox:=vC h O;have Y:=(vC h U).valOk.retag (P:=P) t;unfold stF at hs;split at hs
 ·rename_i z k zz i o hz hp;rw[hp]at ox;have I:=ox.h.resolve_left (by simp);have J:=ox.rf k (by simp[PV.refs]);split at hs
  ·rename_i B hB;rw[I];obtain⟨w',B',r1,r2,r3⟩:=Fx h hz hB J.1 Y hs;exact⟨w',k,B',r1,r2,r3⟩
  ·exact hs.elim
 ·exact hs.elim
def PV.kill (k:Nat)(p:PV):PV:=if p.refs.contains k then .any else p
def Bx.kill (k:Nat):Bx->Bx
 | .var cs=>.var (cs.map (PV.kill k))
 | B=>B
def St.kill (k:Nat)(st:St):St:={ st with sl:=st.sl.map (PV.kill k),bx:=st.bx.map (Bx.kill k) }
theorem PV.kill_cases (k:Nat)(p:PV):p.kill k=.any\/(p.kill k=p/\k∉p.refs):=by
 unfold PV.kill;split
 ·exact .inl rfl
 ·rename_i h;exact .inr ⟨rfl,by simpa using h⟩
theorem pC (k:Nat) (st:St):st.Weak (st.kill k) where
 sl := λi p hi=>by
  simp only[St.kill,oF]at hi;cases h:st.sl[i]? with
  | none=>simp[h]at hi
  | some q=>
    simp[h]at hi;rcases PV.kill_cases k q with h1 | h1
    ·exact .inl (by rw[<-hi,h1])
    ·exact .inr (by rw[<-hi,h1.1])
 len:=by simp[St.kill]
 bl:=by simp[St.kill]
 bx := λj B' I=>by
  simp only[St.kill,oF]at I;cases h:st.bx[j]? with
  | none=>simp[h]at I
  | some B=>
    simp[h]at I;refine⟨B,rfl,?_⟩;cases B with
    | var cs=>
      refine .inr (.inr ⟨cs,_,rfl,I.symm,by simp,λi p hi=>?_⟩);simp only[oF]at hi;cases J:cs[i]? with
      | none=>simp[J]at hi
      | some q=>
        simp[J]at hi;rcases PV.kill_cases k q with h1 | h1
        ·exact .inl (by rw[<-hi,h1])
        ·exact .inr (by rw[<-hi,h1.1])
    | _=>exact .inr (.inl I.symm)
 N:=oC _
 pin:=rfl
theorem FZ {k:Nat}{st:St}:(∀(i:Nat)(p:PV),(st.kill k).sl[i]?=some p->k∉p.refs)/\∀(j:Nat)(B:Bx),(st.kill k).bx[j]?=some B->k∉B.refs:=by
 constructor
 ·intro i p hi;simp only[St.kill,oF]at hi;cases h:st.sl[i]? with
  | none=>simp[h]at hi
  | some q=>
    simp[h]at hi;subst hi;rcases PV.kill_cases k q with h1 | h1
    ·rw[h1];simp[PV.refs]
    ·rw[h1.1];exact h1.2
 ·intro j B I;simp only[St.kill,oF]at I;cases h:st.bx[j]? with
  | none=>simp[h]at I
  | some C=>
    simp[h]at I;subst I;cases C with
    | var cs=>
      intro hc;simp only[Bx.kill,Bx.refs]at hc;obtain⟨p,O,J⟩:=PV.refsL_mem.1 hc;obtain⟨q,_,rfl⟩:=oU.1 O;rcases PV.kill_cases k q with h1 | h1
      ·rw[h1]at J;simp[PV.refs]at J
      ·rw[h1.1]at J;exact h1.2 J
    | _=>simp[Bx.kill,Bx.refs]
theorem Se {k:Nat}{st:St}{j:Nat}{t:TypeId}{z n:Nat}{es:List D}(h:st.bx[j]?=some (.arr t z es n)):(st.kill k).bx[j]?=some (.arr t z es n):=by simp[St.kill,oF,h,Bx.kill]
def OM (g:Bool)(rb:Nat->Option Bx)(q:PV)(R:Nat->List D->Prop):Prop:=
 match q with
 | .sb k z lo n _=>match rb k with
   | some (.arr _ z' es _)=>match g with
     | false=>if z=z'/\lo=0/\n=es.length then R z es else False
     | true=>if z=z' then lo+n<=es.length/\R z ((es.drop lo).take n)else False
   | _=>False
 | .sv _ z es _=>R z es
 | _=>False
def zOk (P:Program)(el:TypeId)(z:Nat):Bool:=
 match Di P el with
 | some cs=>cs.length==ez z
 | none=>false
def zB (es new:List D)(bytes:Nat):Prop:=(es++new).length*bytes<=140737488355328
def Vm (a:Option Addr)(es:List D)(c:Nat)(new:List D):Prop:=match a,c with
 | none,0=>True
 | _,_=>c=es.length/\new≠[]
def pinned (st:St)(k:Nat):Bool:=match st.pins[k]? with
 | some (some _)=>true
 | _=>false
def capG (g:Bool)(n c:Nat)(A:Prop):Prop:=match g with
 | false=>A
 | true=>n<=c->A
theorem capG.of {g:Bool}{n c:Nat}{A:Prop}(h:capG g n c A)(hc:n<=c):A:=by
 cases g
 ·exact h
 ·exact h hc
theorem capG.mono {g:Bool}{n c:Nat}{A B:Prop}(h:capG g n c A)(I:A->B):capG g n c B:=by
 cases g
 ·exact I h
 ·exact λhc=>I (h hc)
def apF (g:Bool) (P:Program) (st:St) (dst:Option Nat) (t:TypeId) (x y:Operand) (K:St->Prop):Prop:=
 match P.underlying t with
 | some (.slice el)=>match kz P el,P.info? el with
   | some z,some i=>if i.bytes=0\/zOk P el z=false then False else
     OM g (λk=>st.bx[k]?) (retag P t (opd st.sl y)) λz2 new=>if z2=z then
      match retag P t (opd st.sl x)with
      | .sb k I lo n c=>match pinned st k with
        | true=>False
        | false=>match st.bx[k]? with
        | some (.arr t' z' es J)=>if I=z/\z'=z/\lo=0/\t'=el then
         (n=es.length/\c=J)/\zB es new i.bytes/\∀ c2,capG g (es++new).length c2 (K (St.put { st.kill k with bx:=(st.kill k).bx.set k (.arr el z (es++new) c2) } dst (.sb k z 0 (es++new).length c2)))else False
        | _=>False
      | .sv a I es c=>if I=z then
            Vm a es c new/\zB es new i.bytes/\∀ c2,K (St.put { st with bx:=st.bx++[.arr el z (es++new) c2] } dst (.sb st.bx.length z 0 (es++new).length c2))else False
      | _=>False
     else False
   | _,_=>False
 | _=>False
variable {av:Nat->Prop} {P:Program} {w0 w w':World} {e0 e:Env} {pS pS' pB:List Nat} {a:Act} {st st':St}
theorem BR {w:World}{ad:Addr}(hs:ad.spot=none){c:Array Value}{t:TypeId}{fz:Nat × Nat}(h:w.heap[ad.block]?=some (.cells c t fz))(j:Nat):w.cell? (ad.add j)=c[ad.off+j]?:=by obtain⟨b,o,s⟩:=ad;simp only at hs h ⊢;subst hs;rw[wx];exact tu h
theorem ST {z:Nat}{es:List D}(h:∀ e∈es,eOk z e){lo n:Nat}(O:lo<=es.length){j:Nat}{u:D}(J:(yV ((es.drop lo).take n))[j]?=some u):(yV es)[lo*ez z+j]?=some u:=by
 have e1:es=es.take lo++((es.drop lo).take n++(es.drop lo).drop n):=by rw[ni,ni]
 have I:(yV (es.take lo)).length=lo*ez z:=by rw[zg (z:=z) λx U=>h x (ol U),nL,Nat.min_eq_left O]
 rw[e1,xj,oT (by rw[I];exact Nat.le_add_right _ _),I,Nat.add_sub_cancel_left,xj,oQ (oD.1 J).1];exact J
theorem Lp {g:Bool} (h:Mem av pB w e st.bx) {v:Value} {q:PV} {R:Nat->List D->Prop} (hv:ValOk av w e pB st.bx v q) (hs:OM g (λk=>st.bx[k]?) q R) :
  ∃ z new,R z new/\(∀ x∈new,eOk z x/\Good w (zY av pB e st.bx) x) /\
    ((∃ c,v=.slice none new.length c/\new=[])\/∃ ad c,v=.slice (some ad) new.length c/\∀(j:Nat) (u:Value),((yV new).map D.cv)[j]?=some u->w.cell? (ad.add j)=some u):=by
 unfold OM at hs;split at hs
 ·rename_i k z lo n c;split at hs
  ·rename_i t z' es cb hk;split at hs
   rotate_left
   ·split at hs
    rotate_left
    ·exact hs.elim
    rename_i hc;subst hc;obtain⟨ae,hs⟩:=hs;have U:=(hv.2.2 k (by simp[PV.refs])).1;have hr:=h.br k _ hk U;have ab:=h.bo k _ hk U;have I:=hv.1.resolve_left (by simp);have ac:((es.drop lo).take n).length=n:=by simp;omega
    rcases hr with⟨h1,h2,h3⟩ | ⟨b,c',h1,h2,h3,h4,h5,h6,h7⟩
    ·subst h2;have ah:n=0:=by simp at ae;omega
     subst ah;refine⟨z,[],by simpa using hs,by simp,.inl ⟨c,?_,rfl⟩⟩;rw[I];simp[PV.val,PV.val1,PV.cv,h1]
    ·have aa:∀ x∈(es.drop lo).take n,x∈es:=λx Y=>nD (ol Y);refine⟨z,_,hs,λx Y=>⟨h6 x (aa x Y),ab x (aa x Y)⟩,.inr ⟨⟨b,lo*ez z,none⟩,c,?_,λj u J=>?_⟩⟩
     ·rw[I,ac];simp[PV.val,PV.val1,PV.cv,h1]
     ·rw[BR rfl h2];simp only[oF]at J;cases O:(yV ((es.drop lo).take n))[j]? with
      | none=>simp[O]at J
      | some d=>simp[O]at J;subst J;exact h7 _ d (ST h6 (by omega) O)
   split at hs
   ·rename_i hc;obtain⟨rfl,rfl,rfl⟩:=hc;have U:=(hv.2.2 k (by simp[PV.refs])).1;have hr:=h.br k _ hk U;have ab:=h.bo k _ hk U;have I:=hv.1.resolve_left (by simp);rcases hr with⟨h1,h2,h3⟩ | ⟨b,c',h1,h2,h3,h4,h5,h6,h7⟩
    ·subst h2;refine⟨z,[],hs,by simp,.inl ⟨c,?_,rfl⟩⟩;rw[I];simp[PV.val,PV.val1,PV.cv,h1]
    ·refine⟨z,es,hs,λx Y=>⟨h6 x Y,ab x Y⟩,.inr ⟨⟨b,0,none⟩,c,?_,λj u J=>?_⟩⟩
     ·rw[I];simp[PV.val,PV.val1,PV.cv,h1]
     ·rw[BR rfl h2];simp only[oF]at J;cases O:(yV es)[j]? with
      | none=>simp[O]at J
      | some d=>simp[O]at J;subst J;simpa using h7 j d O
   ·exact hs.elim
  ·exact hs.elim
 ·rename_i ad z es c;have I:=hv.1.resolve_left (by simp);have hg:=hv.2.1;simp only[PV.Ok]at hg;obtain⟨hh,ai⟩:=id hg;cases hh with
  | nil=>exact⟨z,[],hs,by simp,.inl ⟨0,by rw[I];rfl,rfl⟩⟩
  | sl h1 h2 h3 h4 h5=>
    rename_i ad;refine⟨z,es,hs,λx Y=>⟨h3 x Y,hg.elem Y⟩,.inr ⟨ad,c,by rw[I];rfl,λj u J=>?_⟩⟩;simp only[oF]at J;cases O:(yV es)[j]? with
    | none=>simp[O]at J
    | some d=>
      simp[O]at J;subst J;rcases h5 with h5 | ⟨cc,t,fz,h6,h7⟩
      ·rw[h5]at O;simp at O
      ·rw[BR (h1 λh=>by subst h;simp[yV]at O) h6];exact h7 j d O
 ·exact hs.elim
theorem Fv (t ty el:TypeId) (i:TypeInfo) (I:P.underlying t=some (.slice el)) (hi:P.info? el=some i) (b:Option Addr) (n c c2:Nat) (J:n<=c) :
  (Builtin.append_ #[t,t] ty #[.slice b n c,.slice none 0 c2]).run P w=.ok (.slice b n c) w:=by
 cases b<;>simp[Builtin.append_,run_underlying I,sizeOf,typeInfo,hi,Builtin.lenOf,J,Builtin.firstCells,loadCells,loadCellsFrom,storeCells]
theorem FN {z:Nat}{es:List D}(h:∀ e∈es,eOk z e):∀ u∈(yV es).map D.cv,u.oneCell'=true:=by intro u I;obtain⟨d,hd,rfl⟩:=oU.1 I;exact xh (MD h d hd)
theorem OJ {t:TypeId}{z:Nat}(h:zOk P t z=true):∃ i v,P.info? t=some i/\i.zero=some v/\v.cells.size=ez z:=by
 unfold zOk at h;split at h
 ·rename_i cs I;obtain⟨i,v,J,O,U,_⟩:=vg I
  have:=(U default []).1
  exact⟨i,v,J,O,by simp at h this;omega⟩
 ·cases h
theorem xO {l1 l2 l3:List Value}{ds1 I:List D}(O:l1=ds1.map D.cv)(U:l2=I.map D.cv)(i:Nat)(u:D)(Y:(ds1++I)[i]?=some u):(l1++l2++l3)[i]?=some u.cv:=by have J:i<(ds1++I).length:=(oD.1 Y).1;rw[oQ (by subst O;subst U;simpa using J),O,U,<-mr,oF,Y];rfl
theorem C2 (h:Rel av w0 e0 pS pB a w e st) {el:TypeId} {z n:Nat} {es:List D} {c:Array Value} (hp:st.bx.length∉pB) (J:∀ x∈es,eOk z x/\Good w (zY av pB e st.bx) x)
  (hc:c.size=n*ez z) (hn:es.length<=n) (hm:n<=maxLen) (hf:∀(i:Nat) (u:D),(yV es)[i]?=some u->c[i]?=some u.cv)
  {w2:World} (I:w2.heap=w.heap) {dst:Option Nat} (ae:∀ i,i∈pS->some i≠dst->i∈pS') (ah:KU w w2:=by exact⟨rfl,rfl⟩) :
  Rel av w0 e0 pS' pB (a.put dst (.slice (some ⟨w.heap.size,0,none⟩) es.length n)) (w2.alloc (.cells c el)) (e++[some w.heap.size]) (St.put { st with bx:=st.bx++[.arr el z es n] } dst (.sb st.bx.length z 0 es.length n)):=by
 have O:Rel av w0 e0 pS pB a w2 e st:=by
  have:=Nn h (w':=w2) (by rw[I];exact oC _) (λb _=>by rw[I]) (λb c t z hb hc=>by rw[I]at hc;have:=(oW.1 hc).1;omega) ah
  exact W0 this (by show st.N<=_;rw[I];exact h.hN)
 have Y:∀ x∈es,eOk z x/\Good w2 (zY av pB e st.bx) x:=λx U=>⟨(J x U).1,(J x U).2.mono (λb _ _=>by rw[I]) (λ_ _=>id)⟩
 have ai:=rC O (B:=.arr el z es n);have hL:∀ b,zY av (st.bx.length::pB) (e++[none]) (st.bx++[.arr el z es n]) b->zY av pB e st.bx b:=λb hb=>Bf (hb.imp id λ⟨k,hk⟩=>⟨k,(wW h.el).1 hk⟩);have nb:NewBox av w2 (e++[none]) (st.bx.length::pB) (st.bx++[.arr el z es n]) (.slice (some ⟨w2.heap.size,0,none⟩) es.length n) (w2.alloc (.cells c el)) (.arr el z es n) (λk=>.sb k z 0 es.length n):={
  val:=λk e' he=>by simp[PV.val,PV.val1,PV.cv,he]
  fr:=λk=>by simp[PV.refs]
  fok:=λk w live=>trivial
  rel:=λe' _=>.inr ⟨w2.heap.size,c,rfl,heap_alloc_new w2 _,Nat.le_of_eq hc.symm,hn,hm,λx U=>(J x U).1,hf⟩
  ok:=λx U=>(Y x U).2.mono (λ_ _ _=>rfl) (λb _=>hL b)
  rf:=by simp[Bx.refs]
  ng:=by simp }
 have aa:=Aa ai (k:=st.bx.length) (B:=.arr el z es n) (by simp) (by simp) nb;have ab:(st.bx.length::pB).filter (·≠st.bx.length)=pB:=by rw[List.filter_cons];simp only[ne_eq,mM,decide_false,mE,na];exact List.filter_eq_self.2 λk hk=>by simp;intro hc;exact hp (hc ▸ hk)
 have ac:(e++[none]).set st.bx.length (some w2.heap.size)=e++[some w2.heap.size]:=by rw[<-h.el,lL _ _ (oC _)];simp
 rw[ab,ac,I]at aa;refine xm aa (dst:=dst) (p:=.sb st.bx.length z 0 es.length n) ⟨.inr ?_,trivial,?_⟩ ae
 ·have:Env.at (e++[some w.heap.size]) st.bx.length=some w.heap.size:=by rw[<-h.el];exact Env.at_append_eq
  simp[PV.val,PV.val1,PV.cv,this]
 ·simp[PV.refs];exact hp
theorem pV (h:Rel av w0 e0 pS pB a w e st) {el:TypeId} {z:Nat} (hp:st.bx.length∉pB) :
  Rel av w0 e0 pS pB a w (e++[none]) { st with bx:=st.bx++[.arr el z [] 0] }:=by
 have I:=rC h (B:=.arr el z [] 0);have ac:Env.at (e++[none]) st.bx.length=none:=by rw[<-h.el];exact Env.at_append_eq
 have U:∀ k,k∈(st.bx.length::pB)↔k=st.bx.length\/k∈pB:=λk=>by simp
 have J:∀ k b,Lives pB (e++[none]) (st.bx++[.arr el z [] 0]) k b->Lives (st.bx.length::pB) (e++[none]) (st.bx++[.arr el z [] 0]) k b:=λk b ⟨h1,h2,h3⟩=>by
  refine⟨?_,h2,h3⟩;rw[U]
  rintro(h4 | h4)
  ·rw[h4,ac]at h2;cases h2
  ·exact h1 h4
 have Y:∀ b,zY av pB (e++[none]) (st.bx++[.arr el z [] 0]) b->zY av (st.bx.length::pB) (e++[none]) (st.bx++[.arr el z [] 0]) b:=λb hb=>hb.imp id λ⟨k,O⟩=>⟨k,J k b O⟩
 have aa:∀(B:Bx),(st.bx++[.arr el z [] 0])[st.bx.length]?=some B->B=.arr el z [] 0:=λB hB=>by simp at hB;exact hB.symm
 exact {
  el:=I.el
  br:=λk B O hn=>by
   by_cases ab:k=st.bx.length
   ·subst ab;rw[aa B O];exact .inl ⟨ac,rfl,rfl⟩
   ·exact I.br k B O (by rw[U];rintro(h4 | h4)<;>contradiction)
  bo:=λk B O hn=>by
   by_cases ab:k=st.bx.length
   ·subst ab;rw[aa B O];intro x hx;simp at hx
   ·exact(I.bo k B O (by rw[U];rintro(h4 | h4)<;>contradiction)).mono (λ_ _ _=>rfl) (oC _) λb _=>Y b
  bf:=λk B O hn j hj=>by
   by_cases ab:k=st.bx.length
   ·subst ab;rw[aa B O]at hj;simp[Bx.refs]at hj
   ·have:=I.bf k B O (by rw[U];rintro(h4 | h4)<;>contradiction) j hj
    exact⟨λhc=>this.1 (by simp[hc]),this.2⟩
  inj:=λk j b O hj=>I.inj k j b (J k b O) (J j b hj)
  ku:=I.ku
  size:=I.size
  old:=I.old
  fz:=I.fz
  nd:=I.nd
  sz:=I.sz
  hN:=I.hN
  hs:=I.hs
  so:=λi p hi hn=>PV.Ok.mono (λ_ _ _=>rfl) (oC _) (λb _=>Y b) p (I.so i p hi hn)
  sr:=λi p hi hn k O=>by
   have:=I.sr i p hi hn k O
   exact⟨λhc=>this.1 (by simp[hc]),this.2⟩
  own:=λk b O=>I.own k b (J k b O)
  avl:=I.avl
  avn:=λk b O=>I.avn k b (J k b O)
  pin:=λk b hb=>by have:=I.pin k b hb;exact⟨this.1,λhc=>this.2 (by simp[hc])⟩
  pit:=I.pit }
variable {av:Nat->Prop} {P:Program} {w0 w w':World} {e0 e:Env} {pS pS' pB:List Nat} {a:Act} {st st':St}
theorem HV {es new:List D}{bytes:Nat}(h:zB es new bytes)(I:bytes≠0):(es++new).length<=140737488355328:=by unfold zB at h;have:(es++new).length*1<=(es++new).length*bytes:=Nat.mul_le_mul_left _ (by omega);omega
theorem Holds.sl_inv {w:World} {a:Option Addr} {z:Nat} {es:List D} {cap:Nat} (h:Holds w (.sl a z es cap)) :
  es.length<=cap/\(∀ x∈es,eOk z x)/\((a=none/\es=[]/\cap=0)\/∃ ad,a=some ad/\(yV es≠[]->ad.spot=none)/\Row w ad (yV es)):=by
 cases h with
 | nil=>exact⟨oC _,by simp,.inl ⟨rfl,rfl,rfl⟩⟩
 | sl I J O h4 U=>exact⟨J,O,.inr ⟨_,rfl,λY=>I (Us Y),U⟩⟩
theorem RP {w:World}{ad:Addr}{ds:List D}(hs:ds≠[]->ad.spot=none)(h:Row w ad ds)(j:Nat)(u:Value)(J:(ds.map D.cv)[j]?=some u):w.cell? (ad.add j)=some u:=by
 simp only[oF]at J;cases I:ds[j]? with
 | none=>simp[I]at J
 | some d=>
   simp[I]at J;subst J;rcases h with O | ⟨cc,t,fz,U,Y⟩
   ·rw[O]at I;simp at I
   ·rw[BR (hs λh=>by rw[h]at I;simp at I) U];exact Y j d I
def X8 (w:World)(x:Option Nat):Prop:=∀ b,x=some b->∃ I t,w.heap[b]?=some (.cells I t (0,0))
def XO (w:World)(x:Option Nat)(w':World):Prop:=∀(b:Nat) (c:Array Value) (t:TypeId) (z:Nat × Nat),(w.heap.size<=b\/x=some b)->w'.heap[b]?=some (.cells c t z)->Fz z
theorem Uy {x:Option Nat}(h:X8 w x):XO w x w:=λb c t z hb hc=>by
 rcases hb with hb | hb
 ·have:=(oW.1 hc).1;omega
 ·obtain⟨I,t',J⟩:=h b hb;rw[J]at hc;cases hc;exact fz0
theorem NH {x:Option Nat}(h:X8 w x){w2:World}(I:w2.heap=w.heap){c0:Array Value}{t0:TypeId}:XO w x (w2.alloc (.cells c0 t0)):=λb c t z hb hc=>by
 by_cases J:b<w.heap.size
 ·rw[BC (by rw[I];exact J),I]at hc;rcases hb with hb | hb
  ·omega
  ·obtain⟨U,t',Y⟩:=h b hb;rw[Y]at hc;cases hc;exact fz0
 ·have O:b=w2.heap.size:=by have:=(oW.1 hc).1;simp at this;rw[I]at this ⊢;omega
  subst O;rw[KM]at hc;cases hc;exact fz0
theorem Wb {b0:Nat}{I J:Array Value}{t0:TypeId}(h:w.heap[b0]?=some (.cells I t0 (0,0))):XO w (some b0) (w.setRow b0 J):=λb c t z hb hc=>by
 rcases hb with hb | hb
 ·have:=(oW.1 hc).1;simp[World.setRow]at this;omega
 ·cases hb;rw[setRow_heap w b0 I J t0 _ h]at hc;cases hc;exact fz0
theorem MT {k:Nat}(h:pinned st k=false):∀ b,(st.kill k).pins[k]?≠some (some b):=λb I=>by have I:st.pins[k]?=some (some b):=I;unfold pinned at h;rw[I]at h;cases h
theorem D4 (t tx ty e:TypeId) (i:TypeInfo) (ht:P.underlying t=some (.slice e)) (hi:P.info? e=some i)
  (g sLen sCap:Nat) (cur:Array Value) (hg:w.heap[g]?=some (.cells cur e (0,0))) (x:Value) (n:Nat) (news:List Value) (hs:Src P i.size tx x n news w)
  (hroom:sLen+n<=sCap) (hfit:sLen*i.size+news.length<=cur.size) :
  (Builtin.append_ #[t,tx] ty #[.slice (some ⟨g,0,none⟩) sLen sCap,x]).run P w =
   .ok (.slice (some ⟨g,0,none⟩) (sLen+n) sCap) (w.setRow g (cur.toList.take (sLen*i.size)++news++cur.toList.drop (sLen*i.size+news.length)).toArray):=by
 have hst:=run_storeCells_at P g (sLen*i.size) e news 0 cur w hg (by simpa using hfit) hs.one;simp only[mU]at hst;rcases hs.kind with⟨e',hk⟩ | hk<;>simp[Builtin.append_,run_underlying ht,run_underlying hk,sizeOf,typeInfo,hi,hs.len,hroom,hs.cells,Addr.add_lit,hst]
theorem Ex (h:Rel av w0 e0 pS pB a w e st) {dst:Option Nat} {t tx ty el:TypeId} {i:TypeInfo} {zv:Value} {z:Nat} (ae:P.underlying t=some (.slice el)) (hi:P.info? el=some i) (au:i.zero=some zv) (aw:zv.cells.size=ez z) (Y:i.size=ez z) (ba:i.bytes≠0)
  {vx vy:Value} {k c:Nat} {es new:List D} (ox:ValOk av w e pB st.bx vx (.sb k z 0 es.length c)) (bb:pinned st k=false) (hk:st.bx[k]?=some (.arr el z es c)) (O:∀ x∈new,eOk z x/\Good w (zY av pB e st.bx) x) (hS:Src P i.size tx vy new.length ((yV new).map D.cv) w)
  (ab:zB es new i.bytes) (bc:∀ i,i∈pS->some i≠dst->i∈pS') :
  ∃ v w' e' c2,(Builtin.append_ #[t,tx] ty #[vx,vy]).run P w=.ok v w'/\(es++new).length<=c2/\Rel av w0 e0 pS' pB (a.put dst v) w' e' (St.put { st.kill k with bx:=(st.kill k).bx.set k (.arr el z (es++new) c2) } dst (.sb k z 0 (es++new).length c2)):=by
 have ah:((yV new).map D.cv).length=new.length*ez z:=by simp[zg λx hx=>(O x hx).1]
 have ai:=(ox.2.2 k (by simp[PV.refs])).1;have ak:k<st.bx.length:=(oD.1 hk).1;have bd:k<e.length:=by rw[h.el];exact ak
 have hr:=h.br k _ hk ai;have bg:=h.bo k _ hk ai;have ax:=ox.1.resolve_left (by simp);have ay:=HV ab ba;have bh:=Nq h (pC k st);have bi:=Se (k:=k) hk;obtain⟨bj,bm⟩:=FZ (k:=k) (st:=st);have al:∀ b,zY av pB e (st.kill k).bx b->zY av pB e st.bx b:=λb U=>U.imp id λ⟨j,j1,j2,B,j3,j4⟩=>by
  obtain⟨B0,g1,g2⟩:=(pC k st).bx j B j3;refine⟨j,j1,j2,B0,g1,λhc=>?_⟩;subst hc;rcases g2 with g2 | g2 | ⟨_,_,g2,_⟩
  ·exact j4 g2
  ·exact j4 g2
  ·cases g2
 have fin:∀(xx:Option Nat) (w':World) (c2:Nat) (v:Value),(∀ e':Env,Env.at e' k=xx->v=(PV.sb k z 0 (es++new).length c2).val e') ->
   (w.heap.size<=w'.heap.size)->(∀ b,b<w.heap.size->e.at k≠some b->w'.heap[b]?=w.heap[b]?)->(xx=e.at k\/∃ b,xx=some b/\w.heap.size<=b) ->
   Bx.Rel w' (e.set k xx) xx (.arr el z (es++new) c2)->(∀(b:Nat) (c:Array Value) (t:TypeId) (z:Nat × Nat),(w.heap.size<=b\/e.at k=some b)->w'.heap[b]?=some (.cells c t z)->Fz z)->KU w w'->(Builtin.append_ #[t,tx] ty #[vx,vy]).run P w=.ok v w' ->
   ∃ v w' e' c2,(Builtin.append_ #[t,tx] ty #[vx,vy]).run P w=.ok v w'/\(es++new).length<=c2/\Rel av w0 e0 pS' pB (a.put dst v) w' e' (St.put { st.kill k with bx:=(st.kill k).bx.set k (.arr el z (es++new) c2) } dst (.sb k z 0 (es++new).length c2)):=by
  intro xx w' c2 v hv Y hold hx hB bn bp I;have az:Bx.Ok w (zY av pB e (st.kill k).bx) (.arr el z (es++new) c2):=λx hx=>by
   rcases oM.1 hx with hx | hx
   ·exact(bg x hx).mono (λ_ _ _=>rfl) (λb _=>al b)
   ·exact(O x hx).2.mono (λ_ _ _=>rfl) (λb _=>al b)
  have bq:=Ma bh (w':=w') (x:=xx) bi ai (by simp) Y hold
   (hx.imp id λU=>⟨U,λi p hi _=>bj i p hi,λj C hj _ _=>bm j C hj,rfl⟩) (λ_=>rfl) (.inr (MT bb)) hB az (by simp[Bx.refs]) bn bp
  refine⟨v,w',_,c2,I,?_,xm bq (dst:=dst) ⟨.inr (hv _ (Env.at_set_eq bd)),trivial,?_⟩ bc⟩
  ·rcases hB with⟨_,g2,_⟩ | ⟨_,_,_,_,_,g4,_⟩
   ·rw[g2];simp
   ·exact g4
  simp[PV.refs,St.kill,ai,ak]
 have bt:(es++new).length*ez z=(yV es).length+new.length*ez z:=by
  rw[oH,nP];congr 1;rcases hr with⟨_,h2,_⟩ | ⟨b,cc,h1,h2,h3,h4,h5,h6,h7⟩
  ·subst h2;simp[yV]
  ·rw[zg h6]
 rcases hr with⟨h1,h2,h3⟩ | ⟨b,aa,h1,h2,h3,h4,h5,h6,h7⟩
 ·-- no row yet
  subst h2;subst h3;have ac:vx=.slice none 0 0:=by rw[ax];simp[PV.val,PV.val1,PV.cv,h1]
  by_cases hm:new.length=0
  ·have bv:new=[]:=oV hm;subst bv;refine fin none w 0 (.slice none 0 0) (λe' he=>by simp[PV.val,PV.val1,PV.cv,he]) (oC _) (λ_ _ _=>rfl) (.inl h1.symm) (.inl ⟨rfl,by simp,rfl⟩) (Uy (λb U=>by rw[h1]at U;cases U)) .rfl ?_;have g1:=hS.len w;have g2:=hS.cells;simp only[oN,yV,my]at g1 g2;rw[ac];rcases hS.kind with⟨e',hk2⟩ | hk2<;>simp[Builtin.append_,run_underlying ae,run_underlying hk2,sizeOf,typeInfo,hi,g1,g2]
  ·have bw:0<new.length:=by omega
   unfold zB at ab;simp only[oa]at ab ay;have I:=run_append_grow_src (P:=P) w t tx ty el i zv ae hi au none 0 0 [] (run_firstCells_none w.drew i.size 0 0 0) vy new.length ((yV new).map D.cv) hS (by omega) (by omega) (by rw[nG,nextslicecap_zero bw];omega);simp only[nG,oa]at I;refine fin (some w.heap.size) _ (grownCap w new.length 0 el) (.slice (some ⟨w.heap.size,0,none⟩) new.length (grownCap w new.length 0 el)) (λe' he=>by simp[PV.val,PV.val1,PV.cv,he]) (by simp) (λb U _=>BC (w:=w.drew) U) (.inr ⟨_,rfl,oC _⟩) ?_ (NH (w2:=w.drew) (λb U=>by rw[h1]at U;cases U) rfl) ⟨rfl,rfl⟩ (by rw[ac];exact I);have ao:=grownCap_ge w new.length 0 el;have aq:=grownCap_le_maxLen w new.length 0 el (by unfold maxLen;omega);refine .inr ⟨w.heap.size,_,rfl,heap_alloc_new w.drew _,?_,by simpa using ao,aq,λx hx=>(O x (by simpa using hx)).1,λj u hu=>?_⟩
   ·simp only[mS,nq,size_zeroCells,aw,ah,<-nP];refine nc _ ?_;omega
   ·have:=xO (l1:=[]) (l3:=(Builtin.zeroCells zv.cells (grownCap w new.length 0 el - new.length)).toList) (ds1:=[]) rfl rfl j u (by simpa using hu)
    rw[<-nN];simpa using this
 ·have ac:vx=.slice (some ⟨b,0,none⟩) es.length c:=by rw[ax];simp[PV.val,PV.val1,PV.cv,h1]
  have a6:∀(j:Nat) (u:Value),((yV es).map D.cv)[j]?=some u->aa[j]?=some u:=λj u hu=>by
   simp only[oF]at hu;cases hf:(yV es)[j]? with
   | none=>simp[hf]at hu
   | some d=>simp[hf]at hu;subst hu;exact h7 j d hf
  ·by_cases J:es.length+new.length<=c
   ·have a7:es.length*i.size+((yV new).map D.cv).length<=aa.size:=by rw[ah,Y,<-nP];exact oR (nc _ J) h3
    have I:=D4 (P:=P) t tx ty el i ae hi b es.length c aa h2 vy new.length ((yV new).map D.cv) hS J a7;refine fin (some b) _ c (.slice (some ⟨b,0,none⟩) (es.length+new.length) c) (λe' he=>by simp[PV.val,PV.val1,PV.cv,he]) (by simp[World.setRow]) (λj hj hn=>setRow_other w b j _ (λhc=>hn (by rw[h1,hc]))) (.inl h1.symm) ?_ (by intro b' c' t2 z U hc;rw[h1]at U;exact Wb h2 b' c' t2 z U hc) ⟨rfl,rfl⟩ (by rw[ac];exact I);have a8:=zg h6;refine .inr ⟨b,_,rfl,setRow_heap w b aa _ el _ h2,?_,by simpa using J,h5,λx hx=>?_,λj u hu=>?_⟩
    ·have aj:(es.length+new.length)*ez z<=c*ez z:=nc _ J;rw[nP]at aj;simp only[nq,oH,nL,mW,nY,ah,Y];omega
    ·rcases oM.1 hx with hx | hx
     ·exact h6 x hx
     ·exact(O x hx).1
    ·rw[xj]at hu;have bz:aa.toList.take (es.length*i.size)=(yV es).map D.cv:=by
      apply nJ;intro q;rw[oi];split
      ·rename_i hq;rw[Y,<-a8]at hq
       have:=a6 q _ (by rw[oF,oI hq];rfl)
       rw[nN,this,oF,oI hq];rfl
      ·rename_i hq;rw[Y,<-a8]at hq;rw[ob (by simp;omega)]
     have:=xO (l3:=aa.toList.drop (es.length*i.size+((yV new).map D.cv).length)) bz rfl j u hu
     simpa using this
   ·unfold zB at ab;rw[oH]at ab ay;have I:=run_append_grow_src (P:=P) w t tx ty el i zv ae hi au (some ⟨b,0,none⟩) es.length c ((yV es).map D.cv) (run_firstCells_some w.drew i.size es.length ⟨b,0,none⟩ es.length c _ (by simp[zg h6,Y]) (λj u hu=>by rw[BR rfl (w:=w.drew) (c:=aa) (t:=el) (fz:=(0,0)) h2];simpa using a6 j u hu))
     vy new.length ((yV new).map D.cv) hS (by omega) (by omega) (growslice_fits (by omega) ab)
    rw[show((yV es).map D.cv++(yV new).map D.cv).toArray=((yV es).map D.cv).toArray++((yV new).map D.cv).toArray by simp]at I;refine fin (some w.heap.size) _ (grownCap w (es.length+new.length) c el) (.slice (some ⟨w.heap.size,0,none⟩) (es.length+new.length) (grownCap w (es.length+new.length) c el)) (λe' he=>by simp[PV.val,PV.val1,PV.cv,he]) (by simp) (λj hj _=>BC (w:=w.drew) hj) (.inr ⟨_,rfl,oC _⟩) ?_ (NH (w2:=w.drew) (λb' U=>by rw[h1]at U;cases U;exact⟨_,_,h2⟩) rfl) ⟨rfl,rfl⟩ (by rw[ac];exact I);have ao:=grownCap_ge w (es.length+new.length) c el;have aq:=grownCap_le_maxLen w (es.length+new.length) c el (by unfold maxLen;omega);refine .inr ⟨w.heap.size,_,rfl,heap_alloc_new w.drew _,?_,by simpa using ao,aq,λx hx=>?_,λj u hu=>?_⟩
    ·simp only[mS,nq,size_zeroCells,aw,ah,nF,zg h6,<-nP];refine nc _ ?_;omega
    ·rcases oM.1 hx with hx | hx
     ·exact h6 x hx
     ·exact(O x hx).1
    ·rw[xj]at hu
     have:=xO (l3:=(Builtin.zeroCells zv.cells (grownCap w (es.length+new.length) c el - (es.length+new.length))).toList) rfl rfl j u hu
     rw[<-nN];simpa using this
theorem PO {g:Bool} (h:Rel av w0 e0 pS pB a w e st) (hpl:∀ k∈pB,k<st.bx.length) {dst:Option Nat} {t ty:TypeId} {x y:Operand} {K:St->Prop}
  (hx:∀ i,x=.tmp i->i∉pS) (hy:∀ i,y=.tmp i->i∉pS) (hps:∀ i,i∈pS->some i≠dst->i∈pS') (hs:apF g P st dst t x y K) :
  ∃ v w' e' st',(Builtin.append_ #[t,t] ty #[a.eval x,a.eval y]).run P w=.ok v w'/\K st'/\Rel av w0 e0 pS' pB (a.put dst v) w' e' st':=by
 have hnp:st.bx.length∉pB:=fun hc=>Nat.lt_irrefl _ (hpl _ hc);unfold apF at hs;split at hs
 rotate_left
 ·exact hs.elim
 rename_i el hel;split at hs
 rotate_left
 ·exact hs.elim
 rename_i z i hz hi;split at hs
 ·exact hs.elim
 rename_i hbz;have hby:i.bytes≠0:=fun hc=>hbz (.inl hc);have hzs:zOk P el z=true:=by
  cases hh:zOk P el z with
  | true=>rfl
  | false=>exact absurd (.inr hh) hbz
 obtain⟨i',zv,hi',hzv,hzc⟩:=OJ hzs;rw[hi]at hi'
 have:=oX hi'
 subst this;have hsz:i.size=ez z:=by obtain⟨i',h1,h2⟩:=Cw hz;rw[hi]at h1;cases h1;exact h2
 have oy:=(vC h hy).valOk.retag (P:=P) t;have ox:=(vC h hx).valOk.retag (P:=P) t;generalize a.eval y=vy at oy ⊢;generalize a.eval x=vx at ox ⊢;obtain⟨z2,new,hs,hnew,hsrc⟩:=Lp h.toMem oy hs;split at hs
 rotate_left
 ·exact hs.elim
 rename_i hz2;subst hz2;have hnl:((yV new).map D.cv).length=new.length*ez z2:=by simp[zg fun x hx=>(hnew x hx).1]
 have hn1:=FN fun x hx=>(hnew x hx).1;split at hs
 ·-- onto a row of the call's own
  rename_i k z1 lo n c hq;rw[hq]at ox;split at hs
  ·exact hs.elim
  rename_i hpn;split at hs
  rotate_left
  ·exact hs.elim
  rename_i t' z' es c' hk;split at hs
  rotate_left
  ·exact hs.elim
  rename_i hc;obtain⟨rfl,rfl,rfl,rfl⟩:=hc;obtain⟨⟨rfl,rfl⟩,hbd,hK⟩:=hs;have hS:Src P i.size t vy new.length ((yV new).map D.cv) w:=by
   rcases hsrc with⟨c2,rfl,rfl⟩ | ⟨ad,c2,rfl,hcell⟩
   ·exact Src.ofNil w hel c2
   ·exact Src.ofSlice w hel ad _ c2 _ (by rw[hnl,hsz]) hcell hn1
  obtain⟨v,w',e',c2,g1,g2,g3⟩:=Ex h (ty:=ty) hel hi hzv hzc hsz hby ox hpn hk hnew hS hbd hps;exact⟨v,w',e',_,g1,(hK c2).of g2,g3⟩
 ·-- onto a slice that is left as it is
  rename_i av' z1 es c hq;rw[hq]at ox;split at hs
  rotate_left
  ·exact hs.elim
  rename_i hc;subst hc;obtain⟨hnil,hbd,hK⟩:=hs;have hv1:=ox.1.resolve_left (by simp);have hg:=ox.2.1;simp only[PV.Ok]at hg;obtain⟨i1,i2,i3⟩:=hg.1.sl_inv;have hle:=HV hbd hby;have hes:∀ x∈es++new,eOk z1 x/\Good w (zY av pB e st.bx) x:=fun x hx=>by
   rcases oM.1 hx with hx | hx
   ·exact⟨i2 x hx,hg.elem hx⟩
   ·exact hnew x hx
  rcases i3 with⟨rfl,rfl,rfl⟩ | ⟨ad0,rfl,i4,i5⟩
  ·have hvx:vx=.slice none 0 0:=by rw[hv1];rfl
   have nothing:new=[]->(Builtin.append_ #[t,t] ty #[vx,vy]).run P w=.ok (.slice none 0 0) w->∃ v w' e' st',(Builtin.append_ #[t,t] ty #[vx,vy]).run P w=.ok v w'/\K st'/\Rel av w0 e0 pS' pB (a.put dst v) w' e' st':=fun hne hrun=>by
    subst hne;have hat:Env.at (e++[none]) st.bx.length=none:=by rw[<-h.el];exact Env.at_append_eq
    refine⟨_,w,_,_,hrun,hK 0,xm (pV h (el:=el) (z:=z1) hnp) (dst:=dst) (p:=.sb st.bx.length z1 0 0 0) ⟨.inr (by simp[PV.val,PV.val1,PV.cv,hat]),trivial,by simp[PV.refs];exact hnp⟩ hps⟩
   rcases hsrc with⟨c2,hvy,hne⟩ | ⟨ad,c2,hvy,hcell⟩
   ·exact nothing hne (by subst hne;rw[hvx,hvy];exact Fv (P:=P) (w:=w) t ty el i hel hi none 0 0 c2 (oC _))
   ·by_cases hm:new.length=0
    ·have hne:new=[]:=oV hm;exact nothing hne (by subst hne;rw[hvx,hvy];simp[Builtin.append_,run_underlying hel,sizeOf,typeInfo,hi,Builtin.lenOf,Builtin.firstCells,loadCells,loadCellsFrom])
    ·have hlt:0<new.length:=by omega
     unfold zB at hbd;simp only[oa]at hbd hle;have hrun:=run_append_nil (P:=P) w t ty el i zv hel hi hzv ad new.length c2 ((yV new).map D.cv) (by rw[hnl,hsz]) hcell hlt (by omega) (by omega);have hge:=grownCap_ge w new.length 0 el;have hcm:=grownCap_le_maxLen w new.length 0 el (by unfold maxLen;omega);have hfin:=C2 h (el:=el) (z:=z1) (n:=grownCap w new.length 0 el) (es:=[]++new) (c:=(((yV new).map D.cv).toArray++Builtin.zeroCells zv.cells (grownCap w new.length 0 el - new.length))) hnp hes
      (by simp only[mS,nq,size_zeroCells,hzc,hnl,<-nP];congr 1;omega) (by simpa using hge) hcm (fun j u hu=>by
       have:=xO (l1:=[]) (l3:=(Builtin.zeroCells zv.cells (grownCap w new.length 0 el - new.length)).toList) (ds1:=[]) rfl rfl j u (by simpa using hu)
       rw[<-nN];simpa using this) (w2:=w.drew) rfl (dst:=dst) hps
     exact⟨_,_,_,_,by rw[hvx,hvy];exact hrun,hK (grownCap w new.length 0 el),hfin⟩
  ·have hcl:c=es.length/\new≠[]:=hnil;obtain⟨rfl,hne⟩:=hcl;have hlt:0<new.length:=mz.2 hne;have hvx:vx=.slice (some ad0) es.length es.length:=by rw[hv1];rfl
   rcases hsrc with⟨c2,hvy,hne'⟩ | ⟨ad,c2,hvy,hcell⟩
   ·exact absurd hne' hne
   ·unfold zB at hbd;rw[oH]at hbd hle;have hrun:=run_append_grow (P:=P) w t ty el i zv hel hi hzv ad0 es.length es.length ((yV es).map D.cv) (by simp[zg i2,hsz]) (fun j u hu=>RP i4 i5 j u hu)
     ad new.length c2 ((yV new).map D.cv) (by rw[hnl,hsz]) hcell (by omega) (by omega) (growslice_fits (by omega) hbd)
    have hge:=grownCap_ge w (es.length+new.length) es.length el;have hcm:=grownCap_le_maxLen w (es.length+new.length) es.length el (by unfold maxLen;omega);have hfin:=C2 h (el:=el) (z:=z1) (n:=grownCap w (es.length+new.length) es.length el) (es:=es++new)
     (c:=(((yV es).map D.cv).toArray++((yV new).map D.cv).toArray++Builtin.zeroCells zv.cells (grownCap w (es.length+new.length) es.length el - (es.length+new.length)))) hnp hes
     (by simp only[mS,nq,size_zeroCells,hzc,hnl,nF,zg i2,<-nP];congr 1;omega) (by simpa using hge) hcm (fun j u hu=>by
      rw[xj]at hu
      have:=xO (l3:=(Builtin.zeroCells zv.cells (grownCap w (es.length+new.length) es.length el - (es.length+new.length))).toList) rfl rfl j u hu
      rw[<-nN];simpa using this) (w2:=w.drew) rfl (dst:=dst) hps
    have hKK:=hK (grownCap w (es.length+new.length) es.length el);rw[oH]at hfin hKK;exact⟨_,_,_,_,by rw[hvx,hvy];exact hrun,hKK,hfin⟩
 ·exact hs.elim
variable {av:Nat->Prop} {P:Program} {w0 w w':World} {e0 e:Env} {pS pS' pB:List Nat} {a:Act} {st st':St}
def Rh (st:St) (dst:Option Nat) (K:St->Prop):Prop:=
 match dst with
 | some d=>match st.sl[d]? with
   | some (.sb k z lo n c)=>match st.bx[k]? with
     | some (.arr t z' es I)=>match Nat.beq lo 0 with
       | true=>n<=es.length/\K { st with bx:=st.bx.set k (.arr t z' (es.take n) I) }
       | false=>False
     | _=>False
   | _=>K st
 | none=>K st
theorem Np (h:Rel av w0 e0 pS pB a w e st) {k:Nat} {t:TypeId} {z c:Nat} {es I:List D} (hk:st.bx[k]?=some (.arr t z es c)) (O:k∉pB)
  (aa:I.length<=es.length) (J:∀ x∈I,x∈es) (hf:∀(i:Nat) (u:D),(yV I)[i]?=some u->(yV es)[i]?=some u) :
  Rel av w0 e0 pS pB a w e { st with bx:=st.bx.set k (.arr t z I c) }:=by
 have Y:k<e.length:=by rw[h.el];exact(oD.1 hk).1
 have hr:=h.br k _ hk O;have ab:=h.bo k _ hk O
 have:=Ma h (w':=w) (x:=e.at k) (B':=.arr t z I c) hk O (by simp) (oC _) (λ_ _ _=>rfl) (.inl rfl) (λ_=>rfl) (.inl rfl) ?_ (λx hx=>ab x (J x hx)) (by simp[Bx.refs]) (λb c2 t2 z2 hb hc=>?_) .rfl
 ·rwa[pF Y]at this
 ·rw[pF Y];rcases hr with⟨U,h2,h3⟩ | ⟨b,cc,U,h2,h3,h4,h5,h6,h7⟩
  ·subst h2;have:I=[]:=oV (by simpa using aa);subst this;exact .inl ⟨U,rfl,h3⟩
  ·exact .inr ⟨b,cc,U,h2,h3,by omega,h5,λx hx=>h6 x (J x hx),λi u hu=>h7 i u (hf i u hu)⟩
 ·rcases hb with hb | hb
  ·have:=(oW.1 hc).1;omega
  ·rcases hr with⟨U,_⟩ | ⟨b',cc,U,h2,_⟩
   ·rw[U]at hb;cases hb
   ·rw[U]at hb;cases hb;rw[h2]at hc;cases hc;exact fz0
theorem I1 (es:List D)(n:Nat)(i:Nat)(u:D)(h:(yV (es.take n))[i]?=some u):(yV es)[i]?=some u:=by
 have I:yV es=yV (es.take n)++yV (es.drop n):=by rw[<-xj,ni]
 rw[I,oQ (oD.1 h).1];exact h
theorem Mk {K:St->Prop}{dst:Option Nat}(h:Rel av w0 e0 pS [] a w e st)(hs:Rh st dst K):∃ st',K st'/\Rel av w0 e0 pS [] a w e st'/\st'.bx.length=st.bx.length:=by
 unfold Rh at hs;split at hs
 ·split at hs
  ·split at hs
   ·rename_i t z' es U I;split at hs
    ·obtain⟨Y,J⟩:=hs;exact⟨_,J,Np h I (by simp) (by simp;omega) (λx O=>ol O) (I1 es _),by simp⟩
    ·exact hs.elim
   ·exact hs.elim
  ·exact⟨st,hs,h,rfl⟩
 ·exact⟨st,hs,h,rfl⟩
theorem GW {el:TypeId}{zd:D}(w:World)(h:PF P el 0=some zd):∃ i J,P.info? el=some i/\i.zero=some J/\J.cells.toList=[zd.cv]/\zd.isCell/\∀(w:World)(live:Nat->Prop),Good w live zd:=by
 unfold PF at h;split at h
 ·rename_i cs Y;obtain⟨i2,J,aa,ab,I,O,_⟩:=vg Y;simp only[mF]at h;split at h
  ·rename_i p;obtain⟨_,q2,q3,q4,_⟩:=xn (w:=w) (e:=[]) h (O w (λ_=>False) p (by simp)).1;refine⟨i2,J,aa,ab,?_,q2,λw live=>(xn (w:=w) (e:=[]) h (O w live p (by simp)).1).1⟩;have U:=(I w []).2 0 p rfl;have ac:p≠.any:=λhh=>by subst hh;exact q4
   have U:=U.resolve_left ac;have ae:J.cells.toList.length=1:=(I w []).1
   match ah:J.cells.toList,ae with
   | [v0],_=>rw[ah]at U;simp at U;rw[U,q3]
  ·cases h
 ·cases h
def P1 (P:Program) (st:St) (dst:Option Nat) (t:TypeId) (x:Operand) (K:St->Prop):Prop:=
 match P.underlying t with
 | some (.slice el)=>match kz P el,PF P el 0 with
   | some 0,some zd=>match opd st.sl x with
     | .sb k z lo n c=>match st.bx[k]? with
       | some (.arr t' z' es I)=>match Nat.beq z 0&&Nat.beq z' 0 with
         | true=>lo+n<=es.length/\K (St.put { st with bx:=st.bx.set k (.arr t' 0 (es.take lo++(List.replicate n zd++es.drop (lo+n))) I) } dst (.tp []))
         | false=>False
       | _=>False
     | _=>False
   | _,_=>False
 | _=>False
theorem vK {I:Value}{v:Value}(h:I.cells.toList=[v])(n:Nat):(Builtin.zeroCells I.cells n).toList=List.replicate n v:=by
 have:I.cells=#[v]:=by apply nZ.1;simpa using h
 rw[this];simp[Builtin.zeroCells];apply List.ext_getElem
 ·simp
 ·intro i J O;simp[Nat.mod_one]
theorem sH:∀ {es:List D},(∀ x∈es,x.isCell)->yV es=es
 | [],_=>rfl
 | x::es,h=>by
   rw[vp,sH λy I=>h y (by simp[I])]
   have:=h x (by simp)
   cases x<;>simp[D.isCell]at this<;>rfl
theorem JN {t ty el:TypeId} {i:TypeInfo} {Y v:Value} {b lo n c:Nat} {w':World} (I:P.underlying t=some (.slice el)) (hi:P.info? el=some i) (J:i.zero=some Y) (O:Y.cells.toList=[v]) (hn:0<n)
  (U:(storeCells ⟨b,lo,none⟩ (List.replicate n v)).run P w=.ok () w'):(Builtin.clear_ #[t] ty #[.slice (some ⟨b,lo,none⟩) n c]).run P w=.ok (.tuple #[]) w':=by
 obtain⟨m,rfl⟩:∃ m,n=m+1:=⟨n - 1,by omega⟩
 simp[Builtin.clear_,run_underlying I,vn hi J,vK O,U]
theorem L6 (h:Rel av w0 e0 pS pB a w e st) {dst:Option Nat} {t ty:TypeId} {x:Operand} {K:St->Prop} (hx:∀ i,x=.tmp i->i∉pS) (aj:∀ i,i∈pS->some i≠dst->i∈pS') (hs:P1 P st dst t x K) :
  ∃ v w' st',(Builtin.clear_ #[t] ty #[a.eval x]).run P w=.ok v w'/\K st'/\Rel av w0 e0 pS' pB (a.put dst v) w' e st'/\∃ k B,(∃ z lo n c,opd st.sl x=.sb k z lo n c)/\st'=St.put { st with bx:=st.bx.set k B } dst (.tp []):=by
 unfold P1 at hs;split at hs
 rotate_left
 ·exact hs.elim
 rename_i el ac;split at hs
 rotate_left
 ·exact hs.elim
 rename_i zd ay ak;split at hs
 rotate_left
 ·exact hs.elim
 rename_i k z lo n c hp;split at hs
 rotate_left
 ·exact hs.elim
 rename_i t' z' es c' hk;split at hs
 rotate_left
 ·exact hs.elim
 rename_i hz;simp only[oK]at hz;obtain⟨rfl,rfl⟩:z=0/\z'=0:=⟨nI hz.1,nI hz.2⟩
 obtain⟨al,hK⟩:=hs;have ox:=vC h hx;rw[hp]at ox;have U:=(ox.rf k (by simp[PV.refs])).1;have hv:=ox.h.resolve_left (by simp);obtain⟨i,zv,hi,ao,aq,I,Y⟩:=GW w ak;have az:k<e.length:=by rw[h.el];exact(oD.1 hk).1
 have hr:=h.br k _ hk U;have ae:=h.bo k _ hk U;have put:∀ w2,Rel av w0 e0 pS pB a w2 e { st with bx:=st.bx.set k (.arr t' 0 (es.take lo++(List.replicate n zd++es.drop (lo+n))) c') }->Rel av w0 e0 pS' pB (a.put dst (.tuple #[])) w2 e (St.put { st with bx:=st.bx.set k (.arr t' 0 (es.take lo++(List.replicate n zd++es.drop (lo+n))) c') } dst (.tp [])):=λw2 h2=>xm h2 ⟨.inr (by simp[PV.val,PV.val1,PV.cvs]),by simp[PV.Ok,PV.OkL],by simp[PV.refs,PV.refsL]⟩ aj;rcases mZ n with hn0 | hn0
 ·subst hn0;refine⟨.tuple #[],w,_,?_,hK,put w ?_,k,_,⟨_,_,_,_,hp⟩,rfl⟩
  ·rw[hv];cases hb:e.at k<;>simp[PV.val,PV.val1,PV.cv,hb,Builtin.clear_,run_underlying ac]
  ·refine Np h hk U (by simp<;>omega) (λx hx=>?_) (λj u J=>?_)
   ·simp only[List.replicate_zero,oa,mU,ni]at hx;exact hx
   ·simp only[List.replicate_zero,oa,mU,ni]at J;exact J
 ·rcases hr with⟨h1,h2,h3⟩ | ⟨b,O,h1,h2,h3,h4,h5,h6,h7⟩
  ·subst h2;simp at al;omega
  ·have aa:∀ x∈es,x.isCell:=λx hx=>by have:=h6 x hx;simpa [eOk]using this
   have au:yV es=es:=sH aa;have ab:ez 0=1:=rfl;rw[au]at h7;rw[ab,Nat.mul_one]at h3;have aw:∀ v∈List.replicate n zd.cv,v.oneCell'=true:=λv hv=>by rw[nV hv];exact xh I
   have ah:=run_storeCells_at (P:=P) b lo t' (List.replicate n zd.cv) 0 O w h2 (by simp;omega) aw;rw[mU]at ah;refine⟨.tuple #[],w.setRow b (O.toList.take lo++List.replicate n zd.cv++O.toList.drop (lo+(List.replicate n zd.cv).length)).toArray,_,?_,hK,put _ (Bo h hk U (by simp) h1 h2 (λ_=>rfl) ?_ ?_ (by simp[Bx.refs])),k,_,⟨_,_,_,_,hp⟩,rfl⟩
   ·have ax:(PV.sb k 0 lo n c).val e=.slice (some ⟨b,lo,none⟩) n c:=by simp[PV.val,PV.val1,PV.cv,h1,ab]
    rw[hv,ax];exact JN ac hi ao aq hn0 ah
   ·rw [h1];refine .inr ⟨b,_,rfl,setRow_heap w b O _ t' _ h2,?_,?_,h5,?_,?_⟩
    ·simp only[nq,oH,nL,mW,mQ,nY,ab,Nat.mul_one];omega
    ·simp only[oH,nL,mW,mQ];omega
    ·intro x hx;rcases oM.1 hx with hx | hx
     ·exact h6 x (ol hx)
     ·rcases oM.1 hx with hx | hx
      ·rw[nV hx];simpa [eOk]using I
      ·exact h6 x (nD hx)
    ·intro j u J;rw[sH λx hx=>?_]at J
     ·simp only[mQ,List.getElem?_toArray,oP];by_cases hj:j<lo
      ·rw[oQ (by simp;omega),oi,if_pos hj]at J;rw[oQ (by simp;omega),oi,if_pos hj];simpa using h7 j u J
      ·rw[oT (by simp;omega)]at J ⊢;have e1:(es.take lo).length=lo:=by simp;omega
       have e2:(O.toList.take lo).length=lo:=by simp;omega
       rw[e1]at J;rw[e2];by_cases ai:j - lo<n
       ·rw[oQ (by simpa using ai),mm,if_pos ai]at J ⊢;cases J;rfl
       ·rw[oT (by simp;omega)]at J ⊢;simp only[mQ,nQ]at J ⊢
        have:=h7 _ u J
        simpa using this
     ·rcases oM.1 hx with hx | hx
      ·exact aa x (ol hx)
      ·rcases oM.1 hx with hx | hx
       ·rw[nV hx];exact I
       ·exact aa x (nD hx)
   ·intro x hx;rcases oM.1 hx with hx | hx
    ·exact ae x (ol hx)
    ·rcases oM.1 hx with hx | hx
     ·rw[nV hx];exact Y _ _
     ·exact ae x (nD hx)
def U7 (P:Program)(st:St)(dst:Option Nat)(t t':TypeId)(x y:Operand)(K:St->Prop):Prop:=
 match P.underlying t,P.underlying t' with
 | some (.slice el),some (.int _)=>match kz P el,P.info? el,PF P el 0 with
   | some 0,some i,some zd=>match retag P t (opd st.sl x),opd st.sl y with
     | .sv none _ [] 0,.int .i64 m=>(0<=m/\m*i.bytes<=140737488355328/\m<=140737488355328)/\∀ c2,K (St.put { st with bx:=st.bx++[.arr el 0 (List.replicate m.toNat zd) c2] } dst (.sb st.bx.length 0 0 m.toNat c2))
     | _,_=>False
   | _,_,_=>False
 | _,_=>False
theorem QP (n:Nat)(h:(n:Int)<=9223372036854775807):IntKind.i64.wrap (n:Int)=n:=by rw[IntKind.wrap_i64];omega
theorem Fu (t t' ty el:TypeId) (k:IntKind) (i:TypeInfo) (z:Value) (ht:P.underlying t=some (.slice el)) (ht':P.underlying t'=some (.int k)) (hi:P.info? el=some i) (hz:i.zero=some z) (h1:i.size=1)
  (n:Nat) (h0:0<n) (h63:(n:Int)<=9223372036854775807) (h48:n*i.bytes<=281474976710656) :
  (Builtin.append_ #[t,t'] ty #[.slice none 0 0,.int .i64 n]).run P w =
   .ok (.slice (some ⟨w.heap.size,0,none⟩) n (grownCap w n 0 el)) (w.drew.alloc (.cells (Builtin.zeroCells z.cells n++Builtin.zeroCells z.cells (grownCap w n 0 el - n)) el)):=by
 have hn:n≠0:=by omega
 have h63':¬(9223372036854775807<(n:Int)):=by omega
 have h48':¬(281474976710656<Builtin.nextslicecap n 0*i.bytes):=by rw[nextslicecap_zero h0];omega
 have h48'':¬(281474976710656<(n:Int)*(i.bytes:Int)):=by
  have h5:((n*i.bytes:Nat):Int)<=281474976710656:=by omega
  rw[Int.natCast_mul]at h5;omega
 have hw:IntKind.i64.wrap (n:Int)=n:=QP n h63;have hneg:¬((n:Int)<0):=by omega
 simp[hneg,Builtin.append_,run_underlying ht,run_underlying ht',sizeOf,typeInfo,zeroValue,hi,hz,asInt,asIntOf,hw,h1,Builtin.lenOf,hn,h63',h48',h48'',Question.forced,run_firstCells_none,newRow,grownCap]
theorem Oq (h:Rel av w0 e0 pS pB a w e st) (hpl:∀ k∈pB,k<st.bx.length) {dst:Option Nat} {t t' ty:TypeId} {x y:Operand} {K:St->Prop}
  (hx:∀ i,x=.tmp i->i∉pS) (hy:∀ i,y=.tmp i->i∉pS) (hps:∀ i,i∈pS->some i≠dst->i∈pS') (hs:U7 P st dst t t' x y K) :
  ∃ v w' e' st',(Builtin.append_ #[t,t'] ty #[a.eval x,a.eval y]).run P w=.ok v w'/\K st'/\Rel av w0 e0 pS' pB (a.put dst v) w' e' st'/\∃ rows q,st'=St.put { st with bx:=st.bx++rows } dst q:=by
 have hnp:st.bx.length∉pB:=fun hc=>Nat.lt_irrefl _ (hpl _ hc);unfold U7 at hs;split at hs
 rotate_left
 ·exact hs.elim
 rename_i el kk hel ht';split at hs
 rotate_left
 ·exact hs.elim
 rename_i i zd hkz hi hzd;have ox:=(vC h hx).valOk.retag (P:=P) t;have oy:=(vC h hy).valOk;generalize a.eval x=vx at ox ⊢;generalize a.eval y=vy at oy ⊢;split at hs
 rotate_left
 ·exact hs.elim
 rename_i zz m hpx hpy;rw[hpx]at ox;rw[hpy]at oy;have hvx:vx=.slice none 0 0:=by have:=ox.1.resolve_left (by simp);simpa [PV.val,PV.val1,PV.cv]using this
 have hvy:vy=.int .i64 m:=by have:=oy.1.resolve_left (by simp);simpa [PV.val,PV.val1,PV.cv]using this
 subst hvx;subst hvy;obtain⟨⟨hm0,hmb,hmm⟩,hK⟩:=hs;obtain⟨i',zv,hi',hzv,hzc,hcell,hgood⟩:=GW w hzd;rw[hi]at hi'
 have:=oX hi'
 subst this;have hsz:i.size=1:=by obtain⟨i',h1,h2⟩:=Cw hkz;rw[hi]at h1;cases h1;exact h2
 obtain⟨n,rfl⟩:∃ n:Nat,m=n:=⟨m.toNat,by omega⟩
 simp only[oG]at hK;have hw:IntKind.i64.wrap (n:Int)=n:=QP n (by omega);have hnb:n*i.bytes<=281474976710656:=by
  have h5:((n*i.bytes:Nat):Int)<=140737488355328:=by rw[Int.natCast_mul];exact hmb
  omega
 rcases mZ n with hn0 | hn0
 ·subst hn0;have hat:Env.at (e++[none]) st.bx.length=none:=by rw[<-h.el];exact Env.at_append_eq
  refine⟨.slice none 0 0,w,_,_,?_,hK 0,xm (pV h (el:=el) (z:=0) hnp) (dst:=dst) (p:=.sb st.bx.length 0 0 0 0) ⟨.inr (by simp[PV.val,PV.val1,PV.cv,hat]),trivial,by simp[PV.refs];exact hnp⟩ hps,_,_,rfl⟩;have hw0:IntKind.i64.wrap 0=0:=by rw[IntKind.wrap_i64];rfl
  simp[Builtin.append_,run_underlying hel,run_underlying ht',sizeOf,typeInfo,hi,asInt,asIntOf,hw0]
 ·have hrun:=Fu (P:=P) (w:=w) t t' ty el kk i zv hel ht' hi hzv hsz n hn0 (by omega) hnb;have hge:=grownCap_ge w n 0 el;have hcm:=grownCap_le_maxLen w n 0 el (by unfold maxLen;omega);have hrc:∀ x∈List.replicate n zd,x.isCell:=fun x hx=>by rw[nV hx];exact hcell
  have hfin:=C2 h (el:=el) (z:=0) (n:=grownCap w n 0 el) (es:=List.replicate n zd) (c:=Builtin.zeroCells zv.cells n++Builtin.zeroCells zv.cells (grownCap w n 0 el - n)) hnp
   (fun x hx=>by rw[nV hx];exact⟨by simpa [eOk]using hcell,hgood _ _⟩)
   (by
    have h1:(Builtin.zeroCells zv.cells n).size=n:=by rw[<-nY,vK hzc];simp
    have h2:(Builtin.zeroCells zv.cells (grownCap w n 0 el - n)).size=grownCap w n 0 el - n:=by rw[<-nY,vK hzc];simp
    rw[mS,h1,h2,show ez 0=1 from rfl];omega) (by simpa using hge) hcm (fun j u hu=>by
    rw[sH hrc]at hu;rw[mm]at hu;split at hu
    ·rename_i hj;cases hu;rw[<-nN,Array.toList_append,oQ (by rw[vK hzc];simpa using hj),vK hzc,mm,if_pos hj]
    ·cases hu) (w2:=w.drew) rfl (dst:=dst) hps
  simp only[mQ]at hfin;exact⟨_,_,_,_,hrun,hK _,hfin,_,_,rfl⟩
def xC (s:ByteArray):List D:=s.data.toList.map λb=>.lit (.int .u8 b.toNat)
theorem Pg (s:ByteArray):(yV (xC s)).map D.cv=byteCells s:=by rw[sH λx I=>by obtain⟨_,_,rfl⟩:=oU.1 I;trivial];simp[xC,byteCells,D.cv]
theorem sC (s:ByteArray):(xC s).length=s.size:=by rw[<-byteCells_length s];simp[xC,byteCells]
def Rb (P : Program) (st:St) (dst:Option Nat) (t t':TypeId) (x y:Operand) (K:St->Prop):Prop:=
 match P.underlying t,P.underlying t' with
 | some (.slice el),some .string=>match kz P el,P.info? el with
   | some 0,some i=>if i.bytes=0\/zOk P el 0=false then False else
     match retag P t (opd st.sl x),opd st.sl y with
     | .sb k I lo n c,.str s=>match pinned st k with
       | true=>False
       | false=>match st.bx[k]? with
         | some (.arr t1 z' es J)=>if I=0/\z'=0/\lo=0/\t1=el then
          (n=es.length/\c=J)/\zB es (xC s) i.bytes/\∀ c2,K (St.put { st.kill k with bx:=(st.kill k).bx.set k (.arr el 0 (es++xC s) c2) } dst (.sb k 0 0 (es++xC s).length c2))else False
         | _=>False
     | _,_=>False
   | _,_=>False
 | _,_=>False
theorem Mi (h:Rel av w0 e0 pS pB a w e st) {dst:Option Nat} {t t' ty:TypeId} {x y:Operand} {K:St->Prop}
  (U:∀ i,x=.tmp i->i∉pS) (hy:∀ i,y=.tmp i->i∉pS) (Y:∀ i,i∈pS->some i≠dst->i∈pS') (hs:Rb P st dst t t' x y K) :
  ∃ v w' e' st',(Builtin.append_ #[t,t'] ty #[a.eval x,a.eval y]).run P w=.ok v w'/\K st'/\Rel av w0 e0 pS' pB (a.put dst v) w' e' st' /\
    ∃ k z lo n c B q,retag P t (opd st.sl x)=.sb k z lo n c/\(∃ t1 z1 es c1,st.bx[k]?=some (.arr t1 z1 es c1))/\st'=St.put { st.kill k with bx:=(st.kill k).bx.set k B } dst q:=by
 unfold Rb at hs;split at hs
 rotate_left
 ·exact hs.elim
 rename_i el aa ab;split at hs
 rotate_left
 ·exact hs.elim
 rename_i i hz hi;split at hs
 ·exact hs.elim
 rename_i I;have ac:i.bytes≠0:=λhc=>I (.inl hc);have ae:zOk P el 0=true:=by
  cases hh:zOk P el 0 with
  | true=>rfl
  | false=>exact absurd (.inr hh) I
 obtain⟨i',zv,J,ah,ai⟩:=OJ ae;rw[hi]at J
 have:=oX J
 subst this;have O:i.size=ez 0:=by obtain⟨i',h1,h2⟩:=Cw hz;rw[hi]at h1;cases h1;exact h2
 have oy:=(vC h hy).valOk;have ox:=(vC h U).valOk.retag (P:=P) t;generalize a.eval y=vy at oy ⊢;generalize a.eval x=vx at ox ⊢;split at hs
 rotate_left
 ·exact hs.elim
 rename_i k z1 lo n c s hq hp;split at hs
 ·exact hs.elim
 rename_i aj;split at hs
 rotate_left
 ·exact hs.elim
 rename_i t1 z' es c' hk;split at hs
 rotate_left
 ·exact hs.elim
 rename_i hc;obtain⟨rfl,rfl,rfl,rfl⟩:=hc;obtain⟨⟨rfl,rfl⟩,ak,hK⟩:=hs;rw[hq]at ox;rw[hp]at oy;have al:vy=.string s:=by have:=oy.1.resolve_left (by simp);simpa [PV.val,PV.val1,PV.cv]using this
 subst al;have hS:Src P i.size t' (.string s) (xC s).length ((yV (xC s)).map D.cv) w:=by rw[O,Pg,sC];exact Src.ofString w ab s
 obtain⟨v,w',e',c2,g1,g2,g3⟩:=Ex h (ty:=ty) aa hi ah ai O ac ox aj hk (λx U=>by obtain⟨_,_,rfl⟩:=oU.1 U;exact⟨by simp[eOk,D.isCell];rfl,Good.lit⟩) hS ak Y;exact⟨v,w',e',_,g1,hK c2,g3,_,_,_,_,_,_,_,hq,⟨_,_,_,_,hk⟩,rfl⟩
def YC:PV->Option Nat
 | .sv _ _ _ c=>some c
 | .sb _ _ _ _ c=>some c
 | _=>none
end Go.Proofs.YtlaniepnglheoaaGreatDoor
namespace Go.Proofs.YtlaniepnglheoaaGreatDoor
open Go
inductive Sh where
 | int (k:IntKind)
 | bool
 | str
 | sl (z:Nat)
 | ag (n:Nat)
 | row (t:TypeId) (z:Nat)
 | pk
 | dc
 | bk (j:Nat)
 | cu
def QT:List Sh->Type
 | []=>Nat->Prop
 | .int _::l=>Int->QT l
 | .bool::l=>Bool->QT l
 | .str::l=>ByteArray->QT l
 | .sl _::l=>Option Addr->List D->Nat->QT l
 | .ag _::l=>D->QT l
 | .row _ _::l=>List D->Nat->QT l
 | .pk::l=>QT l
 | .dc::l=>D->QT l
 | .bk j::l=>D->QT l
 | .cu::l=>Option Addr->List D->Nat->Int->Int->QT l
def Tv:List Sh->Bool
 | []=>true
 | .ag _::_=>false
 | .pk::_=>false
 | .cu::_=>false
 | _::l=>Tv l
def Dz:List Sh->Bool
 | .pk::_=>true
 | _=>false
def QT.app:(l:List Sh)->QT l->Nat->List PV->List Bx->Nat->Prop
 | .pk::l,Q,b,ps,rows,N=>Tv l=true/\QT.app l Q b ps rows N
 | [],Q,_,[],[],N=>Q N
 | .int k::l,Q,b,.int J n::ps,rows,N=>k=J/\QT.app l (Q n) b ps rows N
 | .bool::l,Q,b,.bool v::ps,rows,N=>QT.app l (Q v) b ps rows N
 | .str::l,Q,b,.str v::ps,rows,N=>QT.app l (Q v) b ps rows N
 | .sl z::l,Q,b,.sv a z' es c::ps,rows,N=>z=z'/\QT.app l (Q a es c) b ps rows N
 | .ag n::l,Q,b,.dg n' x::ps,rows,N=>n=n'/\QT.app l (Q x) b ps rows N
 | .dc::l,Q,b,.dc x::ps,rows,N=>QT.app l (Q x) b ps rows N
 | .bk j::l,Q,b,.dc x::ps,rows,N=>QT.app l (Q x) b ps rows N
 | .row t z::l,Q,b,.sb k z' lo n c::ps,.arr t' I es O::rows,N=>(k=b/\z'=z/\lo=0/\n=es.length/\c=O/\t'=t/\I=z)/\QT.app l (Q es c) (b+1) ps rows N
 | .cu::l,Q,b,p::ps,B::rows,N=>∃ a es c n m,p=.pb b 0 0 0/\B=.var [.sv a 0 es c,.int .i64 n,.int .i64 m]/\QT.app l (Q a es c n m) (b+1) ps rows N
 | _,_,_,_,_,_=>False
def QT.lam:(l:List Sh)->Nat->(List PV->List Bx->Nat->Prop)->QT l
 | [],_,K=>λN=>K [] [] N
 | .int k::l,b,K=>λn=>QT.lam l b λps rows N=>K (.int k n::ps) rows N
 | .bool::l,b,K=>λv=>QT.lam l b λps rows N=>K (.bool v::ps) rows N
 | .str::l,b,K=>λv=>QT.lam l b λps rows N=>K (.str v::ps) rows N
 | .sl z::l,b,K=>λa es c=>QT.lam l b λps rows N=>K (.sv a z es c::ps) rows N
 | .ag n::l,b,K=>λx=>QT.lam l b λps rows N=>K (.dg n x::ps) rows N
 | .row t z::l,b,K=>λes c=>QT.lam l (b+1) λps rows N=>K (.sb b z 0 es.length c::ps) (.arr t z es c::rows) N
 | .pk::l,b,K=>QT.lam l b K
 | .dc::l,b,K=>λx=>QT.lam l b λps rows N=>K (.dc x::ps) rows N
 | .bk j::l,b,K=>λx=>QT.lam l b λps rows N=>K (.dc x::ps) rows N
 | .cu::l,b,K=>λa es c n m=>QT.lam l (b+1) λps rows N=>K (.pb b 0 0 0::ps) (.var [.sv a 0 es c,.int .i64 n,.int .i64 m]::rows) N
def PV.shift (b:Nat):PV->PV
 | .sb k z lo n c=>.sb (b+k) z lo n c
 | .pb k z i o=>.pb (b+k) z i o
 | p=>p
theorem QT.app_lam:∀(l:List Sh)(d b:Nat)(K:List PV->List Bx->Nat->Prop)(ps:List PV)(rows:List Bx)(N:Nat),QT.app l (QT.lam l (d+b) K) b ps rows N->K (ps.map (PV.shift d)) rows N:=by
 intro l
 induction l with
 | nil=>
   intro d b K ps rows N h;cases ps<;>cases rows<;>simp[QT.app]at h
   exact h
 | cons s l I=>
   intro d b K ps rows N h;cases s with
   | pk=>exact I d b K ps rows N h.2
   | row t z=>
     rcases ps with _ | ⟨p,ps⟩<;>rcases rows with _ | ⟨B,rows⟩<;>try(simp[QT.app]at h;done)
     cases p<;>cases B<;>simp[QT.app]at h
     obtain⟨⟨rfl,rfl,rfl,rfl,rfl,rfl,rfl⟩,h⟩:=h;exact I d (_+1) (λps rows N=>K (.sb _ _ 0 _ _::ps) (.arr _ _ _ _::rows) N) ps rows N h
   | cu=>
     rcases ps with _ | ⟨p,ps⟩<;>rcases rows with _ | ⟨B,rows⟩<;>try(simp[QT.app]at h;done)
     obtain⟨a,es,c,n,m,rfl,rfl,h⟩:=h;exact I d (b+1) (λps rows N=>K (.pb _ 0 0 0::ps) (.var _::rows) N) ps rows N h
   | _=>
     rcases ps with _ | ⟨p,ps⟩
     ·simp[QT.app]at h
     cases p<;>simp[QT.app]at h<;>first | exact I d b _ ps rows N h | (obtain⟨rfl,h⟩:=h;exact I d b _ ps rows N h)
def Bx.row (B:Bx):Prop:=match B with
 | .arr _ _ _ _=>True
 | B=>∃ a es c n m,B=.var [.sv a 0 es c,.int .i64 n,.int .i64 m]
theorem Bx.row.sp {B:Bx}(h:B.row):B≠.gone/\B.refs=[]:=by
 cases B with
 | arr t z es c=>exact⟨by simp,rfl⟩
 | _=>obtain⟨_,_,_,_,_,h⟩:=h;cases h<;>exact⟨by simp,rfl⟩
def Bx.offB (b:Nat):Bx->Prop
 | .arr _ _ es _=>b∉zC es
 | _=>False
theorem QT.app_rows:∀(l:List Sh) (Q:QT l) (b:Nat) (ps:List PV) (rows:List Bx) (N:Nat),QT.app l Q b ps rows N ->
  (∀ B∈rows,B.row)/\(∀ p∈ps,p≠.any/\(∀ l,p≠.tp l)/\∀ k∈p.refs,k<b+rows.length):=by
 intro l
 induction l with
 | nil=>intro Q b ps rows N h;cases ps<;>cases rows<;>simp[QT.app]at h ⊢
 | cons s l J=>
   intro Q b ps rows N h;have I:∀(p:PV) (B:Bx) (ps:List PV) (rows:List Bx) (Q:QT l),QT.app l Q (b+1) ps rows N->B.row->p≠.any->(∀ l,p≠.tp l)->(∀ k∈p.refs,k=b)->(∀ B'∈B::rows,B'.row)/\(∀ q∈p::ps,q≠.any/\(∀ l,q≠.tp l)/\∀ k∈q.refs,k<b+(B::rows).length):=λp B ps rows Q h hB O U h3=>by
    obtain⟨g1,g2⟩:=J Q _ ps rows N h;refine⟨λB' hB'=>?_,λq hq=>?_⟩
    ·rcases oL.1 hB' with rfl | hB'
     ·exact hB
     ·exact g1 _ hB'
    ·rcases oL.1 hq with rfl | hq
     ·exact⟨O,U,λk Y=>by have:=h3 k Y;simp;omega⟩
     ·obtain⟨i1,i2,i3⟩:=g2 q hq;exact⟨i1,i2,λk Y=>by have:=i3 k Y;simp;omega⟩
   cases s with
   | pk=>exact J Q b ps rows N h.2
   | row t z=>
     rcases ps with _ | ⟨p,ps⟩<;>rcases rows with _ | ⟨B,rows⟩<;>try(simp[QT.app]at h;done)
     cases p<;>cases B<;>simp[QT.app]at h
     obtain⟨⟨rfl,_⟩,h⟩:=h;exact I _ _ _ _ _ h trivial (by simp) (by simp) (by simp[PV.refs])
   | cu=>
     rcases ps with _ | ⟨p,ps⟩<;>rcases rows with _ | ⟨B,rows⟩<;>try(simp[QT.app]at h;done)
     obtain⟨a,es,c,n,m,rfl,rfl,h⟩:=h;exact I _ _ _ _ _ h ⟨_,_,_,_,_,rfl⟩ (by simp) (by simp) (by simp[PV.refs])
   | _=>
     rcases ps with _ | ⟨p,ps⟩
     ·simp[QT.app]at h
     cases p<;>simp[QT.app]at h
     all_goals
      first | replace h:=h.2 | skip
      obtain⟨O,U⟩:=J _ b ps rows N h;exact⟨O,λq hq=>by rcases oL.1 hq with rfl | hq;exact⟨by simp,by simp,by simp[PV.refs]⟩;exact U q hq⟩
def wL (P:Program)(f:FuncId):Bool:=
 match P.funcs[f]? with
 | some fn => fn.name != "runtime.NumGoroutine" && fn.body.isSome
 | none=>false
def RK (e:Env):List PV->Value
 | [p]=>p.val1 e
 | ps=>.tuple (ps.map (PV.val1 e)).toArray
def O5 (pk:Bool)(e:Env)(ps:List PV):Value:=match pk with
 | true=>.agg (PV.cvs e ps).toArray
 | false=>RK e ps
theorem QT.app_cells:∀(l:List Sh)(Q:QT l)(b:Nat)(ps:List PV)(rows:List Bx)(N:Nat),Tv l=true->QT.app l Q b ps rows N->∀ p∈ps,p.isC:=by
 intro l
 induction l with
 | nil=>intro Q b ps rows N hc h;cases ps<;>cases rows<;>simp[QT.app]at h ⊢
 | cons s l I=>
   intro Q b ps rows N hc h;cases s with
   | pk=>simp[Tv]at hc
   | ag n=>simp[Tv]at hc
   | cu=>simp[Tv]at hc
   | row t z=>
     rcases ps with _ | ⟨p,ps⟩<;>rcases rows with _ | ⟨B,rows⟩<;>try(simp[QT.app]at h;done)
     cases p<;>cases B<;>simp[QT.app]at h
     have I:=I _ _ ps rows N hc h.2;intro q hq;rcases oL.1 hq with rfl | hq
     ·trivial
     ·exact I q hq
   | _=>
     rcases ps with _ | ⟨p,ps⟩
     ·simp[QT.app]at h
     cases p<;>simp[QT.app]at h
     all_goals
      first | replace h:=h.2 | skip
      intro q hq;rcases oL.1 hq with rfl | hq
      ·trivial
      ·exact I _ b ps rows N hc h q hq
structure Done (rs:List Sh) (Q:QT rs) (av:Nat->Prop) (w0:World) (v:Value) (w:World) (ps:List PV) (rows:List Bx) (e:Env):Prop where
 q:QT.app rs Q 0 ps rows w.heap.size
 v:v=O5 (Dz rs) e ps
 m:Mem av [] w e rows
 ok:∀ p∈ps,p.Ok w (zY av [] e rows)
 fresh:∀(k b:Nat),e.at k=some b->w0.heap.size<=b
 size:w0.heap.size<=w.heap.size
 old:∀ b,b<w0.heap.size->w.heap[b]?=w0.heap[b]?
 fz:∀(b:Nat) (c:Array Value) (t:TypeId) (z:Nat × Nat),w0.heap.size<=b->w.heap[b]?=some (.cells c t z)->Fz z
 ku:KU w0 w
def Fin (rs:List Sh)(Q:QT rs)(av:Nat->Prop)(w0:World):Ending->World->Prop
 | .returned v,w=>∃ ps rows e,Done rs Q av w0 v w ps rows e
 | _,_=>False
structure ACalls (P:Program) (f:FuncId) (rs:List Sh) (args:List PV) (N:Nat) (Q:QT rs):Prop where
 c:wL P f=true
 h : ∀(av:Nat->Prop) (w0:World),w0.heap.size=N->Avl av w0 []->(∀ p∈args,p.Ok w0 av/\p.refs=[]) ->
   Calls P f (args.map (PV.val [])).toArray w0 (Fin rs Q av w0)
variable {av:Nat->Prop} {P:Program} {w0 w w':World} {e0 e:Env} {pS pS' pB pB':List Nat} {a:Act} {st st':St}
def Wj (st:St)(k:Nat):Bool:=match st.bx[k]? with
 | some (.arr ..)=>true
 | _=>false
def Bm (bx:List Bx):Nat->List Nat->List Nat->List Nat
 | 0,_,I=>I
 | _+1,[],I=>I
 | n+1,k::J,I=>match I.contains k with
   | true=>Bm bx n J I
   | false=>Bm bx n (J++(bx.getD k .gone).refs) (I++[k])
theorem uz {bx:List Bx}:∀(n:Nat)(J I:List Nat),I.Nodup->(Bm bx n J I).Nodup
 | 0,_,I,h=>h
 | _+1,[],I,h=>h
 | n+1,k::J,I,h=>by
   simp only[Bm];split
   ·exact uz n J I h
   ·rename_i Y;refine uz n _ _ ?_;rw[nS];refine⟨h,by simp,λx hx y U O=>?_⟩;simp at U;subst U;subst O;simp[hx]at Y
theorem Bn {bx:List Bx}{A:Nat->Prop}(U:∀ k,A k->∀ j∈(bx.getD k .gone).refs,A j):∀(n:Nat)(J I:List Nat),(∀ k∈J,A k)->(∀ k∈I,A k)->∀ k∈Bm bx n J I,A k
 | 0,_,I,_,h=>h
 | _+1,[],I,_,h=>h
 | n + 1,k::J,I,O,Y=>by
   simp only[Bm];split
   ·exact Bn U n J I (λj hj=>O j (by simp[hj])) Y
   ·refine Bn U n _ _ (λj hj=>?_) λj hj=>?_
    ·rcases oM.1 hj with hj | hj
     ·exact O j (by simp[hj])
     ·exact U k (O k (by simp)) j hj
    ·rcases oM.1 hj with hj | hj
     ·exact Y j hj
     ·simp at hj;subst hj;exact O j (by simp)
def pos:List Nat->Nat->Option Nat
 | [],_=>none
 | x :: xs,k=>match decide (x=k)with
   | true=>some 0
   | false=>match pos xs k with
     | some j=>some (j+1)
     | none=>none
theorem pR:∀ {ks:List Nat}{k j:Nat},pos ks k=some j->ks[j]?=some k
 | [],k,j,h=>by simp[pos]at h
 | x::xs,k,j,h=>by
   simp only[pos]at h;split at h
   ·rename_i I;simp at I h;subst I;subst h;rfl
   ·split at h
    ·rename_i i hi;simp at h;subst h;simpa using pR hi
    ·cases h
mutual
def PV.ren (ks:List Nat):PV->Option PV
 | .pb k z i o=>match pos ks k with
   | some j=>some (.pb j z i o)
   | none=>none
 | .sb k z lo n c=>match pos ks k with
   | some j=>some (.sb j z lo n c)
   | none=>none
 | .fn f caps=>match PV.renL ks caps with
   | some l=>some (.fn f l)
   | none=>none
 | .pg cs=>match PV.renL ks cs with
   | some l=>some (.pg l)
   | none=>none
 | .tp cs=>match PV.renL ks cs with
   | some l=>some (.tp l)
   | none=>none
 | p=>some p
def PV.renL (ks:List Nat):List PV->Option (List PV)
 | []=>some []
 | p::ps=>match PV.ren ks p,PV.renL ks ps with
   | some q,some qs=>some (q::qs)
   | _,_=>none
end
structure Ren (ks:List Nat) (e e':Env) (p q:PV):Prop where
 cv:p.cv e=q.cv e'
 v1:p.val1 e=q.val1 e'
 ok:∀ w live,p.Ok w live->q.Ok w live
 rf:∀ j∈q.refs,j<ks.length
 ic:p.isC->q.isC
 an:p=.any↔q=.any
structure RenL (ks:List Nat) (e e':Env) (ps qs:List PV):Prop where
 cv:PV.cvs e ps=PV.cvs e' qs
 v1:ps.map (PV.val1 e)=qs.map (PV.val1 e')
 ok:∀ w live,PV.OkL w live ps->PV.OkL w live qs
 rf:∀ j∈PV.refsL qs,j<ks.length
 ic:(∀ p∈ps,p.isC)->∀ q∈qs,q.isC
def pj (e:Env)(ks:List Nat):Env:=ks.map e.at
theorem QC {ks:List Nat}{k j:Nat}(h:pos ks k=some j):(pj e ks).at j=e.at k:=by
 have:=pR h
 simp[pj,Env.at,oA,this]
theorem Tz {ks:List Nat}{k j:Nat}(h:pos ks k=some j):j<ks.length:=(oD.1 (pR h)).1
mutual
theorem wM {ks:List Nat}:∀ {p q:PV},p.ren ks=some q->Ren ks e (pj e ks) p q
 | .pb k z i o,q,h=>by
   simp only[PV.ren]at h
   split at h
   ·rename_i j hj
    simp at h;subst h
    have J:(PV.pb k z i o).cv e=(PV.pb j z i o).cv (pj e ks):=by simp[PV.cv,QC hj]
    exact⟨J,J,λ_ _=>id,by simp[PV.refs];exact Tz hj,id,by simp⟩
   ·cases h
 | .sb k z lo n c,q,h=>by
   simp only[PV.ren]at h
   split at h
   ·rename_i j hj
    simp at h;subst h
    have J:(PV.sb k z lo n c).cv e=(PV.sb j z lo n c).cv (pj e ks):=by simp[PV.cv,QC hj]
    exact⟨J,J,λ_ _=>id,by simp[PV.refs];exact Tz hj,id,by simp⟩
   ·cases h
 | .fn f caps,q,h=>by
   simp only[PV.ren]at h
   split at h
   ·rename_i l O
    simp at h;subst h
    have:=qt O
    have J:(PV.fn f caps).cv e=(PV.fn f l).cv (pj e ks):=by simp only[PV.cv,this.cv]
    exact⟨J,J,λw live I=>by simp only[PV.Ok]at I ⊢;exact this.ok w live I,by simp only[PV.refs];exact this.rf,id,by simp⟩
   ·cases h
 | .pg cs,q,h=>by
   simp only[PV.ren]at h
   split at h
   ·rename_i l O
    simp at h;subst h
    have:=qt O
    exact⟨rfl,by simp only[PV.val1,this.cv],λw live I=>by simp only[PV.Ok]at I ⊢;exact⟨this.ok w live I.1,this.ic I.2⟩,by simp only[PV.refs];exact this.rf,id,by simp⟩
   ·cases h
 | .tp cs,q,h=>by
   simp only[PV.ren]at h
   split at h
   ·rename_i l O
    simp at h;subst h
    have:=qt O
    exact⟨rfl,rfl,λw live I=>by simp only[PV.Ok]at I ⊢;exact this.ok w live I,by simp only[PV.refs];exact this.rf,id,by simp⟩
   ·cases h
 | .any,q,h=>by simp[PV.ren]at h;subst h;exact⟨rfl,rfl,λ_ _=>id,by simp[PV.refs],id,by simp⟩
 | .int ..,q,h=>by simp[PV.ren]at h;subst h;exact⟨rfl,rfl,λ_ _=>id,by simp[PV.refs],id,by simp⟩
 | .bool ..,q,h=>by simp[PV.ren]at h;subst h;exact⟨rfl,rfl,λ_ _=>id,by simp[PV.refs],id,by simp⟩
 | .str ..,q,h=>by simp[PV.ren]at h;subst h;exact⟨rfl,rfl,λ_ _=>id,by simp[PV.refs],id,by simp⟩
 | .lit ..,q,h=>by simp[PV.ren]at h;subst h;exact⟨rfl,rfl,λ_ _=>id,by simp[PV.refs],id,by simp⟩
 | .sv ..,q,h=>by simp[PV.ren]at h;subst h;exact⟨rfl,rfl,λ_ _=>id,by simp[PV.refs],id,by simp⟩
 | .d ..,q,h=>by simp[PV.ren]at h;subst h;exact⟨rfl,rfl,λ_ _=>id,by simp[PV.refs],id,by simp⟩
 | .dc ..,q,h=>by simp[PV.ren]at h;subst h;exact⟨rfl,rfl,λ_ _=>id,by simp[PV.refs],id,by simp⟩
 | .dg ..,q,h=>by simp[PV.ren]at h;subst h;exact⟨rfl,rfl,λ_ _=>id,by simp[PV.refs],id,by simp⟩
 | .pd ..,q,h=>by simp[PV.ren]at h;subst h;exact⟨rfl,rfl,λ_ _=>id,by simp[PV.refs],id,by simp⟩
theorem qt {ks:List Nat}:∀ {ps qs:List PV},PV.renL ks ps=some qs->RenL ks e (pj e ks) ps qs
 | [],qs,h=>by simp[PV.renL]at h;subst h;exact⟨rfl,rfl,λ_ _=>id,by simp[PV.refsL],λ_=>by simp⟩
 | p :: ps,qs,h=>by
   simp only[PV.renL]at h
   split at h
   ·rename_i q l hq O
    simp at h;subst h
    have U:=wM hq
    have Y:=qt O
    refine⟨by simp[PV.cvs,U.cv,Y.cv],by simp[U.v1,Y.v1],λw live I=>⟨U.ok w live I.1,Y.ok w live I.2⟩,λj hj=>?_,λhc r hr=>?_⟩
    ·simp only[PV.refsL]at hj
     rcases oM.1 hj with hj | hj
     ·exact U.rf j hj
     ·exact Y.rf j hj
    ·rcases oL.1 hr with rfl | hr
     ·exact U.ic (hc p (by simp))
     ·exact Y.ic (λx hx=>hc x (by simp[hx])) r hr
   ·cases h
end
theorem RJ {ks:List Nat}{p q:PV}(h:p.ren ks=some q):p.val e=q.val (pj e ks):=by
 have h1:=wM (e:=e) h;cases p
 case tp cs=>
  simp only[PV.ren]at h;split at h
  ·rename_i l hl;simp at h;subst h;simp only[PV.val,(qt (e:=e) hl).v1]
  ·cases h
 all_goals
  have h2:=h1.v1;simp only[PV.ren]at h
  first
   | (simp at h;subst h;exact h2)
   | (split at h
      ·simp at h;subst h;exact h2
      ·cases h)
def Rz (ks:List Nat)(p:PV):PV:=match PV.ren ks p with
 | some q=>q
 | none=>.any
def Bx.ren (ks:List Nat):Bx->Bx
 | .var cs=>.var (cs.map (Rz ks))
 | B=>B
def rr:PV->Option PV
 | .pg cs=>match JR cs with
   | some ds=>some (.dg cs.length (.ag ds))
   | none=>none
 | .int k n=>some (.int k n)
 | .bool v=>some (.bool v)
 | .str v=>some (.str v)
 | .lit x=>some (.lit x)
 | .sv a z es c=>some (.sv a z es c)
 | .dg n x=>some (.dg n x)
 | .dc x=>some (.dc x)
 | .pd ad z x=>some (.pd ad z x)
 | _=>none
def SN (B:Bx):Option (Nat × D):=
 match B with
 | .var cs=>match cs with
   | [p]=>match pY p with
     | some d=>some (0,d)
     | none=>none
   | cs=>match cs.length,JR cs with
     | z+1,some ds=>some (z+1,.ag ds)
     | _,_=>none
 | .vd x n=>match n with
   | 0=>none
   | z+1=>some (z+1,x)
 | _=>none
def ApA (a:Option Addr)(es:List D):Prop:=∀ ad,a=some ad->∀ d∈es,ad.block∉d.foot
def Off (bs:List (Option Addr))(d:D):Prop:=∀ a∈bs,∀ ad,a=some ad->ad.block∉d.foot
def Tt (a:Option Addr):List PV->Prop->Prop
 | [],K=>K
 | .sv I z es c::ps,K=>Off [a] (.sl I z es c)->Tt a ps K
 | .dg _ x::ps,K=>Off [a] x->Tt a ps K
 | _::ps,K=>Tt a ps K
def Ht (st:St) (I:List PV):List PV->(List D->List (Option Addr)->Prop)->Prop
 | [],K=>K [] []
 | p :: ps,K=>match p with
   | .sb k z lo n c=>match st.bx[k]? with
     | some (.arr _ z' es J)=>match decide (z=z'/\lo=0)with
       | true=>(n=es.length/\c=J)/\∀ a,ApA a es->Tt a I (Ht st I ps λds bs=>K (.sl a z es c::ds) (a::bs))
       | false=>False
     | _=>False
   | p=>match pY p with
     | some d=>Ht st I ps λds bs=>K (d::ds) bs
     | none=>False
mutual
def KO (st:St) (I:List PV):PV->(PV->List (Option Addr)->Prop)->Prop
 | .sb k z lo n c,K=>match st.bx[k]? with
   | some (.arr _ z' es J)=>match decide (z=z'/\lo=0)with
     | true=>(n=es.length/\c=J)/\∀ a,ApA a es->Tt a I (K (.sv a z es c) [a])
     | false=>False
   | _=>False
 | .pb k z i o,K=>match st.bx[k]? with
   | some B=>match decide (i=0/\o=0),SN B with
     | true,some (z,x)=>∀ ad:Addr,ApA (some ad) [x]->Tt (some ad) I (K (.pd ad z x) [some ad])
     | _,_=>False
   | none=>False
 | .fn f caps,K=>match caps.all PV.isCap with
   | true=>PT st I caps λcs bs=>K (.fn f cs) bs
   | false=>False
 | .pg cs,K=>match JR cs with
   | some ds=>K (.dg cs.length (.ag ds)) []
   | none=>Ht st I cs λds bs=>K (.dg cs.length (.ag ds)) bs
 | p,K=>match rr p with
   | some q=>K q []
   | none=>False
def PT (st:St) (I:List PV):List PV->(List PV->List (Option Addr)->Prop)->Prop
 | [],K=>K [] []
 | p::ps,K=>KO st I p λq b1=>PT st I ps λqs b2=>K (q::qs) (b1++b2)
end
def Uu (p:PV):Option (FuncId × List PV):=match p with
 | .fn f caps=>some (f,caps)
 | .dc (.fn f caps)=>some (f,OY caps)
 | _=>none
def Tu (bs:List (Option Addr)):List PV->Prop->Prop
 | [],K=>K
 | .sv a z es c::ps,K=>Off bs (.sl a z es c)/\Tu bs ps K
 | .dg _ x::ps,K=>Off bs x/\Tu bs ps K
 | .dc x::ps,K=>Off bs x/\Tu bs ps K
 | _::ps,K=>Tu bs ps K
def XJ (bs:List (Option Addr)):List Bx->Prop->Prop
 | [],K=>K
 | .arr _ _ es _::rs,K=>Off bs (.ag es)/\XJ bs rs K
 | _::_,_=>False
def Xn (bs:List (Option Addr))(ps:List PV)(rows:List Bx)(K:Prop):Prop:=
 match bs with
 | []=>K
 | b::bs=>Tu (b::bs) ps (XJ (b::bs) rows K)
def Bel (N:Nat)(d:D):Prop:=∀ b∈d.foot,b<N
def R9 (N:Nat):List PV->Prop->Prop
 | [],K=>K
 | .sv a z es c::ps,K=>Bel N (.sl a z es c)->R9 N ps K
 | .dg _ x::ps,K=>Bel N x->R9 N ps K
 | _::ps,K=>R9 N ps K
def Vs (N:Nat):List Bx->Prop->Prop
 | [],K=>K
 | .arr _ _ es _::rs,K=>Bel N (.ag es)->Vs N rs K
 | _::rs,K=>Vs N rs K
def LN:List PV->PV
 | [p]=>p
 | ps=>.tp ps
def G5 (pk:Bool)(ps:List PV):PV:=match pk with
 | true=>.pg ps
 | false=>LN ps
def vN (N:Nat)(bs:List (Option Addr)):Prop:=∀ a∈bs,∀ ad,a=some ad->ad.block<N
def XV (N:Nat)(bs:List (Option Addr))(K:Prop):Prop:=match bs with
 | []=>K
 | _=>vN N bs->K
def bkP (as I:List PV):List Sh->List PV->(List PV->Prop)->Prop
 | [],ps,K=>K ps
 | s :: l,ps,K=>match s with
   | .pk=>bkP as I l ps K
   | .bk j=>match ps with
     | []=>K []
     | p::ps=>match p,as[j]?,I[j]? with
       | .dc x,some (.sv a z es c),some (.sb k z' lo n J)=>x=.sl a z es c/\bkP as I l ps λqs=>K (.sb k z' lo n J::qs)
       | _,_,_=>bkP as I l ps λqs=>K (p::qs)
   | _=>match ps with
     | []=>K []
     | p::ps=>bkP as I l ps λqs=>K (p::qs)
def Ui (P:Program)(sh:FuncId->List Sh)(st:St)(dst:Option Nat)(x:Operand)(args:List PV)(K:St->Prop):Prop:=
 match Uu (opd st.sl x)with
 | some (f,caps)=>match caps.all PV.isCap with
   | true=>PT st (args++caps) (args++caps) λas bs=>∀ N1,st.N<=N1->XV N1 bs (ACalls P f (sh f) as N1 (QT.lam (sh f) st.bx.length λps rows N2=>N1<=N2->bkP as (args++caps) (sh f) ps λps=>
     Xn bs ps rows (R9 N2 ps (Vs N2 rows (K (St.put { st with bx:=st.bx++rows,N:=N2 } dst (G5 (Dz (sh f)) ps)))))))
   | false=>False
 | none=>False
variable [Dfs] {av:Nat->Prop} {P:Program} {w0 w w':World} {e0 e:Env} {pS pS' pB:List Nat} {a:Act} {st st':St}
theorem Env.at_app {e e':Env}{k:Nat}:Env.at (e++e') k=if k<e.length then e.at k else e'.at (k - e.length):=by simp only[Env.at,oA,mt];split<;>rfl
theorem Good.lt {w:World}{live:Nat->Prop}{d:D}(h:Good w live d):∀ b∈d.foot,b<w.heap.size:=h.1.lt
theorem VQ (h:Rel av w0 e0 pS pB a w e st) (ax:∀ k∈pB,k<st.bx.length) {av':Nat->Prop} {bb:List Nat} (ao:∀ b,zY av pB e st.bx b->av' b\/b∈bb)
  {e':Env} {rows:List Bx} (al:w.heap.size<=w'.heap.size) (hold:∀ b,b<w.heap.size->w'.heap[b]?=w.heap[b]?) (hm:Mem av' [] w' e' rows) (aj:∀ B∈rows,B.row)
  (ae:∀(k b:Nat),e'.at k=some b->w.heap.size<=b) (aq:∀ b∈bb,∀ B∈rows,B.offB b)
  (au:∀(b:Nat) (c:Array Value) (t:TypeId) (z:Nat × Nat),w.heap.size<=b->w'.heap[b]?=some (.cells c t z)->Fz z) (aw:KU w w') :
  Rel av w0 e0 pS pB a w' (e++e') { st with bx:=st.bx++rows,N:=w'.heap.size } /\
  ∀ d:D,Good w' (zY av' [] e' rows) d->(∀ b∈bb,b∉d.foot)->Good w' (zY av pB (e++e') (st.bx++rows)) d:=by
 have Y:∀ k,k<st.bx.length->Env.at (e++e') k=e.at k:=λk J=>by rw[Env.at_app,if_pos (by rw[h.el];exact J)]
 have ak:∀ k,Env.at (e++e') (st.bx.length+k)=e'.at k:=λk=>by rw[Env.at_app,if_neg (by rw[h.el];omega)];congr 1;rw[h.el];omega
 have I:∀ k b,Lives pB (e++e') (st.bx++rows) k b->Lives pB e st.bx k b\/∃ j,k=st.bx.length+j/\e'.at j=some b/\∃ B,rows[j]?=some B:=λk b ⟨h1,h2,B,h3,h4⟩=>by
  by_cases J:k<st.bx.length
  ·rw[Y k J]at h2;rw[oQ J]at h3;exact .inl ⟨h1,h2,B,h3,h4⟩
  ·obtain⟨j,rfl⟩:∃ j,k=st.bx.length+j:=⟨k - st.bx.length,by omega⟩
   rw[ak]at h2;rw[oT (by omega)]at h3;rw[show st.bx.length+j - st.bx.length=j by omega]at h3;exact .inr ⟨j,rfl,h2,B,h3⟩
 have ah:∀ b,b<w.heap.size->zY av pB (e++e') (st.bx++rows) b->zY av pB e st.bx b:=λb U hl=>hl.elim .inl λ⟨k,J⟩=>by
  rcases I k b J with h1 | ⟨j,_,h1,_⟩
  ·exact .inr ⟨k,h1⟩
  ·have:=ae j b h1;omega
 have O:∀(j:Nat) (B:Bx),rows[j]?=some B->B≠.gone/\B.refs=[]:=λj B hj=>(aj B (oB hj)).sp;have ab:∀ d:D,Good w' (zY av' [] e' rows) d->(∀ b∈bb,b∉d.foot)->Good w' (zY av pB (e++e') (st.bx++rows)) d:=λd hd U=>by
  refine⟨hd.1,λb ac hl=>?_⟩;rcases hl with hl | ⟨k,J⟩
  ·rcases ao b (.inl hl)with h1 | h1
   ·exact hd.2 b ac (.inl h1)
   ·exact U b h1 ac
  ·rcases I k b J with h1 | ⟨j,_,h1,B,h2⟩
   ·rcases ao b (.inr ⟨k,h1⟩)with h1 | h1
    ·exact hd.2 b ac (.inl h1)
    ·exact U b h1 ac
   ·exact hd.2 b ac (.inr ⟨j,by simp,h1,B,h2,(O j B h2).1⟩)
 have ai:∀(k:Nat) (B:Bx),(st.bx++rows)[k]?=some B->(k<st.bx.length/\st.bx[k]?=some B)\/∃ j,k=st.bx.length+j/\rows[j]?=some B:=λk B J=>by
  by_cases aa:k<st.bx.length
  ·rw[oQ aa]at J;exact .inl ⟨aa,J⟩
  ·rw[oT (by omega)]at J;exact .inr ⟨k - st.bx.length,by omega,J⟩
 refine⟨?_,ab⟩;exact {
  el:=by simp[h.el,hm.el]
  br:=λk B J hn=>by
   rcases ai k B J with⟨aa,J⟩ | ⟨j,rfl,hj⟩
   ·rw[Y k aa];by_cases hg:B=.gone
    ·subst hg;exact True.intro
    ·exact(h.br k B J hn).congr (λb U=>hold b (Lives.lt h.toMem ⟨hn,U,B,J,hg⟩)) λi hi=>Y i (h.bf k B J hn i hi).2
   ·rw[ak];exact(hm.br j B hj (by simp)).congr (λ_ _=>rfl) λi hi=>by rw[(O j B hj).2]at hi;simp at hi
  bo:=λk B J hn=>by
   rcases ai k B J with⟨aa,J⟩ | ⟨j,rfl,hj⟩
   ·exact(h.bo k B J hn).mono (λb U _=>hold b U) al ah
   ·have hr:=aj B (oB hj);have ho:=λb U=>aq b U B (oB hj);have h0:=hm.bo j _ hj (by simp);cases B with
    | arr t z es c=>exact λx hx=>ab x (h0 x hx) λb U ac=>ho b U (zJ.2 ⟨x,hx,ac⟩)
    | _=>obtain⟨_,_,_,_,_,he⟩:=hr;cases he<;>exact⟨⟨ab _ h0.1.1 λb U=>(ho b U).elim,h0.1.2⟩,h0.2⟩
  bf:=λk B J hn i hi=>by
   rcases ai k B J with⟨aa,J⟩ | ⟨j,rfl,hj⟩
   ·have:=h.bf k B J hn i hi;exact⟨this.1,by simp;omega⟩
   ·rw[(O j B hj).2]at hi;simp at hi
  inj:=λi j b hi hj=>by
   rcases I i b hi with h1 | ⟨i',rfl,h1,B1,g1⟩
   ·rcases I j b hj with h2 | ⟨j',rfl,h2,B2,g2⟩
    ·exact h.inj i j b h1 h2
    ·have:=Lives.lt h.toMem h1;have:=ae j' b h2;omega
   ·rcases I j b hj with h2 | ⟨j',rfl,h2,B2,g2⟩
    ·have:=Lives.lt h.toMem h2;have:=ae i' b h1;omega
    ·rw[hm.inj i' j' b ⟨by simp,h1,B1,g1,(O _ _ g1).1⟩ ⟨by simp,h2,B2,g2,(O _ _ g2).1⟩]
  ku:=h.ku.trans aw
  size:=oR h.size al
  old:=λb U hn=>(hold b (o6 U h.size)).trans (h.old b U hn)
  fz:=λb c t z U hc=>by
   by_cases aa:b<w.heap.size
   ·rw[hold b aa]at hc;exact h.fz b c t z U hc
   ·exact au b c t z (by omega) hc
  nd:=h.nd
  sz:=h.sz
  hN:=oC _
  hs:=λi p hi hn=>by
   rcases h.hs i p hi hn with h1 | h1
   ·exact .inl h1
   ·exact .inr (h1.trans (PV.val_congr p λk J=>Y k (h.sr i p hi hn k J).2).symm)
  so:=λi p hi hn=>PV.Ok.mono (λb U _=>hold b U) al ah p (h.so i p hi hn)
  sr:=λi p hi hn k J=>by have:=h.sr i p hi hn k J;exact⟨this.1,by simp;omega⟩
  own:=λk b J=>by
   rcases I k b J with h1 | ⟨j,_,h1,_⟩
   ·exact h.own k b h1
   ·have:=ae j b h1;have:=h.size;exact .inl (by omega)
  avl:=h.avl
  avn:=λk b J=>by
   rcases I k b J with h1 | ⟨j,_,h1,_⟩
   ·exact h.avn k b h1
   ·intro hc;have:=h.avl.lt b hc;have:=ae j b h1;have:=h.size;omega
  pin:=λk b U=>by
   have:=h.pin k b U
   have hl:k<st.bx.length:=by rw[<-h.el];exact lN λhc=>by rw[Env.at_ge hc]at this;simp at this
   rw[Y k hl];exact this
  pit:=h.pit }
end Go.Proofs.YtlaniepnglheoaaGreatDoor
