/- How a real state that fits an abstract one goes on fitting: a slot is set, a box is made, a box is written. -/
import Derived.Test.YtnmnahkkcfghjaaGreatJb
set_option linter.unusedVariables false
set_option linter.unusedSimpArgs false
namespace Go.Proofs.YtnmnahkkcfghjaaGreat
open Go
def St.put (st:St) (dst:Option Nat) (p:PV):St:=
 match dst with
 | some d=>{ st with sl:=st.sl.set d p }
 | none=>st
variable {av:Nat->Prop} {P:Program} {w0 w w':World} {e0 e:Env} {pS pS' pB:List Nat} {a:Act} {st:St}
theorem pi {w:World} {o:Obj} {b:Nat} (h:b<w.heap.size):(w.alloc o).heap[b]?=w.heap[b]?:=by
 show (w.heap.push o)[b]?=w.heap[b]?
 rw [Array.getElem?_push,if_neg (Nat.ne_of_lt h)]
theorem zHh {w:World} {o:Obj}:(w.alloc o).heap[w.heap.size]?=some o:=by
 show (w.heap.push o)[w.heap.size]?=some o
 simp
theorem xm (h:Rel av w0 e0 pS pB a w e st) {dst:Option Nat} {v:Value} {p:PV} (hv:ValOk av w e pB st.bx v p) (Y:∀ i,i∈pS->some i≠dst->i∈pS'):Rel av w0 e0 pS' pB (a.put dst v) w e (st.put dst p):=by
 cases dst with
 | none=>exact { h with hs:=λi q hi I=>h.hs i q hi (λhc=>I (Y i hc (by simp))),so:=λi q hi I=>h.so i q hi (λhc=>I (Y i hc (by simp))),sr:=λi q hi I=>h.sr i q hi (λhc=>I (Y i hc (by simp))) }
 | some d=>
   have J:∀ i,i∉pS'->i≠d->i∉pS:=λi I hd hc=>I (Y i hc (by simp [hd]))
   have U:∀ (i:Nat) (q:PV),(st.sl.set d p)[i]?=some q->(i=d/\q=p/\d<st.sl.length)\/(i≠d/\st.sl[i]?=some q):=λi q hi=>by
    rw [nL] at hi
    split at hi
    ·rename_i hd
     subst hd
     split at hi
     ·rename_i O;simp at hi;exact .inl ⟨rfl,hi.symm,O⟩
     ·cases hi
    ·rename_i hd;exact .inr ⟨λhh=>hd hh.symm,hi⟩
   refine { h with nd:=h.nd,sz:=?_,hs:=?_,so:=?_,sr:=?_ }
   ·simp [St.put,Act.put];exact h.sz
   ·intro i q hi I
    rcases U i q hi with ⟨rfl,rfl,O⟩ | ⟨hd,hi⟩
    ·rcases hv.1 with h1 | h1
     ·exact .inl h1
     ·right
      have:i<a.tmps.size:=by have:=h.sz;omega
      simp [Act.put,this,h1]
    ·have:=h.hs i q hi (J i I hd)
     simp only [Act.put]
     rw [nH,Array.getElem?_setIfInBounds_ne (Ne.symm hd),<-nH]
     exact this
   ·intro i q hi I
    rcases U i q hi with ⟨rfl,rfl,O⟩ | ⟨hd,hi⟩
    ·exact hv.2.1
    ·exact h.so i q hi (J i I hd)
   ·intro i q hi I
    rcases U i q hi with ⟨rfl,rfl,O⟩ | ⟨hd,hi⟩
    ·exact hv.2.2
    ·exact h.sr i q hi (J i I hd)
theorem xu {pB:List Nat} {e:Env} {bx:List Bx} {B:Bx} (hl:e.length=bx.length) {k b:Nat}:Lives (bx.length::pB) (e++[none]) (bx++[B]) k b↔Lives (bx.length::pB) e bx k b:=by
 constructor
 ·rintro ⟨O,U,B',I,Y⟩
  have hk:k≠bx.length:=λh=>O (by simp [h])
  by_cases J:k<bx.length
  ·rw [Env.at_append_lt (by omega)] at U
   rw [oM J] at I
   exact ⟨O,U,B',I,Y⟩
  ·rw [oT (by simp;omega)] at I;cases I
 ·rintro ⟨O,U,B',I,Y⟩
  have J:k<bx.length:=(oC.1 I).1
  exact ⟨O,by rw [Env.at_append_lt (by omega)];exact U,B',by rw [oM J];exact I,Y⟩
theorem pN {pB:List Nat} {e:Env} {bx:List Bx} {j b:Nat} (h:zT av (j::pB) e bx b):zT av pB e bx b:=by
 rcases h with h | ⟨k,I,J⟩
 ·exact .inl h
 ·exact .inr ⟨k,λhc=>I (by simp [hc]),J⟩
/-- a box is promised: it stands in the list, and has no memory yet -/
theorem tH (h:Rel av w0 e0 pS pB a w e st) {B:Bx} :
  Rel av w0 e0 pS (st.bx.length::pB) a w (e++[none]) { st with bx:=st.bx++[B] }:=by
 have Y:∀ b,zT av (st.bx.length::pB) (e++[none]) (st.bx++[B]) b->zT av pB e st.bx b:=λb hb=>pN (hb.imp id λ⟨k,I⟩=>⟨k,(xu h.el).1 I⟩)
 have U:∀ (k:Nat) (B':Bx),(st.bx++[B])[k]?=some B'->(k<st.bx.length/\st.bx[k]?=some B')\/(k=st.bx.length/\B'=B):=λk B' I=>by
  by_cases O:k<st.bx.length
  ·rw [oM O] at I;exact .inl ⟨O,I⟩
  ·rw [oS (by omega)] at I
   have:k - st.bx.length=0:=by
    rcases my (k - st.bx.length) with h0 | h0
    ·exact h0
    ·rw [oT (by simp;omega)] at I;cases I
   rw [this] at I
   simp at I
   exact .inr ⟨by omega,I.symm⟩
 have aa:∀ k,k<st.bx.length->Env.at (e++[none]) k=e.at k:=λk I=>Env.at_append_lt (by rw [h.el];exact I)
 have ab:∀ (B':Bx),B'.Ok w (zT av pB e st.bx)->B'.Ok w (zT av (st.bx.length::pB) (e++[none]) (st.bx++[B])):=λB' hb=>hb.mono (λ_ _ _=>rfl) (oD _) (λb _=>Y b)
 exact {
  el:=by simp [h.el]
  br:=λk B' I J=>by
   rcases U k B' I with ⟨O,I⟩ | ⟨rfl,_⟩
   ·rw [aa k O]
    have ac:k∉pB:=λhc=>J (by simp [hc])
    exact (h.br k B' I ac).congr (λ_ _=>rfl) (λj hj=>aa j (h.bf k B' I ac j hj).2)
   ·exact absurd (by simp) J
  bo:=λk B' I J=>by
   rcases U k B' I with ⟨O,I⟩ | ⟨rfl,_⟩
   ·exact ab _ (h.bo k B' I λhc=>J (by simp [hc]))
   ·exact absurd (by simp) J
  bf:=λk B' I J j hj=>by
   rcases U k B' I with ⟨O,I⟩ | ⟨rfl,_⟩
   ·have:=h.bf k B' I (λhc=>J (by simp [hc])) j hj
    exact ⟨by simp;exact ⟨by omega,this.1⟩,by simp;omega⟩
   ·exact absurd (by simp) J
  inj:=λk j b I hj=>by
   have h1:=(xu h.el).1 I
   have h2:=(xu h.el).1 hj
   exact h.inj k j b ⟨λhc=>h1.1 (by simp [hc]),h1.2⟩ ⟨λhc=>h2.1 (by simp [hc]),h2.2⟩
  ku:=h.ku
  size:=h.size
  old:=h.old
  fz:=h.fz
  nd:=h.nd
  sz:=h.sz
  hN:=h.hN
  hs:=λi p hi J=>by
   have h1:=h.hs i p hi J
   rcases h1 with h1 | h1
   ·exact .inl h1
   ·refine .inr (h1.trans (PV.val_congr p λk I=>?_).symm)
    exact aa k (h.sr i p hi J k I).2
  so:=λi p hi J=>PV.Ok.mono (λ_ _ _=>rfl) (oD _) (λb _=>Y b) p (h.so i p hi J)
  sr:=λi p hi J k I=>by
   have:=h.sr i p hi J k I
   exact ⟨by simp;exact ⟨by omega,this.1⟩,by simp;omega⟩
  own:=λk b I=>by
   have h1:=(xu h.el).1 I
   exact h.own k b ⟨λhc=>h1.1 (by simp [hc]),h1.2⟩
  avl:=h.avl
  avn:=λk b I=>by
   have h1:=(xu h.el).1 I
   exact h.avn k b ⟨λhc=>h1.1 (by simp [hc]),h1.2⟩
  pin:=λk b hb=>by
   have:=h.pin k b hb
   have hl:k<e.length:=lD λhc=>by
    rw [Env.at_ge hc] at this;simp at this
   rw [Env.at_append_lt hl]
   exact ⟨this.1,by simp;exact ⟨by rw [<-h.el];omega,this.2⟩⟩
  pit:=h.pit }
/-- a promised box gets its memory -/
theorem qM (h:Rel av w0 e0 pS pB a w e st) {k:Nat} {B:Bx} {v:Value} {c:Array Value} {t:TypeId} {f:Nat->PV} (hk:st.bx[k]?=some B) (ak:k∈pB)
  (nb:NewBox av w e pB st.bx v (w.alloc (.cells c t)) B f) :
  Rel av w0 e0 pS (pB.filter (·≠k)) a (w.alloc (.cells c t)) (e.set k (some w.heap.size)) st:=by
 have al:k<st.bx.length:=(oC.1 hk).1
 have am:k<e.length:=by rw [h.el];exact al
 have O:∀ j,j∉pB.filter (·≠k)↔(j∉pB\/j=k):=λj=>by simp;exact Decidable.imp_iff_not_or
 have aa:∀ j,j≠k->Env.at (e.set k (some w.heap.size)) j=e.at j:=λj I=>Env.at_set_ne I
 have ac:Env.at (e.set k (some w.heap.size)) k=some w.heap.size:=Env.at_set_eq am
 have J:∀ j b,Lives (pB.filter (·≠k)) (e.set k (some w.heap.size)) st.bx j b->(j=k/\b=w.heap.size)\/(j≠k/\Lives pB e st.bx j b):=λj b ⟨h1,h2,B',h3,h4⟩=>by
  by_cases I:j=k
  ·subst I;rw [ac] at h2;exact .inl ⟨rfl,(oW h2).symm⟩
  ·rw [aa j I] at h2
   rcases (O j).1 h1 with h5 | h5
   ·exact .inr ⟨I,h5,h2,B',h3,h4⟩
   ·exact absurd h5 I
 have U:∀ b,b<w.heap.size->(w.alloc (.cells c t)).heap[b]?=w.heap[b]?:=λb Y=>pi Y
 have ab:∀ b,b<w.heap.size->zT av (pB.filter (·≠k)) (e.set k (some w.heap.size)) st.bx b->zT av pB e st.bx b:=λb Y hl=>by
  rcases hl with hl | ⟨j,I⟩
  ·exact .inl hl
  rcases J j b I with ⟨_,rfl⟩ | ⟨_,h1⟩
  ·omega
  ·exact .inr ⟨j,h1⟩
 have ae:w.heap.size<=(w.alloc (.cells c t)).heap.size:=by simp
 have ah:∀ j,j∉pB->j≠k:=λj I hh=>I (hh ▸ ak)
 exact {
  el:=by simp [h.el]
  br:=λj B' I hn=>by
   by_cases ai:j=k
   ·subst ai
    rw [hk] at I
    have:=oW I
    subst this
    rw [ac]
    exact nb.rel _ λi hi=>aa i (ah i (nb.rf i hi).1)
   ·have aj:j∉pB:=((O j).1 hn).resolve_right ai
    rw [aa j ai]
    have hr:=h.br j B' I aj
    by_cases hg:B'=.gone
    ·subst hg;exact True.intro
    ·exact hr.congr (λb Y=>U b (Lives.lt h.toMem ⟨aj,Y,B',I,hg⟩)) (λi hi=>aa i (ah i (h.bf j B' I aj i hi).1))
  bo:=λj B' I hn=>by
   rcases (O j).1 hn with h1 | h1
   ·exact (h.bo j B' I h1).mono (λb Y _=>U b Y) ae ab
   ·subst h1
    rw [hk] at I
    have:=oW I
    subst this
    exact nb.ok.mono (λb Y _=>U b Y) ae ab
  bf:=λj B' I hn i hi=>by
   rcases (O j).1 hn with h1 | h1
   ·have:=h.bf j B' I h1 i hi;exact ⟨(O i).2 (.inl this.1),this.2⟩
   ·subst h1
    rw [hk] at I
    have:=oW I
    subst this
    have:=nb.rf i hi
    exact ⟨(O i).2 (.inl this.1),this.2⟩
  inj:=λi j b hi I=>by
   rcases J i b hi with ⟨rfl,rfl⟩ | ⟨h1,h2⟩
   ·rcases J j _ I with ⟨rfl,_⟩ | ⟨h3,h4⟩
    ·rfl
    ·have:=Lives.lt h.toMem h4;omega
   ·rcases J j b I with ⟨rfl,rfl⟩ | ⟨h3,h4⟩
    ·have:=Lives.lt h.toMem h2;omega
    ·exact h.inj i j b h2 h4
  ku:=⟨h.ku.os,h.ku.out⟩
  size:=by have:=h.size;simp;omega
  old:=λb Y hn=>by rw [U b (by have:=h.size;omega)];exact h.old b Y hn
  fz:=λb c' t' z Y hc=>by
   by_cases ao:b<w.heap.size
   ·rw [U b ao] at hc;exact h.fz b c' t' z Y hc
   ·have aq:b=w.heap.size:=by have:=(oU.1 hc).1;simp at this;omega
    subst aq
    rw [zHh] at hc
    cases hc;exact fz0
  nd:=h.nd
  sz:=h.sz
  hN:=by have:=h.hN;simp;omega
  hs:=λi p hi hn=>by
   rcases h.hs i p hi hn with h1 | h1
   ·exact .inl h1
   ·exact .inr (h1.trans (PV.val_congr p λj I=>aa j (ah j (h.sr i p hi hn j I).1)).symm)
  so:=λi p hi hn=>PV.Ok.mono (λb Y _=>U b Y) ae ab p (h.so i p hi hn)
  sr:=λi p hi hn j I=>by
   have:=h.sr i p hi hn j I
   exact ⟨(O j).2 (.inl this.1),this.2⟩
  own:=λj b I=>by
   rcases J j b I with ⟨rfl,rfl⟩ | ⟨_,h2⟩
   ·left;exact h.size
   ·exact h.own j b h2
  avl:=h.avl
  avn:=λj b I=>by
   rcases J j b I with ⟨rfl,rfl⟩ | ⟨_,h2⟩
   ·intro hc;have h3:=h.avl.lt _ hc;have h4:=h.size;omega
   ·exact h.avn j b h2
  pin:=λj b Y=>by
   have:=h.pin j b Y
   have au:j≠k:=λhc=>this.2 (hc ▸ ak)
   rw [aa j au]
   exact ⟨this.1,(O j).2 (.inl this.2)⟩
  pit:=h.pit }
inductive Res where
 | v (p:PV)
 | b (B:Bx) (f:Nat->PV)
/-- what a function value has captured -/
def zKX (ds:List D):List PV:=ds.map λd=>match d with
 | .pt ad z x=>.pd ad z x
 | d=>.dc d
/-- what is read is brought to its type's form at once, where the type has one -/
def zP8 (P:Program) (t:TypeId) (p:PV) (R:PV->Prop):Prop:=
 match p with
 | .dc x=>match P.underlying t with
   | some (.int k)=>∃ n,x=.lit (.int k n)/\R (.int k n)
   | some .bool=>∃ v,x=.lit (.bool v)/\R (.bool v)
   | some .string=>∃ v,x=.lit (.string v)/\R (.str v)
   | some (.slice el)=>match kz P el with
     | some z=>∃ a es cap,x=.sl a z es cap/\R (.sv a z es cap)
     | none=>R (.dc x)
   | some (.pointer _)=>match x with
     | .pt ad z y=>R (.pd ad z y)
     | x=>R (.dc x)
   | some (.func _ _ _)=>match x with
     | .fn f ds=>R (.fn f (zKX ds))
     | x=>R (.dc x)
   | _=>R (.dc x)
 | p=>R p
def zPL:Op->Bool
 | .alloc _ | .box .. | .buildSlice .. | .makeSlice .. | .build ..=>true
 | .move _ | .assign _ | .pick .. | .load .. | .nilCheck _ | .binOp .. | .unOp .. | .convert .. | .fieldAddr .. | .indexAddr .. | .index .. | .slice .. | .field .. | .extract .. | .makeFunc .. | .lookup ..=>true
 | .call c=>match c.callee with
   | .builtin .len=>true
   | .builtin .max=>true
   | .builtin .min=>true
   | _=>false
 | _=>false
def nev (P:Program) (ρ:Operand->PV) (rb:Nat->Option Bx) (op:Op) (ty:TypeId) (R:Res->Prop):Prop:=
 match op with
 | .alloc t=>zJT P ρ (.alloc t) λB f=>R (.b B f)
 | .box t x=>zJT P ρ (.box t x) λB f=>R (.b B f)
 | .buildSlice t n parts=>zJT P ρ (.buildSlice t n parts) λB f=>R (.b B f)
 | .makeSlice t l c=>zJT P ρ (.makeSlice t l c) λB f=>R (.b B f)
 | .build t parts=>zAp P ρ t parts.toList λp=>R (.v p)
 | op=>qn P ρ rb op ty λp=>zP8 P ty p λq=>R (.v q)
/-- a functional that picks one: what it asks of its continuation it asks at one place -/
def Lin {α:Type} (F:(α->Prop)->Prop):Prop:=∀ R,F R->∃ x,R x/\∀ R':α->Prop,R' x->F R'
theorem Lin.pure {α:Type} (x:α):Lin (λR:α->Prop=>R x):=λR h=>⟨x,h,λ_ h=>h⟩
theorem Lin.bind {α β:Type} {F:(α->Prop)->Prop} {G:α->(β->Prop)->Prop} (I:Lin F) (J:∀ x,Lin (G x)):Lin (λR=>F λx=>G x R):=λR h=>by
 obtain ⟨x,O,U⟩:=I _ h
 obtain ⟨y,Y,h4⟩:=J x R O
 exact ⟨y,Y,λR' h=>U _ (h4 R' h)⟩
theorem Lin.and {α:Type} {p:Prop} {F:(α->Prop)->Prop} (I:Lin F):Lin (λR=>p/\F R):=λR h=>by
 obtain ⟨y,J,O⟩:=I R h.2
 exact ⟨y,J,λR' U=>⟨h.1,O R' U⟩⟩
theorem Lin.ex {α β:Type} {F:β->(α->Prop)->Prop} (I:∀ b,Lin (F b)):Lin (λR=>∃ b,F b R):=λR ⟨b,h⟩=>by
 obtain ⟨y,J,O⟩:=I b R h
 exact ⟨y,J,λR' U=>⟨b,O R' U⟩⟩
theorem Lin.no {α:Type}:Lin (λ_:α->Prop=>False):=λ_ h=>h.elim
theorem Lin.ite {α:Type} {p:Prop} [Decidable p] {F G:(α->Prop)->Prop} (I:Lin F) (J:Lin G):Lin (λR=>if p then F R else G R):=by
 by_cases h:p
 ·simp only [h,mV];exact I
 ·simp only [h,na];exact J
theorem wo {P:Program} {t:TypeId} {p:PV}:Lin (frc P t p):=by
 unfold frc
 cases p
 case dc x=>
  simp only
  cases P.underlying t with
  | none=>exact Lin.no
  | some d=>
    cases d<;>simp only<;>first
     | exact Lin.no
     | exact Lin.ex λn=>Lin.and (Lin.pure _)
     | skip
    rename_i el
    cases kz P el with
    | none=>exact Lin.no
    | some z=>exact Lin.ex λa=>Lin.ex λes=>Lin.ex λc=>Lin.and (Lin.pure _)
 all_goals exact Lin.pure _
theorem zN5 {P:Program} {t:TypeId} {p:PV}:Lin (zP8 P t p):=by
 unfold zP8
 cases p
 case dc x=>
  simp only
  cases P.underlying t with
  | none=>exact Lin.pure _
  | some d=>
    cases d<;>simp only<;>first
     | exact Lin.pure _
     | exact Lin.ex λn=>Lin.and (Lin.pure _)
     | skip
    ·cases x<;>exact Lin.pure _
    ·rename_i el
     cases kz P el with
     | none=>exact Lin.pure _
     | some z=>exact Lin.ex λa=>Lin.ex λes=>Lin.ex λc=>Lin.and (Lin.pure _)
    ·cases x<;>exact Lin.pure _
 all_goals exact Lin.pure _
theorem rg {p:PV}:Lin (zM5 p):=by
 unfold zM5
 cases p<;>simp only<;>first | exact Lin.pure _ | exact Lin.no | skip
 exact Lin.ex λk=>Lin.ex λn=>Lin.and (Lin.pure _)
theorem zOW {p:PV}:Lin (zQy p):=by
 unfold zQy
 cases p<;>simp only<;>first | exact Lin.pure _ | exact Lin.no | skip
 exact Lin.ex λn=>Lin.and (Lin.pure _)
theorem rZ {p:Option PV} {d:Int}:Lin (zN1 p d):=by
 unfold zN1
 cases p<;>simp only
 ·exact Lin.pure _
 ·exact rg
theorem zIX {cs:List PV}:Lin (pgR cs):=by
 unfold pgR;exact Lin.ite (Lin.pure _) (Lin.pure _)
theorem zMm {z zz:Nat} {B:Bx} {i o:Nat}:Lin (zIZ z zz B i o):=by
 unfold zIZ
 cases B<;>simp only
 case gone=>exact Lin.no
 case var cs=>cases i<;>simp only<;>first | exact Lin.no | exact Lin.ite (Lin.ite (Lin.pure _) Lin.no) (Lin.ite zIX Lin.no)
 case vd x n=>cases i<;>simp only<;>first | exact Lin.no | exact Lin.ite (Lin.ite (Lin.pure _) Lin.no) (Lin.ite (Lin.pure _) (Lin.ite (Lin.pure _) Lin.no))
 case arr t z' es n=>
  refine Lin.ite (Lin.and ?_) Lin.no
  exact Lin.ite (Lin.ite (Lin.pure _) Lin.no) (Lin.ite (Lin.ite (Lin.pure _) Lin.no) (Lin.ite (Lin.pure _) (Lin.ite (Lin.pure _) Lin.no)))
theorem zOU {op:BinOp} {k:IntKind} {a b:Int}:Lin (zR2 op k a b):=by
 unfold zR2
 cases op<;>simp only<;>first | exact Lin.pure _ | exact Lin.no | exact Lin.and (Lin.pure _)
theorem zNk {op:BinOp} {a b:ByteArray}:Lin (zSC op a b):=by
 unfold zSC
 cases op<;>simp only<;>first | exact Lin.pure _ | exact Lin.no | exact Lin.and (Lin.pure _)
theorem zMw {op:BinOp} {a b:Bool}:Lin (zN6 op a b):=by
 unfold zN6
 cases op<;>simp only<;>first | exact Lin.pure _ | exact Lin.no
theorem zOP {P:Program} {op:BinOp} {t:TypeId} {a b:Option Addr} {I cb:Nat} {J:List D}:Lin (zSB P op t a b I J cb):=by
 unfold zSB
 split<;>try exact Lin.no
 split<;>try exact Lin.no
 cases op<;>simp only<;>first | exact Lin.pure _ | exact Lin.no
theorem zNS {P:Program} {op:BinOp} {t:TypeId} {p q:PV}:Lin (zRU P op t p q):=by
 unfold zRU
 cases p<;>cases q<;>simp only<;>first | exact Lin.no | exact zNk | exact zOP | skip
 ·cases op<;>simp only<;>first | exact Lin.and (Lin.pure _) | exact Lin.ite zOU Lin.no
 ·cases P.underlying t with
  | none=>exact Lin.no
  | some d=>cases d<;>simp only<;>first | exact Lin.no | exact zMw
theorem zJ4 {rb:Nat->Option Bx} {p:PV}:Lin (zCR rb p):=by
 unfold zCR
 split
 ·split
  ·exact Lin.ex λns=>Lin.and (Lin.pure _)
  ·exact Lin.no
 ·split
  ·split
   ·exact Lin.and (Lin.ex λns=>Lin.and (Lin.pure _))
   ·exact Lin.no
  ·exact Lin.no
 ·exact Lin.no
theorem zNt {P:Program} {ρ:Operand->PV} {rb:Nat->Option Bx} {op:Op} {ty:TypeId}:Lin (qn P ρ rb op ty):=by
 unfold qn
 cases op<;>(try simp only)<;>try exact Lin.no
 case move=>exact Lin.pure _
 case assign=>exact Lin.pure _
 case pick=>exact Lin.bind zOW λv=>Lin.ite (Lin.pure _) (Lin.pure _)
 case load t x=>
  cases kz P t with
  | none=>exact Lin.no
  | some z=>
    simp only
    cases ρ x<;>(try simp only)<;>try exact Lin.no
    ·rename_i k zz i o
     cases rb k with
     | none=>exact Lin.no
     | some B=>exact zMm
    ·exact Lin.ite (Lin.pure _) Lin.no
 case nilCheck x=>cases ρ x<;>(try simp only)<;>first | exact Lin.no | exact Lin.pure _
 case binOp=>exact Lin.bind wo λp=>Lin.bind wo λq=>zNS
 case unOp op t x=>
  cases op<;>(try simp only)<;>first
   | exact Lin.no
   | exact Lin.bind wo λp=>(by cases p<;>(try simp only)<;>first | exact Lin.no | exact Lin.pure _)
 case convert s d x=>
  cases P.underlying d with
  | none=>exact Lin.no
  | some dd=>
    cases dd<;>(try simp only)<;>try exact Lin.no
    ·cases P.underlying s with
     | none=>exact Lin.no
     | some I=>
       cases I<;>(try simp only)<;>try exact Lin.no
       exact Lin.bind wo λp=>(by cases p<;>(try simp only)<;>first | exact Lin.no | exact Lin.pure _)
    ·cases P.underlying s with
     | none=>exact Lin.no
     | some I=>
       cases I<;>(try simp only)<;>try exact Lin.no
       split<;>try exact Lin.no
       exact Lin.bind wo λp=>zJ4
 case lookup t m i ok=>
  cases ok<;>(try simp only)<;>try exact Lin.no
  cases P.underlying t with
  | none=>exact Lin.no
  | some d=>
    cases d<;>(try simp only)<;>try exact Lin.no
    refine Lin.bind wo λp=>?_
    cases p<;>(try simp only)<;>try exact Lin.no
    cases ρ m<;>(try simp only)<;>try exact Lin.no
    exact Lin.ex λb=>Lin.ex λes=>Lin.ex λc=>Lin.and (Lin.ex λo=>Lin.and (Lin.pure _))
 case makeFunc f first caps=>
  cases f<;>(try simp only)<;>try exact Lin.no
  cases first.toList<;>(try simp only)<;>try exact Lin.no
  exact Lin.ite (Lin.pure _) Lin.no
 case slice t x lo hi mx=>
  cases mx<;>(try simp only)<;>try exact Lin.no
  cases P.underlying t with
  | none=>exact Lin.no
  | some d=>
    cases d<;>(try simp only)<;>try exact Lin.no
    ·refine Lin.bind wo λp=>?_
     cases p<;>(try simp only)<;>try exact Lin.no
     exact Lin.bind rZ λl=>Lin.bind rZ λh=>Lin.and (Lin.pure _)
    ·rename_i el
     cases kz P el with
     | none=>exact Lin.no
     | some z=>
       try simp only
       refine Lin.bind wo λp=>?_
       cases p<;>(try simp only)<;>try exact Lin.no
       ·exact Lin.ite (Lin.bind rZ λl=>Lin.bind rZ λh=>Lin.and (Lin.pure _)) Lin.no
       ·cases lo<;>simp only
        ·exact Lin.bind rZ λh=>Lin.and (Lin.pure _)
        ·exact Lin.ite (Lin.bind rg λl=>Lin.bind rZ λh=>Lin.and (Lin.pure _)) Lin.no
 case fieldAddr t x f=>
  cases rh P t f with
  | none=>exact Lin.no
  | some J=>
    obtain ⟨o,z⟩:=J
    simp only
    cases ρ x<;>(try simp only)<;>first | exact Lin.no | exact Lin.pure _ | exact Lin.ite (Lin.pure _) Lin.no
 case field t x f=>
  cases rh P t f with
  | none=>exact Lin.no
  | some J=>
    obtain ⟨o,z⟩:=J
    simp only
    cases ρ x<;>(try simp only)<;>try exact Lin.no
    ·exact Lin.ite (Lin.ite (Lin.pure _) Lin.no) (Lin.ite (Lin.pure _) Lin.no)
    ·exact Lin.ite (Lin.ite (Lin.pure _) Lin.no) (Lin.ite zIX Lin.no)
 case indexAddr t x i=>
  cases P.underlying t with
  | none=>exact Lin.no
  | some d=>
    cases d<;>(try simp only)<;>try exact Lin.no
    rename_i el
    cases kz P el with
    | none=>exact Lin.no
    | some z=>
      try simp only
      refine Lin.bind rg λn=>Lin.bind wo λp=>?_
      cases p<;>(try simp only)<;>try exact Lin.no
      ·exact Lin.ite (Lin.and (Lin.pure _)) Lin.no
      ·rename_i k z' lo m c
       cases rb k with
       | none=>exact Lin.no
       | some B=>cases B<;>(try simp only)<;>first | exact Lin.no | exact Lin.ite (Lin.and (Lin.pure _)) Lin.no
 case index t x i=>
  cases P.underlying t with
  | none=>exact Lin.no
  | some d=>
    cases d<;>(try simp only)<;>try exact Lin.no
    refine Lin.bind rg λn=>Lin.bind wo λp=>?_
    cases p<;>(try simp only)<;>try exact Lin.no
    exact Lin.and (Lin.pure _)
 case extract x i=>
  cases ρ x<;>(try simp only)<;>try exact Lin.no
  rename_i l
  cases l[i]? with
  | none=>exact Lin.no
  | some p=>cases p<;>(try simp only)<;>first | exact Lin.no | exact Lin.pure _
 case call c=>
  cases c.callee<;>(try simp only)<;>try exact Lin.no
  rename_i b
  cases b<;>(try simp only)<;>try exact Lin.no
  all_goals (rcases c.args.toList with _ | ⟨x,_ | ⟨y,_ | ⟨u,us⟩⟩⟩<;>rcases c.argTypes.toList with _ | ⟨s,_ | ⟨t,_ | ⟨r,rs⟩⟩⟩<;>(try simp only)<;>try exact Lin.no)
  ·cases P.underlying s with
   | none=>exact Lin.no
   | some d=>
     cases d<;>(try simp only)<;>try exact Lin.no
     all_goals (refine Lin.bind wo λp=>?_;cases p<;>(try simp only)<;>first | exact Lin.no | exact Lin.pure _)
  all_goals (refine Lin.bind wo λp=>Lin.bind wo λq=>?_;cases p<;>cases q<;>(try simp only)<;>first | exact Lin.no | exact Lin.pure _)
theorem zH3 {P:Program} {ρ:Operand->PV} {t:TypeId} {parts:List (Nat × Operand)}:Lin (zAp P ρ t parts):=by
 unfold zAp
 split<;>try exact Lin.no
 split<;>try exact Lin.no
 split<;>try exact Lin.no
 exact zIX
theorem zNY {P:Program} {ρ:Operand->PV} {op:Op}:Lin (λR:Res->Prop=>zJT P ρ op λB f=>R (.b B f)):=by
 unfold zJT
 cases op<;>(try simp only)<;>try exact Lin.no
 case alloc t=>
  cases zBF P t with
  | none=>exact Lin.no
  | some cs=>exact Lin.pure _
 case box t x=>
  cases ρ x<;>(try simp only)<;>first | exact Lin.no | exact Lin.pure _
 case buildSlice t n parts=>
  split<;>try exact Lin.no
  split<;>try exact Lin.no
  split<;>try exact Lin.no
  exact Lin.ite (Lin.pure _) Lin.no
 case makeSlice t l c=>
  split<;>try exact Lin.no
  split<;>try exact Lin.no
  split<;>try exact Lin.no
  exact Lin.bind rg λn=>Lin.bind rg λm=>Lin.and (Lin.pure _)
theorem zMQ {P:Program} {ρ:Operand->PV} {rb:Nat->Option Bx} {op:Op} {ty:TypeId}:Lin (nev P ρ rb op ty):=by
 have I:Lin (λR:Res->Prop=>qn P ρ rb op ty λp=>zP8 P ty p λq=>R (.v q)):=
  Lin.bind zNt λp=>Lin.bind zN5 λq=>Lin.pure _
 unfold nev
 cases op<;>(try simp only)<;>first | exact zNY | exact I | skip
 exact Lin.bind zH3 λp=>Lin.pure _
variable {av:Nat->Prop} {P:Program} {w0 w:World} {e0 e:Env} {pS pS' pB:List Nat} {a:Act} {st:St}
theorem wP (h:Rel av w0 e0 pS pB a w e st) {x:Operand} (O:∀ t,x=.tmp t->t∉pS):OpdOk av a w e pB st.bx x (opd st.sl x):=by
 cases x with
 | tmp t=>
   simp only [opd]
   cases I:st.sl[t]? with
   | none=>rw [oA,I];exact ⟨.inl rfl,trivial,by simp [PV.refs]⟩
   | some p=>
     rw [oA,I]
     have J:=O t rfl
     exact ⟨h.hs t p I J,h.so t p I J,h.sr t p I J⟩
 | const v=>
   obtain ⟨U,Y,h3⟩:=zIc v w (zT av pB e st.bx) e
   exact ⟨h3.imp id Eq.symm,U,by simp only [opd];rw [Y];simp⟩
 | global g=>exact ⟨.inl rfl,trivial,by simp [opd,PV.refs]⟩
 | func f=>exact ⟨.inr rfl,by simp only [opd];exact trivial,by simp [opd,PV.refs,PV.refsL]⟩
theorem zEi {ρ ρ':Operand->PV} {rb rb':Nat->Option Bx} {op:Op} {ty:TypeId} {R:PV->Prop} (hρ:∀ x∈op.operands,ρ' x=ρ x)
  (J:∀ x∈op.operands,∀ k∈(ρ x).refs,rb' k=rb k):qn P ρ' rb' op ty R=qn P ρ rb op ty R:=by
 cases op<;>simp only [Op.operands] at hρ J<;>try rfl
 case move x=>simp [qn,hρ x (by simp)]
 case assign x=>simp [qn,hρ x (by simp)]
 case pick c x y=>simp [qn,hρ c (by simp),hρ x (by simp),hρ y (by simp)]
 case load t x=>
  simp only [qn,hρ x (by simp)]
  have:=J x (by simp)
  generalize ρ x=p at this
  cases p<;>try rfl
  rename_i k z i o
  simp only [this k (by simp [PV.refs])]
 case nilCheck x=>simp [qn,hρ x (by simp)]
 case binOp op t x y yt=>simp [qn,hρ x (by simp),hρ y (by simp)]
 case unOp op t x=>simp [qn,hρ x (by simp)]
 case convert s d x=>
  simp only [qn,hρ x (by simp)]
  have:=J x (by simp)
  generalize ρ x=p at this
  cases p with
  | sb k z lo n c=>simp only [frc,zCR,this k (by simp [PV.refs])]
  | dc y=>simp only [frc,zCR]
  | _=>rfl
 case fieldAddr t x f=>simp [qn,hρ x (by simp)]
 case field t x f=>simp [qn,hρ x (by simp)]
 case extract x i=>simp [qn,hρ x (by simp)]
 case index t x i=>simp [qn,hρ x (by simp),hρ i (by simp)]
 case lookup t m i ok=>simp only [qn,hρ m (by simp),hρ i (by simp)]
 case makeFunc f first caps=>
  have hc:caps.toList.map ρ'=caps.toList.map ρ:=o6 λx O=>hρ x (by simp [om.1 O])
  simp only [qn,hc]
 case slice t x lo hi mx=>
  have I:=hρ x (by simp)
  have h2:lo.map ρ'=lo.map ρ:=by cases lo<;>simp;exact hρ _ (by simp)
  have U:hi.map ρ'=hi.map ρ:=by cases hi<;>simp;exact hρ _ (by simp)
  cases lo with
  | none=>simp only [qn,I,U,mI]
  | some y=>
    have Y:ρ' y=ρ y:=hρ y (by simp)
    simp only [qn,I,U,Y,ob]
 case indexAddr t x i=>
  simp only [qn,hρ x (by simp),hρ i (by simp)]
  have:=J x (by simp)
  generalize ρ x=p at this
  cases p with
  | sb k z lo n c=>simp only [frc,this k (by simp [PV.refs])]
  | _=>rfl
 case call c=>
  have I:∀ x∈c.args.toList,ρ' x=ρ x:=λx O=>hρ x (by simp [Call.operands,om.1 O])
  simp only [qn]
  generalize c.args.toList=as at I
  generalize c.argTypes.toList=ts
  cases c.callee<;>try rfl
  rename_i b
  cases b<;>try rfl
  all_goals (rcases as with _ | ⟨x,_ | ⟨y,_ | ⟨u,us⟩⟩⟩<;>rcases ts with _ | ⟨s,_ | ⟨t,_ | ⟨r,rs⟩⟩⟩<;>try rfl)
  ·simp only [I x (by simp)]
  ·simp only [I x (by simp),I y (by simp)]
  ·simp only [I x (by simp),I y (by simp)]
theorem zHW {ρ ρ':Operand->PV} {z:Nat} (l:List (Nat × Operand)):∀ k,(∀ p∈l,ρ' p.2=ρ p.2)->qL z ρ' k l=qL z ρ k l:=by
 induction l with
 | nil=>intro k _;rfl
 | cons p l I=>
   intro k h
   obtain ⟨i,x⟩:=p
   simp only [qL]
   rw [h (i,x) (by simp),I (k+1) λp J=>h p (by simp [J])]
theorem zJx {ρ ρ':Operand->PV} {op:Op} {R:Bx->(Nat->PV)->Prop} (hρ:∀ x∈op.operands,ρ' x=ρ x):zJT P ρ' op R=zJT P ρ op R:=by
 cases op<;>simp only [Op.operands] at hρ<;>try rfl
 case box t x=>simp [zJT,hρ x (by simp)]
 case buildSlice t n parts=>
  have:∀ z,qL z ρ' 0 parts.toList=qL z ρ 0 parts.toList:=λz=>zHW _ 0 λp I=>hρ p.2 (by simp;exact ⟨p.1,om.1 I⟩)
  simp only [zJT,this]
 case makeSlice t l c=>simp [zJT,hρ l (by simp),hρ c (by simp)]
theorem zCW {ρ ρ':Operand->PV} {rb rb':Nat->Option Bx} {op:Op} {ty:TypeId} {R:Res->Prop} (hρ:∀ x∈op.operands,ρ' x=ρ x)
  (I:∀ x∈op.operands,∀ k∈(ρ x).refs,rb' k=rb k):nev P ρ' rb' op ty R=nev P ρ rb op ty R:=by
 unfold nev
 cases op<;>simp only<;>first
  | exact zJx hρ
  | exact zEi hρ I
  | skip
 rename_i t parts
 have:(parts.toList.map λ(i,x)=>(i,ρ' x))=(parts.toList.map λ(i,x)=>(i,ρ x)):=o6 λp J=>by
  have:=hρ p.2 (by simp only [Op.operands];simp;exact ⟨p.1,om.1 J⟩)
  simp [this]
 unfold zAp
 rw [this]
theorem zD6 {bx:List Bx} {v:Value} {f:FuncId} {ds:List D} (hv:ValOk av w e pB bx v (.dc (.fn f ds))):ValOk av w e pB bx v (.fn f (zKX ds)):=by
 have J:=hv.1.resolve_left (by simp)
 obtain ⟨hg,hc⟩:=hv.2.1
 obtain ⟨g1,g2⟩:=hg
 cases g1 with
 | fn k1 k2=>
   have O:∀ d∈ds,Good w (zT av pB e bx) d:=λd hd=>⟨k2 d hd,λb U=>g2 b (by simp only [D.foot];exact zP.2 ⟨d,hd,U⟩)⟩
   refine ⟨.inr ?_,?_,?_⟩
   ·rw [J]
    show (D.fn f ds).cv=_
    simp only [PV.val,PV.val1,PV.cv,D.cv,D.cvL_eq,PV.cvs_eq,zKX,mH]
    congr 2
    refine o6 λd hd=>?_
    cases d<;>rfl
   ·simp only [PV.Ok,PV.OkL_iff,zKX]
    intro q Y
    obtain ⟨d,hd,rfl⟩:=oQ.1 Y
    have I:=O d hd
    cases d with
    | pt ad z x=>
      obtain ⟨j1,j2⟩:=id I
      have aa:=j1.lt ad.block (by simp [D.foot])
      cases j1 with
      | pt m1 m2 m3 m4=>exact ⟨⟨m4,λb U=>j2 b (by simp [D.foot,U])⟩,m2,m1,m3,j2 _ (by simp [D.foot]),aa⟩
    | _=>exact ⟨I,k1 _ hd⟩
   ·intro k hk
    simp only [PV.refs,zKX] at hk
    obtain ⟨q,Y,ab⟩:=PV.refsL_mem.1 hk
    obtain ⟨d,hd,rfl⟩:=oQ.1 Y
    cases d<;>simp [PV.refs] at ab
theorem zKE {bx:List Bx} {t:TypeId} {v:Value} {p:PV} {R:PV->Prop} (O:ValOk av w e pB bx v p) (h:zP8 P t p R):∃ q,R q/\ValOk av w e pB bx v q:=by
 unfold zP8 at h
 split at h
 ·rename_i x
  have I:=O
  obtain ⟨J,U,h3⟩:=O
  have J:=J.resolve_left (by simp)
  simp only [PV.Ok] at U
  split at h
  ·obtain ⟨n,rfl,h⟩:=h;exact ⟨_,h,.inr J,trivial,by simp [PV.refs]⟩
  ·obtain ⟨n,rfl,h⟩:=h;exact ⟨_,h,.inr J,trivial,by simp [PV.refs]⟩
  ·obtain ⟨n,rfl,h⟩:=h;exact ⟨_,h,.inr J,trivial,by simp [PV.refs]⟩
  ·split at h
   ·obtain ⟨a,es,c,rfl,h⟩:=h;exact ⟨_,h,.inr J,U.1,by simp [PV.refs]⟩
   ·exact ⟨_,h,I⟩
  ·split at h
   ·rename_i ad z y hh
    have hg:=U.1
    obtain ⟨g1,g2⟩:=id hg
    have Y:=g1.lt ad.block (by simp [D.foot])
    cases g1 with
    | pt k1 k2 k3 k4=>exact ⟨_,h,.inr J,⟨⟨k4,λb hb=>g2 b (by simp [D.foot,hb])⟩,k2,k1,k3,g2 _ (by simp [D.foot]),Y⟩,by simp [PV.refs]⟩
   ·exact ⟨_,h,I⟩
  ·split at h
   ·exact ⟨_,h,zD6 I⟩
   ·exact ⟨_,h,I⟩
  ·exact ⟨_,h,I⟩
 ·exact ⟨_,h,O⟩
/-- what the machine does for such an operation, where its operands are there -/
theorem zEq (h:Rel av w0 e0 pS pB a w e st) {o:Oper} {R:Res->Prop} (hx:∀ x∈o.op.operands,∀ t,x=.tmp t->t∉pS)
  (J:nev P (opd st.sl) (λk=>st.bx[k]?) o.op o.type R) :
  (∃ v p,(execOp a.eval o).run P w=.ok (.value v) w/\R (.v p)/\ValOk av w e pB st.bx v p) \/
  (∃ v c t B f,(execOp a.eval o).run P w=.ok (.value v) (w.alloc (.cells c t))/\R (.b B f)/\NewBox av w e pB st.bx v (w.alloc (.cells c t)) B f):=by
 have Y:∀ x∈o.op.operands,OpdOk av a w e pB st.bx x (opd st.sl x):=λx O=>wP h (hx x O)
 have hv:qn P (opd st.sl) (λk=>st.bx[k]?) o.op o.type (λp=>zP8 P o.type p λq=>R (.v q))->∃ v p,(execOp a.eval o).run P w=.ok (.value v) w/\R (.v p)/\ValOk av w e pB st.bx v p:=λJ=>by
  rw [<-zEi (ρ':=opd st.sl) (rb':=λk=>if k∈pB then none else st.bx[k]?) (λ_ _=>rfl) (λx O k U=>by simp [((Y x O).rf k U).1])] at J
  obtain ⟨v,p,h1,h2,h3⟩:=zEE h.toMem Y (λk B U=>by
   split at U
   ·cases U
   ·rename_i aa;exact ⟨U,aa⟩) J
  obtain ⟨q,h4,h5⟩:=zKE h3 h2
  exact ⟨v,q,h1,h4,h5⟩
 have hA:zJT P (opd st.sl) o.op (λB f=>R (.b B f))->∃ v c t B f,(execOp a.eval o).run P w=.ok (.value v) (w.alloc (.cells c t))/\R (.b B f)/\NewBox av w e pB st.bx v (w.alloc (.cells c t)) B f:=λJ=>
  zJ1 Y J
 unfold nev at J
 split at J
 ·rename_i t I;exact .inr (hA (by rw [I];exact J))
 ·rename_i t x I;exact .inr (hA (by rw [I];exact J))
 ·rename_i t n ps I;exact .inr (hA (by rw [I];exact J))
 ·rename_i t l c I;exact .inr (hA (by rw [I];exact J))
 ·rename_i t parts I
  obtain ⟨v,p,h1,h2,h3⟩:=zE5 (λx O=>Y x (by rw [I];exact O)) J
  refine .inl ⟨v,p,?_,h2,h3⟩
  obtain ⟨dst,op,ty,pos,after,guard⟩:=o
  simp only at I
  subst I
  simp [execOp,h1]
 ·exact .inl (hv J)
def St.push (st:St) (dst:Option Nat):Res->St
 | .v p=>st.put dst p
 | .b B f=>St.put { st with bx:=st.bx++[B] } dst (f st.bx.length)
def Res.isB:Res->Bool
 | .v _=>false
 | .b ..=>true
theorem zEx (h:Rel av w0 e0 pS pB a w e st) {dst:Option Nat} {p:PV}:Rel av w0 e0 (dst.toList++pS) pB a w e (st.put dst p):=by
 cases dst with
 | none=>simpa [St.put] using h
 | some d=>
   have J:∀ (i:Nat) (q:PV),(st.sl.set d p)[i]?=some q->i≠d->st.sl[i]?=some q:=λi q hi hd=>by
    rw [ow (Ne.symm hd)] at hi;exact hi
   exact { h with
    nd:=h.nd
    sz:=by simp [St.put];exact h.sz
    hs:=λi q hi I=>by simp at I;exact h.hs i q (J i q hi I.1) I.2
    so:=λi q hi I=>by simp at I;exact h.so i q (J i q hi I.1) I.2
    sr:=λi q hi I=>by simp at I;exact h.sr i q (J i q hi I.1) I.2 }
/-- a promise -/
theorem zN8 (h:Rel av w0 e0 pS pB a w e st) (dst:Option Nat) (r:Res) :
  Rel av w0 e0 (dst.toList++pS) (if r.isB then st.bx.length::pB else pB) a w (if r.isB then e++[none] else e) (st.push dst r):=by
 cases r with
 | v p=>exact zEx h
 | b B f=>exact zEx (tH h)
theorem St.put_same {st:St} {dst:Option Nat} {p:PV} (h:∀ d,dst=some d->d<st.sl.length->st.sl[d]?=some p):st.put dst p=st:=by
 cases dst with
 | none=>rfl
 | some d=>
   simp only [St.put]
   by_cases hd:d<st.sl.length
   ·have I:st.sl.set d p=st.sl:=by
     have J:=h d rfl hd
     apply nD
     intro i
     rw [nL]
     split
     ·rename_i hi;subst hi;rw [J]
     ·rfl
    rw [I]
   ·rw [mw (by omega)]
/-- a promise is kept -/
theorem zNu (h:Rel av w0 e0 pS pB a w e st) {o:Oper} {r:Res} {k:Nat} (hx:∀ x∈o.op.operands,∀ t,x=.tmp t->t∉pS)
  (hn:nev P (opd st.sl) (λk=>st.bx[k]?) o.op o.type (λq=>q=r))
  (hd:∀ d,o.dst=some d->d<st.sl.length->st.sl[d]?=some (match r with | .v p=>p | .b _ f=>f k))
  (hk:∀ B f,r=.b B f->st.bx[k]?=some B/\k∈pB)
  (hp:∀ i,i∈pS->some i≠o.dst->i∈pS') :
  ∃ v w' e',(execOp a.eval o).run P w=.ok (.value v) w'/\Rel av w0 e0 pS' (if r.isB then pB.filter (·≠k) else pB) (a.put o.dst v) w' e' st:=by
 rcases zEq h hx hn with ⟨v,p,U,Y,I⟩ | ⟨v,c,t,B,f,U,Y,I⟩
 ·subst Y
  refine ⟨v,w,e,U,?_⟩
  have J:=xm h (dst:=o.dst) I hp
  rw [St.put_same hd] at J
  exact J
 ·subst Y
  obtain ⟨h5,h6⟩:=hk B f rfl
  have h8:=qM h h5 h6 I
  have O:k<st.bx.length:=(oC.1 h5).1
  have h9:ValOk av (w.alloc (.cells c t)) (e.set k (some w.heap.size)) (pB.filter (·≠k)) st.bx v (f k):=
   ⟨.inr (I.val k _ (Env.at_set_eq (by rw [h.el];exact O))),I.fok k _ _,by rw [I.fr];simp [O]⟩
  have J:=xm h8 (dst:=o.dst) h9 hp
  rw [St.put_same hd] at J
  exact ⟨v,_,_,U,J⟩
def zRd (cs cs':List PV):Prop:=cs'.length=cs.length/\∀ (i:Nat) (p:PV),cs'[i]?=some p->p=.any\/cs[i]?=some p
def zS2 (B B':Bx):Prop:=B'=.gone\/B'=B\/∃ cs cs',B=.var cs/\B'=.var cs'/\zRd cs cs'
structure St.Weak (st st':St):Prop where
 sl:∀ (i:Nat) (p:PV),st'.sl[i]?=some p->p=.any\/st.sl[i]?=some p
 len:st'.sl.length<=st.sl.length
 bl:st'.bx.length=st.bx.length
 bx:∀ (k:Nat) (B':Bx),st'.bx[k]?=some B'->∃ B,st.bx[k]?=some B/\zS2 B B'
 N:st'.N<=st.N
 pin:st'.pin=st.pin
variable {av:Nat->Prop} {P:Program} {w0 w w':World} {e0 e:Env} {pS pS' pB:List Nat} {a:Act} {st st':St}
theorem PV.ok_any {w:World} {live:Nat->Prop}:PV.any.Ok w live:=trivial
theorem zJG (h:Rel av w0 e0 pS pB a w e st) (O:st.Weak st'):Rel av w0 e0 pS pB a w e st':=by
 have aa:st'.pins=st.pins:=by unfold St.pins;rw [O.pin]
 have I:∀ k b,Lives pB e st'.bx k b->Lives pB e st.bx k b:=λk b ⟨h1,h2,B',h3,h4⟩=>by
  obtain ⟨B,h5,h6⟩:=O.bx k B' h3
  refine ⟨h1,h2,B,h5,?_⟩
  rcases h6 with rfl | rfl | ⟨cs,cs',rfl,_⟩
  ·exact absurd rfl h4
  ·exact h4
  ·simp
 have U:∀ b,zT av pB e st'.bx b->zT av pB e st.bx b:=λb hb=>hb.imp id λ⟨k,J⟩=>⟨k,I k b J⟩
 have Y:∀ p:PV,p.Ok w (zT av pB e st.bx)->p.Ok w (zT av pB e st'.bx):=λp hp=>PV.Ok.mono (λ_ _ _=>rfl) (oD _) (λb _=>U b) p hp
 exact {
  el:=h.el.trans O.bl.symm
  br:=λk B' J hn=>by
   obtain ⟨B,h5,h6⟩:=O.bx k B' J
   have h7:=h.br k B h5 hn
   rcases h6 with rfl | rfl | ⟨cs,cs',rfl,rfl,h8,h9⟩
   ·exact True.intro
   ·exact h7
   ·obtain ⟨b,c,t,g1,g2,g3,g4⟩:=h7
    refine ⟨b,c,t,g1,g2,g3.trans h8.symm,λi p hp=>?_⟩
    rcases h9 i p hp with h10 | h10
    ·exact .inl h10
    ·exact g4 i p h10
  bo := λk B' J hn=>by
   obtain ⟨B,h5,h6⟩:=O.bx k B' J
   have h7:=h.bo k B h5 hn
   rcases h6 with rfl | rfl | ⟨cs,cs',rfl,rfl,h8,h9⟩
   ·exact True.intro
   ·exact h7.mono (λ_ _ _=>rfl) (oD _) (λb _=>U b)
   ·obtain ⟨g1,g2⟩:=h7
    rw [PV.OkL_iff] at g1
    refine ⟨PV.OkL_iff.2 λp hp=>?_,λp hp=>?_⟩
    ·obtain ⟨i,hi⟩:=oR.1 hp
     rcases h9 i p hi with rfl | h10
     ·exact PV.ok_any
     ·exact Y p (g1 p (oB h10))
    ·obtain ⟨i,hi⟩:=oR.1 hp
     rcases h9 i p hi with h10 | h10
     ·exact .inl h10
     ·exact g2 p (oB h10)
  bf:=λk B' J hn j hj=>by
   obtain ⟨B,h5,h6⟩:=O.bx k B' J
   have h7:=h.bf k B h5 hn
   rw [O.bl]
   rcases h6 with rfl | rfl | ⟨cs,cs',rfl,rfl,h8,h9⟩
   ·simp [Bx.refs] at hj
   ·exact h7 j hj
   ·simp only [Bx.refs] at hj
    obtain ⟨p,hp,hj⟩:=PV.refsL_mem.1 hj
    obtain ⟨i,hi⟩:=oR.1 hp
    rcases h9 i p hi with rfl | h10
    ·simp [PV.refs] at hj
    ·exact h7 j (by simp only [Bx.refs];exact PV.refsL_mem.2 ⟨p,oB h10,hj⟩)
  inj:=λk j b J hj=>h.inj k j b (I k b J) (I j b hj)
  ku:=h.ku
  size:=h.size
  old:=h.old
  fz:=h.fz
  nd:=h.nd
  sz:=oN O.len h.sz
  hN:=oN O.N h.hN
  hs:=λi p hi hn=>by
   rcases O.sl i p hi with h1 | h1
   ·exact .inl h1
   ·exact h.hs i p h1 hn
  so:=λi p hi hn=>by
   rcases O.sl i p hi with rfl | h1
   ·exact PV.ok_any
   ·exact Y p (h.so i p h1 hn)
  sr:=λi p hi hn k J=>by
   rw [O.bl]
   rcases O.sl i p hi with rfl | h1
   ·simp [PV.refs] at J
   ·exact h.sr i p h1 hn k J
  own:=λk b J=>by rw [aa];exact h.own k b (I k b J)
  avl:=h.avl
  avn:=λk b J=>h.avn k b (I k b J)
  pin:=λk b hb=>h.pin k b (aa ▸ hb)
  pit:=λL T hb=>h.pit L T (O.pin ▸ hb) }
/-- the heap has grown -/
theorem zIp (h:Rel av w0 e0 pS pB a w e st) (J:w.heap.size<=w'.heap.size) (hold:∀ b,b<w.heap.size->w'.heap[b]?=w.heap[b]?)
  (U:∀ (b:Nat) (c:Array Value) (t:TypeId) (z:Nat × Nat),w.heap.size<=b->w'.heap[b]?=some (.cells c t z)->Fz z) (aa:KU w w':=by exact ⟨rfl,rfl⟩) :
  Rel av w0 e0 pS pB a w' e { st with N:=w'.heap.size }:=by
 exact {
  el:=h.el
  br:=λk B Y O=>by
   by_cases hg:B=.gone
   ·subst hg;exact True.intro
   ·exact (h.br k B Y O).congr (λb I=>hold b (Lives.lt h.toMem ⟨O,I,B,Y,hg⟩)) λ_ _=>rfl
  bo:=λk B Y O=>(h.bo k B Y O).mono (λb I _=>hold b I) J λ_ _=>id
  bf:=h.bf
  inj:=h.inj
  ku:=h.ku.trans aa
  size:=oN h.size J
  old:=λb I O=>(hold b (o7 I h.size)).trans (h.old b I O)
  fz:=λb c t z I hc=>by
   by_cases ab:b<w.heap.size
   ·rw [hold b ab] at hc;exact h.fz b c t z I hc
   ·exact U b c t z (by omega) hc
  nd:=h.nd
  sz:=h.sz
  hN:=oD _
  hs:=h.hs
  so:=λi p hi hp=>PV.Ok.mono (λb I _=>hold b I) J (λ_ _=>id) p (h.so i p hi hp)
  sr:=h.sr
  own:=h.own
  avl:=h.avl
  avn:=h.avn
  pin:=h.pin
  pit:=h.pit }
theorem zRJ (h:Rel av w0 e0 pS pB a w e st) {n:Nat} (I:n<=w.heap.size):Rel av w0 e0 pS pB a w e { st with N:=n }:={ h with hN:=I,nd:=h.nd }
/-- a box is written, or it moves -/
theorem zIB (h:Rel av w0 e0 pS pB a w e st) {k:Nat} {B B':Bx} {x:Option Nat} (hk:st.bx[k]?=some B) (aq:k∉pB) (aj:B≠.gone)
  (ae:w.heap.size<=w'.heap.size) (hold:∀ b,b<w.heap.size->e.at k≠some b->w'.heap[b]?=w.heap[b]?)
  (hx:x=e.at k\/((∃ b,x=some b/\w.heap.size<=b)/\(∀ (i:Nat) (p:PV),st.sl[i]?=some p->i∉pS->k∉p.refs)/\(∀ (j:Nat) (C:Bx),st.bx[j]?=some C->j∉pB->j≠k->k∉C.refs)/\B'.isArr=true))
  (hA:B.isArr=true->B'.isArr=true) (au:x=e.at k\/∀ b,st.pins[k]?≠some (some b))
  (hB:B'.Rel w' (e.set k x) x) (a2:B'.Ok w (zT av pB e st.bx)) (a3:∀ j∈B'.refs,j∉pB/\j<st.bx.length)
  (am:∀ (b:Nat) (c:Array Value) (t:TypeId) (z:Nat × Nat),(w.heap.size<=b\/e.at k=some b)->w'.heap[b]?=some (.cells c t z)->Fz z) (a4:KU w w':=by exact ⟨rfl,rfl⟩) :
  Rel av w0 e0 pS pB a w' (e.set k x) { st with bx:=st.bx.set k B' }:=by
 have ao:k<st.bx.length:=(oC.1 hk).1
 have a5:k<e.length:=by rw [h.el];exact ao
 have ak:∀ j,j≠k->Env.at (e.set k x) j=e.at j:=λj I=>Env.at_set_ne I
 have ac:Env.at (e.set k x) k=x:=Env.at_set_eq a5
 have al:∀ b,e.at k=some b->zT av pB e st.bx b:=λb Y=>.inr ⟨k,aq,Y,B,hk,aj⟩
 have O:∀ j b,Lives pB (e.set k x) (st.bx.set k B') j b->Lives pB e st.bx j b\/(j=k/\x=some b/\w.heap.size<=b):=λj b ⟨h1,U,C,h3,h4⟩=>by
  by_cases I:j=k
  ·subst I
   rw [ac] at U
   rcases hx with hx | ⟨⟨b',aw,ax⟩,_⟩
   ·exact .inl ⟨h1,hx ▸ U,B,hk,aj⟩
   ·rw [U] at aw;cases aw;exact .inr ⟨rfl,U,ax⟩
  ·rw [ak j I] at U
   rw [ow (Ne.symm I)] at h3
   exact .inl ⟨h1,U,C,h3,h4⟩
 have aa:∀ b,b<w.heap.size->zT av pB (e.set k x) (st.bx.set k B') b->zT av pB e st.bx b:=λb Y hl=>hl.elim .inl λ⟨j,I⟩=>by
  rcases O j b I with h1 | ⟨_,_,h1⟩
  ·exact .inr ⟨j,h1⟩
  ·omega
 have ab:∀ b,b<w.heap.size->¬zT av pB e st.bx b->w'.heap[b]?=w.heap[b]?:=λb Y hn=>hold b Y λhc=>hn (al b hc)
 have ah:∀ (j:Nat) (C:Bx),(st.bx.set k B')[j]?=some C->(j=k/\C=B')\/(j≠k/\st.bx[j]?=some C):=λj C I=>by
  by_cases J:j=k
  ·subst J;rw [nC ao] at I;exact .inl ⟨rfl,(oW I).symm⟩
  ·rw [ow (Ne.symm J)] at I;exact .inr ⟨J,I⟩
 have ai:∀ j,(j≠k\/x=e.at k)->Env.at (e.set k x) j=e.at j:=λj I=>by
  by_cases J:j=k
  ·subst J;rw [ac];exact I.resolve_left (by simp)
  ·exact ak j J
 have ay:∀ (j:Nat) (C:Bx),st.bx[j]?=some C->j∉pB->j≠k->∀ b,e.at j=some b->C≠.gone->w'.heap[b]?=w.heap[b]?:=λj C I hn J b Y hg=>by
  have hl:Lives pB e st.bx j b:=⟨hn,Y,C,I,hg⟩
  exact hold b (Lives.lt h.toMem hl) λhc=>J (h.inj j k b hl ⟨aq,hc,B,hk,aj⟩)
 exact {
  el:=by simp [h.el]
  br:=λj C I hn=>by
   rcases ah j C I with ⟨rfl,rfl⟩ | ⟨J,I⟩
   ·rw [ac];exact hB
   ·rw [ak j J]
    by_cases hg:C=.gone
    ·subst hg;exact True.intro
    refine (h.br j C I hn).congr (λb Y=>ay j C I hn J b Y hg) λi hi=>ai i ?_
    rcases hx with hx | ⟨_,_,U,_⟩
    ·exact .inr hx
    ·exact .inl λhc=>U j C I hn J (hc ▸ hi)
  bo:=λj C I hn=>by
   rcases ah j C I with ⟨rfl,rfl⟩ | ⟨J,I⟩
   ·exact a2.mono ab ae aa
   ·exact (h.bo j C I hn).mono ab ae aa
  bf:=λj C I hn i hi=>by
   simp only [nP]
   rcases ah j C I with ⟨rfl,rfl⟩ | ⟨J,I⟩
   ·exact a3 i hi
   ·exact h.bf j C I hn i hi
  inj:=λi j b hi I=>by
   rcases O i b hi with h1 | ⟨rfl,_,h1⟩
   ·rcases O j b I with U | ⟨rfl,_,U⟩
    ·exact h.inj i j b h1 U
    ·have:=Lives.lt h.toMem h1;omega
   ·rcases O j b I with U | ⟨rfl,_,U⟩
    ·have:=Lives.lt h.toMem U;omega
    ·rfl
  ku:=h.ku.trans a4
  size:=oN h.size ae
  old:=λb Y hn=>by
   refine (hold b (o7 Y h.size) λhc=>?_).trans (h.old b Y hn)
   rcases h.own k b ⟨aq,hc,B,hk,aj⟩ with h1 | h1
   ·omega
   ·exact hn h1.1
  fz:=λb c t z Y hc=>by
   by_cases a6:b<w.heap.size
   ·by_cases az:e.at k=some b
    ·exact am b c t z (.inr az) hc
    ·rw [hold b a6 az] at hc;exact h.fz b c t z Y hc
   ·exact am b c t z (.inl (by omega)) hc
  nd:=h.nd
  sz:=h.sz
  hN:=oN h.hN ae
  hs:=λi p hi hp=>by
   rcases h.hs i p hi hp with h1 | h1
   ·exact .inl h1
   ·refine .inr (h1.trans (PV.val_congr p λj I=>ai j ?_).symm)
    rcases hx with hx | ⟨_,U,_⟩
    ·exact .inr hx
    ·exact .inl λhc=>U i p hi hp (hc ▸ I)
  so:=λi p hi hp=>PV.Ok.mono ab ae aa p (h.so i p hi hp)
  sr:=λi p hi hp j I=>by simp only [nP];exact h.sr i p hi hp j I
  own:=λj b I=>by
   rcases O j b I with h1 | ⟨_,_,h1⟩
   ·exact h.own j b h1
   ·exact .inl (oN h.size h1)
  avl:=h.avl
  avn:=λj b I=>by
   rcases O j b I with h1 | ⟨_,_,h1⟩
   ·exact h.avn j b h1
   ·intro hc;have U:=h.avl.lt b hc;have h3:=h.size;omega
  pin:=λj b Y=>by
   have:=h.pin j b Y
   by_cases J:j=k
   ·subst J
    rw [ac]
    rcases au with h1 | h1
    ·rw [h1];exact this
    ·exact absurd Y (h1 b)
   ·rw [ak j J];exact this
  pit:=h.pit }
def dcs (x:D) (n:Nat):List PV:=(List.range n).map λj=>.dc (x.cell j)
def stV (z o:Nat) (cs:List PV) (p:PV) (K:Bx->Prop):Prop:=
 match sd p with
 | some ps=>if ps.length=ez z/\o+ps.length<=cs.length then K (.var (tL o ps cs)) else False
 | none=>False
def zHV (o:Nat) (ds cs:List D):List D:=cs.take o++ds++cs.drop (o+ds.length)
def zJ3 (z zz:Nat) (B:Bx) (i o:Nat) (p:PV) (K:Bx->Prop):Prop:=
 match B with
 | .var cs=>match i with
   | 0=>match p with
     | .dg n x=>if o=0/\n=cs.length/\z=n/\n≠0 then K (.vd x n) else stV z o cs p K
     | _=>stV z o cs p K
   | _+1=>False
 | .vd x n=>match i with
   | 0=>match p with
     | .dg m y=>if o=0/\m=n/\z=n/\n≠0 then K (.vd y n) else stV z o (dcs x n) p K
     | _=>stV z o (dcs x n) p K
   | _+1=>False
 | .arr t z' es c=>if zz=z' then i<es.length /\
  (if z=z'/\o=0 then (match zIP z p with
    | some d=>K (.arr t z' (es.set i d) c)
    | none=>False)
   else if z'=0 then False
   else match (sd p).bind zF2 with
    | some ds=>if ds.length=ez z/\o+ds.length<=z' then K (.arr t z' (es.set i (.ag (zHV o ds (es.getD i default).cells))) c) else False
    | none=>False) else False
 | .gone=>False
def stF (P:Program) (ρ:Operand->PV) (rb:Nat->Option Bx) (t:TypeId) (x y:Operand) (K:Nat->Bx->Prop):Prop:=
 match kz P t,ρ x with
 | some z,.pb k zz i o=>match rb k with
   | some B=>zJ3 z zz B i o (retag P t (ρ y)) (K k)
   | none=>False
 | _,_=>False
variable {av:Nat->Prop} {P:Program} {w0 w w':World} {e0 e:Env} {pS pS' pB:List Nat} {a:Act} {st st':St}
theorem zDE {t:TypeId} {z:Nat} (O:kz P t=some z) {b off:Nat} {c:Array Value} {tb:TypeId} (U:w.heap[b]?=some (.cells c tb (0,0))) {v:Value}
  (I:v.cells.toList.length=ez z) (Y:off+ez z<=c.size) (h1:∀ u∈v.cells.toList,u.oneCell'=true) :
  (Instr.storeAt t (.pointer (some ⟨b,off,none⟩)) v).run P w=.ok () (w.setRow b (c.toList.take off++v.cells.toList++c.toList.drop (off+ez z)).toArray):=by
 have J:=run_storeCells_at (P:=P) b off tb v.cells.toList 0 c w U (by rw [I];omega) h1
 rw [mW,I] at J
 have hs:v.cells.size=ez z:=by simpa using I
 simp [Instr.storeAt,Instr.sureAddr,storeVar,we O,hs,J]
theorem rJ {e:Env} {k:Nat} (h:k<e.length):e.set k (e.at k)=e:=by
 apply nD
 intro i
 rw [nL]
 split
 ·rename_i hi;subst hi
  simp [h,Env.at]
 ·rfl
theorem qp (h:Rel av w0 e0 pS pB a w e st) {k b:Nat} {B B':Bx} {c I:Array Value} {tb:TypeId} (hk:st.bx[k]?=some B) (U:k∉pB) (Y:B≠.gone) (J:e.at k=some b)
  (hb:w.heap[b]?=some (.cells c tb (0,0))) (hA:B.isArr=true->B'.isArr=true)
  (hB:B'.Rel (w.setRow b I) e (e.at k)) (aa:B'.Ok w (zT av pB e st.bx)) (ab:∀ j∈B'.refs,j∉pB/\j<st.bx.length) :
  Rel av w0 e0 pS pB a (w.setRow b I) e { st with bx:=st.bx.set k B' }:=by
 have O:k<e.length:=by rw [h.el];exact (oC.1 hk).1
 have hs:(w.setRow b I).heap.size=w.heap.size:=by simp [World.setRow]
 have:=zIB h (w':=w.setRow b I) (x:=e.at k) hk U Y (by rw [hs];exact oD _) (λj hj hn=>setRow_other w b j I (λhc=>hn (by rw [J,hc]))) (.inl rfl) hA (.inl rfl) (by rw [rJ O];exact hB) aa ab λj c2 t2 z hj hc=>by
  rcases hj with hj | hj
  ·have:=(oU.1 hc).1;omega
  ·rw [J] at hj;cases hj
   rw [setRow_heap w b c I tb _ hb] at hc
   cases hc;exact fz0
 rwa [rJ O] at this
theorem zPq {x:D} {n:Nat} (O:IsAg n x) {c:Array Value} (hc:c.size=n) (h:∀ (i:Nat) (u:D),x.cells[i]?=some u->c[i]?=some u.cv):CellsAre e c.toList (dcs x n):=by
 refine ⟨by simp [dcs,hc],λi q I=>.inr ?_⟩
 simp only [dcs,oE] at I
 cases J:(List.range n)[i]? with
 | none=>simp [J] at I
 | some j=>
   rw [J] at I
   simp at I;subst I
   have hi:i<n:=by have:=(oC.1 J).1;simpa using this
   have U:j=i:=by have:=(oC.1 J).2;simpa using this.symm
   subst U
   have:=h j _ (O.cell hi).2
   simpa [PV.cv] using this
theorem zQ6 {x:D} {n:Nat} (I:IsAg n x) {live:Nat->Prop} (J:Good w live x):∀ p∈dcs x n,p.Ok w live/\p.isC/\p.refs=[]:=by
 intro p O
 obtain ⟨j,U,rfl⟩:=oQ.1 O
 exact ⟨⟨J.cell j,(I.cell (by simpa using U)).1⟩,trivial,rfl⟩
theorem zG5 (h:Rel av w0 e0 pS pB a w e st) {t:TypeId} {z o k b:Nat} {B:Bx} {cs:List PV} {v:Value} {p:PV} {K:Bx->Prop} {c:Array Value} {tb:TypeId} (hz:kz P t=some z)
  (hk:st.bx[k]?=some B) (aa:k∉pB) (ab:B≠.gone) (ac:B.isArr=false) (Y:e.at k=some b) (hb:w.heap[b]?=some (.cells c tb (0,0))) (J:CellsAre e c.toList cs) (I:zAI av w e pB st.bx cs)
  (hv:ValOk av w e pB st.bx v p) (hs:stV z o cs p K) :
  ∃ w' B',(Instr.storeAt t (.pointer (some ⟨b,o,none⟩)) v).run P w=.ok () w'/\K B'/\Rel av w0 e0 pS pB a w' e { st with bx:=st.bx.set k B' }:=by
 unfold stV at hs
 split at hs
 ·rename_i ps ae
  split at hs
  ·rename_i hc
   obtain ⟨a1,a2,a3⟩:=xy ae hv
   have O:∀ q∈tL o ps cs,q∈cs.take o\/q∈ps\/q∈cs.drop (o+ps.length):=λq hq=>by simpa [tL] using hq
   have hl:v.cells.toList.length=ez z:=by rw [a1.1];exact hc.1
   have ah:c.size=cs.length:=by have:=J.1;simpa using this
   refine ⟨_,_,zDE hz hb hl (by rw [ah,<-hc.1];exact hc.2) a3,hs,qp h hk aa ab Y hb (by simp [ac]) ?_ ?_ ?_⟩
   ·rw [Y]
    refine ⟨b,_,tb,rfl,setRow_heap w b c _ tb _ hb,?_,?_⟩
    ·have:=((J.take o).append a1).append (J.drop (o+ez z))
     rw [<-hc.1] at this ⊢
     simpa [tL] using this.1
    ·have:=((J.take o).append a1).append (J.drop (o+ez z))
     intro i q hq
     rw [<-hc.1] at this
     rcases this.2 i q (by simpa [tL] using hq) with h1 | h1
     ·exact .inl h1
     ·right;rw [<-hc.1];simpa using h1
   ·refine ⟨PV.OkL_iff.2 λq hq=>?_,λq hq=>?_⟩
    ·rcases O q hq with hq | hq | hq
     ·exact (I q (oh hq)).1
     ·exact (a2 q hq).1
     ·exact (I q (ou hq)).1
    ·rcases O q hq with hq | hq | hq
     ·exact (I q (oh hq)).2.1
     ·exact .inr (a2 q hq).2.1
     ·exact (I q (ou hq)).2.1
   ·intro j U
    simp only [Bx.refs] at U
    obtain ⟨q,hq,U⟩:=PV.refsL_mem.1 U
    rcases O q hq with hq | hq | hq
    ·exact (I q (oh hq)).2.2 j U
    ·exact (a2 q hq).2.2 j U
    ·exact (I q (ou hq)).2.2 j U
  ·exact hs.elim
 ·exact hs.elim
theorem zN0 {o:Nat} {ds cs:List D} {vs:List Value} {c:List Value} (O:ds.map D.cv=vs) (Y:o+ds.length<=cs.length)
  (h:∀ (i:Nat) (u:D),cs[i]?=some u->c[i]?=some u.cv) (i:Nat) (u:D) (I:(zHV o ds cs)[i]?=some u):(c.take o++vs++c.drop (o+vs.length))[i]?=some u.cv:=by
 have aa:cs.length<=c.length:=by
  by_cases h0:cs.length=0
  ·omega
  ·have:=h (cs.length - 1) _ (oH (by omega))
   have:=(oC.1 this).1;omega
 have U:vs.length=ds.length:=by rw [<-O];simp
 unfold zHV at I
 rw [nw,mm] at I ⊢
 simp only [o5] at I ⊢
 rw [show min o cs.length=o by omega] at I
 rw [show min o c.length=o by omega]
 split at I
 ·rename_i hi
  rw [if_pos hi]
  rw [oa] at I ⊢
  rw [if_pos hi] at I ⊢
  exact h i u I
 ·rename_i hi
  rw [if_neg hi]
  rw [mm] at I ⊢
  rw [U]
  split at I
  ·rename_i J
   rw [if_pos J,<-O,oE,I];rfl
  ·rename_i J
   rw [if_neg J]
   rw [nI] at I ⊢
   exact h _ u I
theorem zEK {z:Nat} {es:List D} (h:∀ e∈es,eOk z e) {i:Nat} (hi:i<es.length) (d:D) :
  z9 (es.set i d)=(z9 es).take (i*ez z)++d.cells++(z9 es).drop ((i+1)*ez z):=by
 induction es generalizing i with
 | nil=>simp at hi
 | cons x es J=>
   have I:=yc (h x (by simp))
   cases i with
   | zero=>
     simp only [mO,vn,mo,mn,oc,nJ,mb]
     rw [<-I,List.drop_left]
   | succ i=>
     simp only [oO] at hi
     simp only [me,vn]
     rw [J (λy O=>h y (by simp [O])) (by omega)]
     have e1:(i+1)*ez z=x.cells.length+i*ez z:=by rw [I,o8];omega
     have U:(i+1+1)*ez z=x.cells.length+(i+1)*ez z:=by rw [I,o8 (i+1)];omega
     rw [U,List.drop_length_add_append]
     rw [e1,List.take_length_add_append]
     simp only [nw,<-e1]
/-- an element of a row is written: the row's cells -/
theorem zJu {z:Nat} {es:List D} (h:∀ e∈es,eOk z e) {i o:Nat} (hi:i<es.length) {ds:List D} {vs:List Value} {c:List Value} (U:ds.map D.cv=vs) (ah:o+ds.length<=ez z)
  (hc:∀ (j:Nat) (u:D),(z9 es)[j]?=some u->c[j]?=some u.cv) {d:D} (hd:d.cells=zHV o ds (es.getD i default).cells) (j:Nat) (u:D) (hu:(z9 (es.set i d))[j]?=some u) :
  (c.take (i*ez z+o)++vs++c.drop (i*ez z+o+vs.length))[j]?=some u.cv:=by
 have Y:=zQ h
 have I:es[i]?=some (es.getD i default):=by simp [oA,oH hi]
 have aa:eOk z (es.getD i default):=h _ (oB I)
 have ai:=yc aa
 have ac:(i+1)*ez z<=es.length*ez z:=oe _ hi
 have ae:(i+1)*ez z=i*ez z+ez z:=by rw [o8];omega
 -- the element stands in the row
 have ab:z9 es=(z9 es).take (i*ez z)++(es.getD i default).cells++(z9 es).drop ((i+1)*ez z):=by
  have h1:=zEK h hi (es.getD i default)
  rwa [show es.set i (es.getD i default)=es from by
   apply nD
   intro j
   rw [nL]
   split
   ·rename_i hj;subst hj;simp [hi,I]
   ·rfl] at h1
 have J:z9 (es.set i d)=zHV (i*ez z+o) ds (z9 es):=by
  rw [zEK h hi d,hd]
  unfold zHV
  have O:((z9 es).take (i*ez z)).length=i*ez z:=by simp;omega
  conv=>rhs;rw [ab]
  have t1:((z9 es).take (i*ez z)++(es.getD i default).cells++(z9 es).drop ((i+1)*ez z)).take (i*ez z+o)=(z9 es).take (i*ez z)++(es.getD i default).cells.take o:=by
   rw [nw,List.take_append,O,List.take_append]
   rw [oi (by omega)]
   rw [show i*ez z+o - i*ez z=o by omega,show o - (es.getD i default).cells.length=0 by omega]
   simp
  have t2:((z9 es).take (i*ez z)++(es.getD i default).cells++(z9 es).drop ((i+1)*ez z)).drop (i*ez z+o+ds.length)=(es.getD i default).cells.drop (o+ds.length)++(z9 es).drop ((i+1)*ez z):=by
   rw [nw,List.drop_append,O,List.drop_append]
   rw [List.drop_of_length_le (by omega)]
   rw [show i*ez z+o+ds.length - i*ez z=o+ds.length by omega,show o+ds.length - (es.getD i default).cells.length=0 by omega]
   simp
  rw [t1,t2]
  simp
 rw [J] at hu
 exact zN0 U (by rw [Y];omega) hc j u hu
theorem zNA {z o:Nat} {x:D} {ds:List D} (O:z≠0) (U:eOk z x) (I:∀ d∈ds,d.isCell) (Y:o+ds.length<=z):eOk z (.ag (zHV o ds x.cells)):=by
 have hl:=yc U
 have hc:=zAU U
 have aa:ez z=z:=by simp [ez,O]
 simp only [eOk,O,na]
 refine ⟨_,rfl,?_,λc J=>?_⟩
 ·simp [zHV];omega
 ·rcases oJ.1 J with h1 | h1
  ·rcases oJ.1 h1 with h1 | h1
   ·exact hc c (oh h1)
   ·exact I c h1
  ·exact hc c (ou h1)
theorem zI4 (h:Rel av w0 e0 pS pB a w e st) {t tb:TypeId} {z z' k b i o n:Nat} {es:List D} {v:Value} {c:Array Value} (hz:kz P t=some z)
  (hk:st.bx[k]?=some (.arr tb z' es n)) (O:k∉pB) (U:e.at k=some b) (hb:w.heap[b]?=some (.cells c tb (0,0)))
  (ak:n*ez z'<=c.size) (hn:es.length<=n) (hm:n<=maxLen) (he:∀ x∈es,eOk z' x) (hf:∀ (i:Nat) (u:D),(z9 es)[i]?=some u->c[i]?=some u.cv) (hi:i<es.length)
  {ds:List D} (Y:ds.map D.cv=v.cells.toList) (h1:∀ u∈v.cells.toList,u.oneCell'=true) (aa:ds.length=ez z) (ab:o+ds.length<=ez z') {d:D} (hd:d.cells=zHV o ds (es.getD i default).cells)
  (ac:eOk z' d) (ae:Good w (zT av pB e st.bx) d) :
  ∃ w',(Instr.storeAt t (.pointer (some ⟨b,i*ez z'+o,none⟩)) v).run P w=.ok () w'/\Rel av w0 e0 pS pB a w' e { st with bx:=st.bx.set k (.arr tb z' (es.set i d) n) }:=by
 have I:v.cells.toList.length=ez z:=by rw [<-Y];simpa using aa
 have ai:(i+1)*ez z'<=n*ez z':=oe _ (by omega)
 have aj:(i+1)*ez z'=i*ez z'+ez z':=by rw [o8];omega
 have ah:=h.bo k _ hk O
 refine ⟨_,zDE hz hb I (by omega) h1,qp h hk O (by simp) U hb (λ_=>rfl) ?_ ?_ (by simp [Bx.refs])⟩
 ·rw [U]
  refine .inr ⟨b,_,rfl,setRow_heap w b c _ tb _ hb,?_,by simpa using hn,hm,?_,?_⟩
  ·simp only [nj,oI,o5,ma,nU,I]
   omega
  ·intro x J
   rcases nF J with J | rfl
   ·exact he x J
   ·exact ac
  ·intro j u hu
   have:=zJu he hi Y ab (c:=c.toList) (λj u hu=>by simpa using hf j u hu) hd j u hu
   rw [I] at this
   simpa using this
 ·intro x J
  rcases nF J with J | rfl
  ·exact ah x J
  ·exact ae
theorem zH0 (h:Rel av w0 e0 pS pB a w e st) {t:TypeId} {z zz k i o:Nat} {B:Bx} {v:Value} {p:PV} {K:Bx->Prop} (hz:kz P t=some z)
  (hk:st.bx[k]?=some B) (hkp:k∉pB) (hv:ValOk av w e pB st.bx v p) (hs:zJ3 z zz B i o p K) :
  ∃ w' B',(Instr.storeAt t (.pointer (some ⟨(e.at k).getD 0,i*ez zz+o,none⟩)) v).run P w=.ok () w'/\K B'/\Rel av w0 e0 pS pB a w' e { st with bx:=st.bx.set k B' }:=by
 have hr:=h.br k B hk hkp
 have hok:=h.bo k B hk hkp
 have hrf:=h.bf k B hk hkp
 -- a whole struct
 have whole:∀ (n:Nat) (x:D) (b:Nat) (c:Array Value) (tb:TypeId),B≠.gone->B.isArr=false->e.at k=some b->w.heap[b]?=some (.cells c tb (0,0))->c.size=n->p=.dg n x->o=0->i=0->z=n->n≠0->K (.vd x n) ->
   ∃ w' B',(Instr.storeAt t (.pointer (some ⟨(e.at k).getD 0,i*ez zz+o,none⟩)) v).run P w=.ok () w'/\K B'/\Rel av w0 e0 pS pB a w' e { st with bx:=st.bx.set k B' }:=by
  intro n x b c tb hng hnA hat hb hcs hp ho hi hzn hn0 hK
  subst hp;subst ho;subst hi;subst hzn
  have hv1:=hv.1.resolve_left (by simp)
  obtain ⟨hg,ha⟩:=hv.2.1
  have hvc:v.cells.toList=x.cells.map D.cv:=by rw [hv1];simp only [PV.val,PV.val1,ha.val,Value.cells]
  have hez:ez z=z:=by simp [ez,hn0]
  have hvl:v.cells.toList.length=ez z:=by rw [hvc,hez];simpa using ha.length
  have h1:∀ u∈v.cells.toList,u.oneCell'=true:=by
   rw [hvc];intro u hu
   obtain ⟨y,hy,rfl⟩:=oQ.1 hu
   obtain ⟨cs,rfl,_,hc⟩:=ha
   exact xH (hc y hy)
  refine ⟨_,_,by rw [hat];simp only [o9,mo,mW];exact zDE hz hb hvl (by omega) h1,hK,qp h hk hkp hng hat hb (by simp [hnA]) ?_ hg (by simp [Bx.refs])⟩
  rw [hat]
  refine ⟨b,_,tb,rfl,setRow_heap w b c _ tb _ hb,?_,ha,?_⟩
  ·simp only [nj,oI,o5,ma,nU,hvl];omega
  ·intro j u hu
   have hlt:j<x.cells.length:=(oC.1 hu).1
   simp only [mn,oc,List.getElem?_toArray]
   rw [oM (by rw [hvc];simpa using hlt),hvc,oE,hu];rfl
 cases B with
 | gone=>exact hs.elim
 | var cs=>
   obtain ⟨b,c,tb,h1,h2,h3,h4⟩:=hr
   obtain ⟨ho1,ho2⟩:=hok
   rw [PV.OkL_iff] at ho1
   simp only [Bx.refs] at hrf
   have hca:CellsAre e c.toList cs:=⟨by simpa using h3,fun i p hp=>by simpa [zO1] using h4 i p hp⟩
   have hco:zAI av w e pB st.bx cs:=fun q hq=>⟨ho1 q hq,ho2 q hq,fun j hj=>hrf j (PV.refsL_mem.2 ⟨q,hq,hj⟩)⟩
   have go:i=0->stV z o cs p K->∃ w' B',(Instr.storeAt t (.pointer (some ⟨(e.at k).getD 0,i*ez zz+o,none⟩)) v).run P w=.ok () w'/\K B'/\Rel av w0 e0 pS pB a w' e { st with bx:=st.bx.set k B' }:=fun hi hs2=>by
    subst hi
    have:=zG5 h hz hk hkp (by simp) rfl h1 h2 hca hco hv hs2
    simpa [h1] using this
   simp only [zJ3] at hs
   split at hs
   ·split at hs
    ·split at hs
     ·rename_i n x hc
      exact whole n x b c tb (by simp) rfl h1 h2 (by omega) rfl hc.1 rfl hc.2.2.1 hc.2.2.2 hs
     ·exact go rfl hs
    ·exact go rfl hs
   ·exact hs.elim
 | vd x n=>
   obtain ⟨b,c,tb,h1,h2,h3,h4,h5⟩:=hr
   have hca:CellsAre e c.toList (dcs x n):=zPq h4 h3 h5
   have hco:zAI av w e pB st.bx (dcs x n):=fun q hq=>by
    obtain ⟨a1,a2,a3⟩:=zQ6 h4 hok q hq
    exact ⟨a1,.inr a2,by rw [a3];simp⟩
   have go:i=0->stV z o (dcs x n) p K->∃ w' B',(Instr.storeAt t (.pointer (some ⟨(e.at k).getD 0,i*ez zz+o,none⟩)) v).run P w=.ok () w'/\K B'/\Rel av w0 e0 pS pB a w' e { st with bx:=st.bx.set k B' }:=fun hi hs2=>by
    subst hi
    have:=zG5 h hz hk hkp (by simp) rfl h1 h2 hca hco hv hs2
    simpa [h1] using this
   simp only [zJ3] at hs
   split at hs
   ·split at hs
    ·split at hs
     ·rename_i m y hc
      obtain ⟨hc1,hc2,hc3,hc4⟩:=hc
      subst hc2
      exact whole _ y b c tb (by simp) rfl h1 h2 h3 rfl hc1 rfl hc3 hc4 hs
     ·exact go rfl hs
    ·exact go rfl hs
   ·exact hs.elim
 | arr tb z' es n=>
   simp only [zJ3] at hs
   split at hs
   ·rename_i hzz
    subst hzz
    obtain ⟨hi,hs⟩:=hs
    rcases hr with ⟨_,h2,_⟩ | ⟨b,c,h1,h2,h3,h4,h5,h6,h7⟩
    ·subst h2;simp at hi
    have hge:es[i]?=some (es.getD i default):=by simp [oA,oH hi]
    have heo:eOk zz (es.getD i default):=h6 _ (oB hge)
    have hgo:Good w (zT av pB e st.bx) (es.getD i default):=hok _ (oB hge)
    have hel:=yc heo
    rw [h1]
    simp only [o9]
    split at hs
    ·rename_i hc
     obtain ⟨rfl,rfl⟩:=hc
     split at hs
     ·rename_i d hd
      obtain ⟨g1,g2,g3⟩:=zAY (e:=e) hd hv.2.1
      have hpne:p≠.any:=fun hp=>by subst hp;simp [zIP,rQ] at hd
      have hv1:=hv.1.resolve_left hpne
      have hvc:v.cells.toList=d.cells.map D.cv:=by
       rw [hv1,<-g3]
       cases d with
       | lit x=>
         simp only [D.val,D.cells,ol,lA,D.cv]
         by_cases hz0:z=0
         ·simp [eOk,hz0,D.isCell] at g2
          cases x<;>simp [Value.cells,Value.oneCell'] at g2 ⊢
         ·simp [eOk,hz0,IsAg] at g2
       | ag cs=>simp [D.val,D.cells,Value.cells]
       | sl aa zz' es' cap=>simp [D.val,D.cells,Value.cells,D.cv]
       | pt ad' zz' x'=>simp [D.val,D.cells,Value.cells,D.cv]
       | fn f' caps'=>simp [D.val,D.cells,Value.cells,D.cv]
       | mp b' es' c'=>simp [D.val,D.cells,Value.cells,D.cv]
      have hdl:d.cells.length=ez z:=yc g2
      obtain ⟨w',r1,r2⟩:=zI4 h hz hk hkp h1 h2 h3 h4 h5 h6 h7 hi (ds:=d.cells) (o:=0) hvc.symm (by
       rw [hvc];intro u hu
       obtain ⟨y,hy,rfl⟩:=oQ.1 hu
       exact xH (zAU g2 y hy)) hdl (by omega) (d:=d) (by rw [zHV,nJ,hdl,List.drop_of_length_le (by omega)];simp) g2 g1
      exact ⟨w',_,r1,hs,r2⟩
     ·exact hs.elim
    ·split at hs
     ·exact hs.elim
     ·rename_i hz0
      split at hs
      ·rename_i ds hds
       split at hs
       ·rename_i hc
        cases hps:sd p with
        | none=>rw [hps] at hds;cases hds
        | some ps=>
          rw [hps] at hds
          simp only [mq] at hds
          obtain ⟨a1,a2,a3⟩:=xy hps hv
          obtain ⟨b1,b2⟩:=u9 (e:=e) hds (PV.OkL_iff.2 fun q hq=>(a2 q hq).1)
          have hvc:ds.map D.cv=v.cells.toList:=by
           rw [b2,PV.cvs_eq]
           apply nD
           intro j
           rw [oE]
           cases hj:ps[j]? with
           | none=>
             have:v.cells.toList[j]?=none:=oT (by rw [a1.1];exact nu.1 hj)
             rw [this];rfl
           | some q=>
             have:=(a1.2 j q hj).resolve_left (fun hq=>by
              have:=(a2 q (oB hj)).2.1
              rw [hq] at this;exact this)
             rw [this];rfl
          have hezz:ez zz=zz:=by simp [ez,hz0]
          obtain ⟨w',r1,r2⟩:=zI4 h hz hk hkp h1 h2 h3 h4 h5 h6 h7 hi (ds:=ds) (o:=o) hvc a3 hc.1 (by rw [hezz];exact hc.2) (d:=.ag (zHV o ds (es.getD i default).cells)) rfl
           (zNA hz0 heo (fun d hd=>(b1 d hd).2) hc.2) (Good.ag fun d hd=>by
            rcases oJ.1 hd with hd | hd
            ·rcases oJ.1 hd with hd | hd
             ·exact hgo.cells d (oh hd)
             ·exact (b1 d hd).1
            ·exact hgo.cells d (ou hd))
          exact ⟨w',_,r1,hs,r2⟩
       ·exact hs.elim
      ·exact hs.elim
   ·exact hs.elim
theorem zKm (h:Rel av w0 e0 pS pB a w e st) {t:TypeId} {x y:Operand} {K:Nat->Bx->Prop} (O:∀ i,x=.tmp i->i∉pS) (U:∀ i,y=.tmp i->i∉pS)
  (hs:stF P (opd st.sl) (λk=>st.bx[k]?) t x y K) :
  ∃ w' k B',(Instr.storeAt t (a.eval x) (a.eval y)).run P w=.ok () w'/\K k B'/\Rel av w0 e0 pS pB a w' e { st with bx:=st.bx.set k B' }:=by
 have ox:=wP h O
 have Y:=(wP h U).valOk.retag (P:=P) t
 unfold stF at hs
 split at hs
 ·rename_i z k zz i o hz hp
  rw [hp] at ox
  have I:=ox.h.resolve_left (by simp)
  have J:=ox.rf k (by simp [PV.refs])
  split at hs
  ·rename_i B hB
   rw [I]
   obtain ⟨w',B',r1,r2,r3⟩:=zH0 h hz hB J.1 Y hs
   exact ⟨w',k,B',r1,r2,r3⟩
  ·exact hs.elim
 ·exact hs.elim
end Go.Proofs.YtnmnahkkcfghjaaGreat
