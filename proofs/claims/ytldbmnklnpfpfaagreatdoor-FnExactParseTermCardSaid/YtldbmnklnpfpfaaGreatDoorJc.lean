/- How a real state that fits an abstract one goes on fitting: a slot is set, a box is made, a box is written. -/
import Derived.Test.YtldbmnklnpfpfaaGreatDoorJa
import Derived.Deep.AppendSrc
import Derived.Laws.BitsLemmas
set_option linter.unusedVariables false
set_option linter.unusedSimpArgs false
set_option linter.unusedSectionVars false
namespace Go.Proofs.YtldbmnklnpfpfaaGreatDoor
open Go
def St.put (st:St)(dst:Option Nat)(p:PV):St:=
 match dst with
 | some d=>{ st with sl:=st.sl.set d p }
 | none=>st
variable [Dfs] {av:Nat->Prop} {P:Program} {w0 w w':World} {e0 e:Env} {pS pS' pB:List Nat} {a:Act} {st:St}
theorem sE {w:World}{o:Obj}{b:Nat}(h:b<w.heap.size):(w.alloc o).heap[b]?=w.heap[b]?:=by show(w.heap.push o)[b]?=w.heap[b]?;rw[Array.getElem?_push,if_neg (Nat.ne_of_lt h)]
theorem DI {w:World}{o:Obj}:(w.alloc o).heap[w.heap.size]?=some o:=by show(w.heap.push o)[w.heap.size]?=some o;simp
theorem yP (h:Rel av w0 e0 pS pB a w e st){dst:Option Nat}{v:Value}{p:PV}(Y:ValOk av w e pB st.bx v p)(V:∀ i,i∈pS->some i≠dst->i∈pS'):Rel av w0 e0 pS' pB (a.put dst v) w e (st.put dst p):=by
 cases dst with
 | none=>exact { h with hs:=λi q hi I=>h.hs i q hi (λhc=>I (V i hc (by simp))),so:=λi q hi I=>h.so i q hi (λhc=>I (V i hc (by simp))),sr:=λi q hi I=>h.sr i q hi (λhc=>I (V i hc (by simp))) }
 | some d=>
   have J:∀ i,i∉pS'->i≠d->i∉pS:=λi I hd hc=>I (V i hc (by simp[hd]));have U:∀(i:Nat) (q:PV),(st.sl.set d p)[i]?=some q->(i=d/\q=p/\d<st.sl.length)\/(i≠d/\st.sl[i]?=some q):=λi q hi=>by
    rw[nS]at hi;split at hi
    ·rename_i hd;subst hd;split at hi
     ·rename_i O;simp at hi;exact .inl ⟨rfl,hi.symm,O⟩
     ·cases hi
    ·rename_i hd;exact .inr ⟨λZ=>hd Z.symm,hi⟩
   refine { h with nd:=h.nd,sz:=?_,hs:=?_,so:=?_,sr:=?_ }
   ·simp[St.put,Act.put];exact h.sz
   ·intro i q hi I;rcases U i q hi with⟨rfl,rfl,O⟩ | ⟨hd,hi⟩
    ·rcases Y.1 with h1 | h1
     ·exact .inl h1
     ·right;have:i<a.tmps.size:=by have:=h.sz;omega
      simp[Act.put,this,h1]
    ·have:=h.hs i q hi (J i I hd)
     simp only[Act.put];rw[o3,Array.getElem?_setIfInBounds_ne (Ne.symm hd),<-o3];exact this
   ·intro i q hi I;rcases U i q hi with⟨rfl,rfl,O⟩ | ⟨hd,hi⟩
    ·exact Y.2.1
    ·exact h.so i q hi (J i I hd)
   ·intro i q hi I;rcases U i q hi with⟨rfl,rfl,O⟩ | ⟨hd,hi⟩
    ·exact Y.2.2
    ·exact h.sr i q hi (J i I hd)
theorem y3 {pB:List Nat}{e:Env}{bx:List Bx}{B:Bx}(Y:e.length=bx.length){k b:Nat}:Lives (bx.length::pB) (e++[none]) (bx++[B]) k b↔Lives (bx.length::pB) e bx k b:=by
 constructor
 ·rintro⟨O,U,B',I,V⟩
  have Z:k≠bx.length:=λh=>O (by simp[h]);by_cases J:k<bx.length
  ·rw[Env.at_append_lt (by omega)]at U;rw[oJ J]at I;exact⟨O,U,B',I,V⟩
  ·rw[oh (by simp;omega)]at I;cases I
 ·rintro⟨O,U,B',I,V⟩
  have J:k<bx.length:=(oC.1 I).1;exact⟨O,by rw[Env.at_append_lt (by omega)];exact U,B',by rw[oJ J];exact I,V⟩
theorem sZ {pB:List Nat}{e:Env}{bx:List Bx}{j b:Nat}(h:zF av (j::pB) e bx b):zF av pB e bx b:=by
 rcases h with h | ⟨k,I,J⟩
 ·exact .inl h
 ·exact .inr ⟨k,λhc=>I (by simp[hc]),J⟩
theorem vU (h:Rel av w0 e0 pS pB a w e st) {B:Bx} :
  Rel av w0 e0 pS (st.bx.length::pB) a w (e++[none]) { st with bx:=st.bx++[B] }:=by
 have V:∀ b,zF av (st.bx.length::pB) (e++[none]) (st.bx++[B]) b->zF av pB e st.bx b:=λb Z=>sZ (Z.imp id λ⟨k,I⟩=>⟨k,(y3 h.el).1 I⟩);have U:∀(k:Nat) (B':Bx),(st.bx++[B])[k]?=some B'->(k<st.bx.length/\st.bx[k]?=some B')\/(k=st.bx.length/\B'=B):=λk B' I=>by
  by_cases O:k<st.bx.length
  ·rw[oJ O]at I;exact .inl ⟨O,I⟩
  ·rw[oT (by omega)]at I;have:k - st.bx.length=0:=by
    rcases mE (k - st.bx.length)with h0 | h0
    ·exact h0
    ·rw[oh (by simp;omega)]at I;cases I
   rw[this]at I;simp at I;exact .inr ⟨by omega,I.symm⟩
 have Y:∀ k,k<st.bx.length->Env.at (e++[none]) k=e.at k:=λk I=>Env.at_append_lt (by rw[h.el];exact I);have aa:∀(B':Bx),B'.Ok w (zF av pB e st.bx)->B'.Ok w (zF av (st.bx.length::pB) (e++[none]) (st.bx++[B])):=λB' Z=>Z.mono (λ_ _ _=>rfl) (oG _) (λb _=>V b);exact {
  el:=by simp[h.el]
  br:=λk B' I J=>by
   rcases U k B' I with⟨O,I⟩ | ⟨rfl,_⟩
   ·rw[Y k O];have ab:k∉pB:=λhc=>J (by simp[hc]);exact(h.br k B' I ab).congr (λ_ _=>rfl) (λj hj=>Y j (h.bf k B' I ab j hj).2)
   ·exact absurd (by simp) J
  bo:=λk B' I J=>by
   rcases U k B' I with⟨O,I⟩ | ⟨rfl,_⟩
   ·exact aa _ (h.bo k B' I λhc=>J (by simp[hc]))
   ·exact absurd (by simp) J
  bf:=λk B' I J j hj=>by
   rcases U k B' I with⟨O,I⟩ | ⟨rfl,_⟩
   ·have:=h.bf k B' I (λhc=>J (by simp[hc])) j hj
    exact⟨by simp;exact⟨by omega,this.1⟩,by simp;omega⟩
   ·exact absurd (by simp) J
  inj:=λk j b I hj=>by have h1:=(y3 h.el).1 I;have h2:=(y3 h.el).1 hj;exact h.inj k j b ⟨λhc=>h1.1 (by simp[hc]),h1.2⟩ ⟨λhc=>h2.1 (by simp[hc]),h2.2⟩
  ku:=h.ku
  size:=h.size
  old:=h.old
  fz:=h.fz
  nd:=h.nd
  sz:=h.sz
  hN:=h.hN
  hs:=λi p hi J=>by
   have h1:=h.hs i p hi J;rcases h1 with h1 | h1
   ·exact .inl h1
   ·refine .inr (h1.trans (PV.val_congr p λk I=>?_).symm);exact Y k (h.sr i p hi J k I).2
  so:=λi p hi J=>PV.Ok.mono (λ_ _ _=>rfl) (oG _) (λb _=>V b) p (h.so i p hi J)
  sr:=λi p hi J k I=>by
   have:=h.sr i p hi J k I
   exact⟨by simp;exact⟨by omega,this.1⟩,by simp;omega⟩
  own:=λk b I=>by have h1:=(y3 h.el).1 I;exact h.own k b ⟨λhc=>h1.1 (by simp[hc]),h1.2⟩
  avl:=h.avl
  avn:=λk b I=>by have h1:=(y3 h.el).1 I;exact h.avn k b ⟨λhc=>h1.1 (by simp[hc]),h1.2⟩
  pin:=λk b Z=>by
   have:=h.pin k b Z
   have hl:k<e.length:=mt λhc=>by rw[Env.at_ge hc]at this;simp at this
   rw[Env.at_append_lt hl];exact⟨this.1,by simp;exact⟨by rw[<-h.el];omega,this.2⟩⟩
  pit:=h.pit }
theorem tg (h:Rel av w0 e0 pS pB a w e st) {k:Nat} {B:Bx} {v:Value} {c:Array Value} {t:TypeId} {f:Nat->PV} (hk:st.bx[k]?=some B) (aj:k∈pB)
  (nb:NewBox av w e pB st.bx v (w.alloc (.cells c t)) B f) :
  Rel av w0 e0 pS (pB.filter (·≠k)) a (w.alloc (.cells c t)) (e.set k (some w.heap.size)) st:=by
 have ak:k<st.bx.length:=(oC.1 hk).1;have al:k<e.length:=by rw[h.el];exact ak
 have O:∀ j,j∉pB.filter (·≠k)↔(j∉pB\/j=k):=λj=>by simp;exact Decidable.imp_iff_not_or
 have Z:∀ j,j≠k->Env.at (e.set k (some w.heap.size)) j=e.at j:=λj I=>Env.at_set_ne I;have ab:Env.at (e.set k (some w.heap.size)) k=some w.heap.size:=Env.at_set_eq al;have J:∀ j b,Lives (pB.filter (·≠k)) (e.set k (some w.heap.size)) st.bx j b->(j=k/\b=w.heap.size)\/(j≠k/\Lives pB e st.bx j b):=λj b ⟨h1,h2,B',h3,h4⟩=>by
  by_cases I:j=k
  ·subst I;rw[ab]at h2;exact .inl ⟨rfl,(nD h2).symm⟩
  ·rw[Z j I]at h2;rcases(O j).1 h1 with h5 | h5
   ·exact .inr ⟨I,h5,h2,B',h3,h4⟩
   ·exact absurd h5 I
 have U:∀ b,b<w.heap.size->(w.alloc (.cells c t)).heap[b]?=w.heap[b]?:=λb V=>sE V;have aa:∀ b,b<w.heap.size->zF av (pB.filter (·≠k)) (e.set k (some w.heap.size)) st.bx b->zF av pB e st.bx b:=λb V hl=>by
  rcases hl with hl | ⟨j,I⟩
  ·exact .inl hl
  rcases J j b I with⟨_,rfl⟩ | ⟨_,h1⟩
  ·omega
  ·exact .inr ⟨j,h1⟩
 have ac:w.heap.size<=(w.alloc (.cells c t)).heap.size:=by simp
 have ae:∀ j,j∉pB->j≠k:=λj I hh=>I (hh ▸ aj);exact {
  el:=by simp[h.el]
  br:=λj B' I Y=>by
   by_cases ah:j=k
   ·subst ah;rw[hk]at I
    have:=nD I
    subst this;rw[ab];exact nb.rel _ λi hi=>Z i (ae i (nb.rf i hi).1)
   ·have ai:j∉pB:=((O j).1 Y).resolve_right ah;rw[Z j ah];have hr:=h.br j B' I ai;by_cases hg:B'=.gone
    ·subst hg;exact True.intro
    ·exact hr.congr (λb V=>U b (Lives.lt h.toMem ⟨ai,V,B',I,hg⟩)) (λi hi=>Z i (ae i (h.bf j B' I ai i hi).1))
  bo:=λj B' I Y=>by
   rcases(O j).1 Y with h1 | h1
   ·exact(h.bo j B' I h1).mono (λb V _=>U b V) ac aa
   ·subst h1;rw[hk]at I
    have:=nD I
    subst this;exact nb.ok.mono (λb V _=>U b V) ac aa
  bf:=λj B' I Y i hi=>by
   rcases(O j).1 Y with h1 | h1
   ·have:=h.bf j B' I h1 i hi;exact⟨(O i).2 (.inl this.1),this.2⟩
   ·subst h1;rw[hk]at I
    have:=nD I
    subst this
    have:=nb.rf i hi
    exact⟨(O i).2 (.inl this.1),this.2⟩
  inj:=λi j b hi I=>by
   rcases J i b hi with⟨rfl,rfl⟩ | ⟨h1,h2⟩
   ·rcases J j _ I with⟨rfl,_⟩ | ⟨h3,h4⟩
    ·rfl
    ·have:=Lives.lt h.toMem h4;omega
   ·rcases J j b I with⟨rfl,rfl⟩ | ⟨h3,h4⟩
    ·have:=Lives.lt h.toMem h2;omega
    ·exact h.inj i j b h2 h4
  ku:=⟨h.ku.os,h.ku.out⟩
  size:=by have:=h.size;simp;omega
  old:=λb V Y=>by rw[U b (by have:=h.size;omega)];exact h.old b V Y
  fz:=λb c' t' z V hc=>by
   by_cases ao:b<w.heap.size
   ·rw[U b ao]at hc;exact h.fz b c' t' z V hc
   ·have aq:b=w.heap.size:=by have:=(oN.1 hc).1;simp at this;omega
    subst aq;rw[DI]at hc;cases hc;exact fz0
  nd:=h.nd
  sz:=h.sz
  hN:=by have:=h.hN;simp;omega
  hs:=λi p hi Y=>by
   rcases h.hs i p hi Y with h1 | h1
   ·exact .inl h1
   ·exact .inr (h1.trans (PV.val_congr p λj I=>Z j (ae j (h.sr i p hi Y j I).1)).symm)
  so:=λi p hi Y=>PV.Ok.mono (λb V _=>U b V) ac aa p (h.so i p hi Y)
  sr:=λi p hi Y j I=>by
   have:=h.sr i p hi Y j I
   exact⟨(O j).2 (.inl this.1),this.2⟩
  own:=λj b I=>by
   rcases J j b I with⟨rfl,rfl⟩ | ⟨_,h2⟩
   ·left;exact h.size
   ·exact h.own j b h2
  avl:=h.avl
  avn:=λj b I=>by
   rcases J j b I with⟨rfl,rfl⟩ | ⟨_,h2⟩
   ·intro hc;have h3:=h.avl.lt _ hc;have h4:=h.size;omega
   ·exact h.avn j b h2
  pin:=λj b V=>by
   have:=h.pin j b V
   have au:j≠k:=λhc=>this.2 (hc ▸ aj);rw[Z j au];exact⟨this.1,(O j).2 (.inl this.2)⟩
  pit:=h.pit }
end Go.Proofs.YtldbmnklnpfpfaaGreatDoor
namespace Go.Proofs.YtldbmnklnpfpfaaGreatDoor
open Go
inductive Res where
 | v (p:PV)
 | b (B:Bx) (f:Nat->PV)
def GA (ds:List D):List PV:=ds.map λd=>match d with
 | .pt ad z x=>.pd ad z x
 | d=>.dc d
def K0 (P:Program)(t:TypeId)(p:PV)(R:PV->Prop):Prop:=
 match p with
 | .dc x=>match P.underlying t with
   | some (.int k)=>∃ n,x=.lit (.int k n)/\R (.int k n)
   | some .bool=>∃ v,x=.lit (.bool v)/\R (.bool v)
   | some .string=>∃ v,x=.lit (.string v)/\R (.str v)
   | some (.slice el)=>match kz P el with
     | some z=>∃ a es cap,x=.sl a z es cap/\R (.sv a z es cap)
     | none=>R (.dc x)
   | some (.pointer _)=>match x with
     | .pt ad z y=>R (.pd ad z y)
     | x=>R (.dc x)
   | some (.func _ _ _)=>match x with
     | .fn f ds=>R (.fn f (GA ds))
     | x=>R (.dc x)
   | _=>R (.dc x)
 | p=>R p
def K4:Op->Bool
 | .alloc _ | .box .. | .buildSlice .. | .makeSlice .. | .build ..=>true
 | .move _ | .assign _ | .pick .. | .load .. | .nilCheck _ | .binOp .. | .unOp .. | .convert .. | .fieldAddr .. | .indexAddr .. | .index .. | .slice .. | .field .. | .extract .. | .makeFunc .. | .lookup ..=>true
 | .call c=>match c.callee with
   | .builtin .len=>true
   | .builtin .max=>true
   | .builtin .min=>true
   | _=>false
 | _=>false
def nev (P:Program)(ρ:Operand->PV)(rb:Nat->Option Bx)(op:Op)(ty:TypeId)(R:Res->Prop):Prop:=
 match op with
 | .alloc t=>FY P ρ (.alloc t) λB f=>R (.b B f)
 | .box t x=>FY P ρ (.box t x) λB f=>R (.b B f)
 | .buildSlice t n parts=>FY P ρ (.buildSlice t n parts) λB f=>R (.b B f)
 | .makeSlice t l c=>FY P ρ (.makeSlice t l c) λB f=>R (.b B f)
 | .build t parts=>rT P ρ t parts.toList λp=>R (.v p)
 | op=>tj P ρ rb op ty λp=>K0 P ty p λq=>R (.v q)
def Lin {α:Type}(F:(α->Prop)->Prop):Prop:=∀ R,F R->∃ x,R x/\∀ R':α->Prop,R' x->F R'
theorem Lin.pure {α:Type}(x:α):Lin (λR:α->Prop=>R x):=λR h=>⟨x,h,λ_ h=>h⟩
theorem Lin.bind {α β:Type}{F:(α->Prop)->Prop}{G:α->(β->Prop)->Prop}(I:Lin F)(J:∀ x,Lin (G x)):Lin (λR=>F λx=>G x R):=λR h=>by obtain⟨x,O,U⟩:=I _ h;obtain⟨y,V,Y⟩:=J x R O;exact⟨y,V,λR' h=>U _ (Y R' h)⟩
theorem Lin.and {α:Type}{p:Prop}{F:(α->Prop)->Prop}(I:Lin F):Lin (λR=>p/\F R):=λR h=>by obtain⟨y,J,O⟩:=I R h.2;exact⟨y,J,λR' U=>⟨h.1,O R' U⟩⟩
theorem Lin.ex {α β:Type}{F:β->(α->Prop)->Prop}(I:∀ b,Lin (F b)):Lin (λR=>∃ b,F b R):=λR ⟨b,h⟩=>by obtain⟨y,J,O⟩:=I b R h;exact⟨y,J,λR' U=>⟨b,O R' U⟩⟩
theorem Lin.no {α:Type}:Lin (λ_:α->Prop=>False):=λ_ h=>h.elim
theorem Lin.ite {α:Type}{p:Prop} [Decidable p]{F G:(α->Prop)->Prop}(I:Lin F)(J:Lin G):Lin (λR=>if p then F R else G R):=by
 by_cases h:p
 ·simp only[h,nu];exact I
 ·simp only[h,nO];exact J
theorem xf {P:Program}{t:TypeId}{p:PV}:Lin (frc P t p):=by
 unfold frc;cases p
 case dc x=>
  simp only;cases P.underlying t with
  | none=>exact Lin.no
  | some d=>
    cases d<;>simp only<;>first
     | exact Lin.no
     | exact Lin.ex λn=>Lin.and (Lin.pure _)
     | skip
    rename_i el;cases kz P el with
    | none=>exact Lin.no
    | some z=>exact Lin.ex λa=>Lin.ex λes=>Lin.ex λc=>Lin.and (Lin.pure _)
 all_goals exact Lin.pure _
theorem JL {P:Program}{t:TypeId}{p:PV}:Lin (K0 P t p):=by
 unfold K0;cases p
 case dc x=>
  simp only;cases P.underlying t with
  | none=>exact Lin.pure _
  | some d=>
    cases d<;>simp only<;>first
     | exact Lin.pure _
     | exact Lin.ex λn=>Lin.and (Lin.pure _)
     | skip
    ·cases x<;>exact Lin.pure _
    ·rename_i el;cases kz P el with
     | none=>exact Lin.pure _
     | some z=>exact Lin.ex λa=>Lin.ex λes=>Lin.ex λc=>Lin.and (Lin.pure _)
    ·cases x<;>exact Lin.pure _
 all_goals exact Lin.pure _
theorem ux {p:PV}:Lin (IX p):=by
 unfold IX;cases p<;>simp only<;>first | exact Lin.pure _ | exact Lin.no | skip
 exact Lin.ex λk=>Lin.ex λn=>Lin.and (Lin.pure _)
theorem JK {p:PV}:Lin (L9 p):=by
 unfold L9;cases p<;>simp only<;>first | exact Lin.pure _ | exact Lin.no | skip
 exact Lin.ex λn=>Lin.and (Lin.pure _)
theorem uy {p:Option PV}{d:Int}:Lin (JC p d):=by
 unfold JC;cases p<;>simp only
 ·exact Lin.pure _
 ·exact ux
theorem Eh {cs:List PV}:Lin (pgR cs):=by unfold pgR;exact Lin.ite (Lin.pure _) (Lin.pure _)
theorem He {z zz:Nat}{B:Bx}{i o:Nat}:Lin (Es z zz B i o):=by
 unfold Es;cases B<;>simp only
 case gone=>exact Lin.no
 case var cs=>cases i<;>simp only<;>first | exact Lin.no | exact Lin.ite (Lin.ite (Lin.pure _) Lin.no) (Lin.ite Eh Lin.no)
 case vd x n=>cases i<;>simp only<;>first | exact Lin.no | exact Lin.ite (Lin.ite (Lin.pure _) Lin.no) (Lin.ite (Lin.pure _) (Lin.ite (Lin.pure _) Lin.no))
 case arr t z' es n=>refine Lin.ite (Lin.and ?_) Lin.no;exact Lin.ite (Lin.ite (Lin.pure _) Lin.no) (Lin.ite (Lin.ite (Lin.pure _) Lin.no) (Lin.ite (Lin.pure _) (Lin.ite (Lin.pure _) Lin.no)))
theorem JM {op:BinOp}{k:IntKind}{a b:Int}:Lin (MH op k a b):=by unfold MH;cases op<;>simp only<;>first | exact Lin.pure _ | exact Lin.no | exact Lin.and (Lin.pure _)
theorem JQ {op:BinOp}{a b:ByteArray}:Lin (Mr op a b):=by unfold Mr;cases op<;>simp only<;>first | exact Lin.pure _ | exact Lin.no | exact Lin.and (Lin.pure _)
theorem Hb {op:BinOp}{a b:Bool}:Lin (Ip op a b):=by unfold Ip;cases op<;>simp only<;>first | exact Lin.pure _ | exact Lin.no
theorem JP {P:Program}{op:BinOp}{t:TypeId}{a b:Option Addr}{I cb:Nat}{J:List D}:Lin (Mn P op t a b I J cb):=by
 unfold Mn;split<;>try exact Lin.no
 split<;>try exact Lin.no
 cases op<;>simp only<;>first | exact Lin.pure _ | exact Lin.no
theorem JJ {P:Program}{op:BinOp}{t:TypeId}{p q:PV}:Lin (Lu P op t p q):=by
 unfold Lu;cases p<;>cases q<;>simp only<;>first | exact Lin.no | exact JQ | exact JP | skip
 ·cases op<;>simp only<;>first | exact Lin.and (Lin.pure _) | exact Lin.ite JM Lin.no
 ·cases P.underlying t with
  | none=>exact Lin.no
  | some d=>cases d<;>simp only<;>first | exact Lin.no | exact Hb
theorem GP {rb:Nat->Option Bx}{p:PV}:Lin (pT rb p):=by
 unfold pT;split
 ·split
  ·exact Lin.ex λns=>Lin.and (Lin.pure _)
  ·exact Lin.no
 ·split
  ·split
   ·exact Lin.and (Lin.ex λns=>Lin.and (Lin.pure _))
   ·exact Lin.no
  ·exact Lin.no
 ·exact Lin.no
theorem JO {P:Program} {ρ:Operand->PV} {rb:Nat->Option Bx} {op:Op} {ty:TypeId}:Lin (tj P ρ rb op ty):=by
 unfold tj;cases op<;>(try simp only)<;>try exact Lin.no
 case move=>exact Lin.pure _
 case assign=>exact Lin.pure _
 case pick=>exact Lin.bind JK λv=>Lin.ite (Lin.pure _) (Lin.pure _)
 case load t x=>
  cases kz P t with
  | none=>exact Lin.no
  | some z=>
    simp only;cases ρ x<;>(try simp only)<;>try exact Lin.no
    ·rename_i k zz i o;cases rb k with
     | none=>exact Lin.no
     | some B=>exact He
    ·exact Lin.ite (Lin.pure _) Lin.no
 case nilCheck x=>cases ρ x<;>(try simp only)<;>first | exact Lin.no | exact Lin.pure _
 case binOp=>exact Lin.bind xf λp=>Lin.bind xf λq=>JJ
 case unOp op t x=>
  cases op<;>(try simp only)<;>first
   | exact Lin.no
   | exact Lin.bind xf λp=>(by cases p<;>(try simp only)<;>first | exact Lin.no | exact Lin.pure _)
 case convert s d x=>
  cases P.underlying d with
  | none=>exact Lin.no
  | some dd=>
    cases dd<;>(try simp only)<;>try exact Lin.no
    ·cases P.underlying s with
     | none=>exact Lin.no
     | some I=>
       cases I<;>(try simp only)<;>try exact Lin.no
       exact Lin.bind xf λp=>(by cases p<;>(try simp only)<;>first | exact Lin.no | exact Lin.pure _)
    ·cases P.underlying s with
     | none=>exact Lin.no
     | some I=>
       cases I<;>(try simp only)<;>try exact Lin.no
       split<;>try exact Lin.no
       exact Lin.bind xf λp=>GP
 case lookup t m i ok=>
  cases ok<;>(try simp only)<;>try exact Lin.no
  cases P.underlying t with
  | none=>exact Lin.no
  | some d=>
    cases d<;>(try simp only)<;>try exact Lin.no
    refine Lin.bind xf λp=>?_;cases p<;>(try simp only)<;>try exact Lin.no
    cases ρ m<;>(try simp only)<;>try exact Lin.no
    exact Lin.ex λb=>Lin.ex λes=>Lin.ex λc=>Lin.and (Lin.ex λo=>Lin.and (Lin.pure _))
 case makeFunc f first caps=>
  cases f<;>(try simp only)<;>try exact Lin.no
  cases first.toList<;>(try simp only)<;>try exact Lin.no
  exact Lin.ite (Lin.pure _) Lin.no
 case slice t x lo hi O=>
  cases O<;>(try simp only)<;>try exact Lin.no
  cases P.underlying t with
  | none=>exact Lin.no
  | some d=>
    cases d<;>(try simp only)<;>try exact Lin.no
    ·refine Lin.bind xf λp=>?_;cases p<;>(try simp only)<;>try exact Lin.no
     exact Lin.bind uy λl=>Lin.bind uy λh=>Lin.and (Lin.pure _)
    ·rename_i el;cases kz P el with
     | none=>exact Lin.no
     | some z=>
       try simp only
       refine Lin.bind xf λp=>?_;cases p<;>(try simp only)<;>try exact Lin.no
       ·exact Lin.ite (Lin.bind uy λl=>Lin.bind uy λh=>Lin.and (Lin.pure _)) Lin.no
       ·cases lo<;>simp only
        ·exact Lin.bind uy λh=>Lin.and (Lin.pure _)
        ·exact Lin.ite (Lin.bind ux λl=>Lin.bind uy λh=>Lin.and (Lin.pure _)) Lin.no
 case fieldAddr t x f=>
  cases ur P t f with
  | none=>exact Lin.no
  | some J=>obtain⟨o,z⟩:=J;simp only;cases ρ x<;>(try simp only)<;>first | exact Lin.no | exact Lin.pure _ | exact Lin.ite (Lin.pure _) Lin.no
 case field t x f=>
  cases ur P t f with
  | none=>exact Lin.no
  | some J=>
    obtain⟨o,z⟩:=J;simp only;cases ρ x<;>(try simp only)<;>try exact Lin.no
    ·exact Lin.ite (Lin.ite (Lin.pure _) Lin.no) (Lin.ite (Lin.pure _) Lin.no)
    ·exact Lin.ite (Lin.ite (Lin.pure _) Lin.no) (Lin.ite Eh Lin.no)
 case indexAddr t x i=>
  cases P.underlying t with
  | none=>exact Lin.no
  | some d=>
    cases d<;>(try simp only)<;>try exact Lin.no
    rename_i el;cases kz P el with
    | none=>exact Lin.no
    | some z=>
      try simp only
      refine Lin.bind ux λn=>Lin.bind xf λp=>?_;cases p<;>(try simp only)<;>try exact Lin.no
      ·exact Lin.ite (Lin.and (Lin.pure _)) Lin.no
      ·rename_i k z' lo m c;cases rb k with
       | none=>exact Lin.no
       | some B=>cases B<;>(try simp only)<;>first | exact Lin.no | exact Lin.ite (Lin.and (Lin.pure _)) Lin.no
 case index t x i=>
  cases P.underlying t with
  | none=>exact Lin.no
  | some d=>
    cases d<;>(try simp only)<;>try exact Lin.no
    refine Lin.bind ux λn=>Lin.bind xf λp=>?_;cases p<;>(try simp only)<;>try exact Lin.no
    exact Lin.and (Lin.pure _)
 case extract x i=>
  cases ρ x<;>(try simp only)<;>try exact Lin.no
  rename_i l;cases l[i]? with
  | none=>exact Lin.no
  | some p=>cases p<;>(try simp only)<;>first | exact Lin.no | exact Lin.pure _
 case call c=>
  cases c.callee<;>(try simp only)<;>try exact Lin.no
  rename_i b;cases b<;>(try simp only)<;>try exact Lin.no
  all_goals(rcases c.args.toList with _ | ⟨x,_ | ⟨y,_ | ⟨u,us⟩⟩⟩<;>rcases c.argTypes.toList with _ | ⟨s,_ | ⟨t,_ | ⟨r,rs⟩⟩⟩<;>(try simp only)<;>try exact Lin.no)
  ·cases P.underlying s with
   | none=>exact Lin.no
   | some d=>
     cases d<;>(try simp only)<;>try exact Lin.no
     all_goals(refine Lin.bind xf λp=>?_;cases p<;>(try simp only)<;>first | exact Lin.no | exact Lin.pure _)
  all_goals(refine Lin.bind xf λp=>Lin.bind xf λq=>?_;cases p<;>cases q<;>(try simp only)<;>first | exact Lin.no | exact Lin.pure _)
theorem Eg {P:Program}{ρ:Operand->PV}{t:TypeId}{parts:List (Nat × Operand)}:Lin (rT P ρ t parts):=by
 unfold rT;split<;>try exact Lin.no
 split<;>try exact Lin.no
 split<;>try exact Lin.no
 exact Eh
theorem JN {P:Program}{ρ:Operand->PV}{op:Op}:Lin (λR:Res->Prop=>FY P ρ op λB f=>R (.b B f)):=by
 unfold FY;cases op<;>(try simp only)<;>try exact Lin.no
 case alloc t=>
  cases qU P t with
  | none=>exact Lin.no
  | some cs=>exact Lin.pure _
 case box t x=>cases ρ x<;>(try simp only)<;>first | exact Lin.no | exact Lin.pure _
 case buildSlice t n parts=>
  split<;>try exact Lin.no
  split<;>try exact Lin.no
  split<;>try exact Lin.no
  exact Lin.ite (Lin.pure _) Lin.no
 case makeSlice t l c=>
  split<;>try exact Lin.no
  split<;>try exact Lin.no
  split<;>try exact Lin.no
  exact Lin.bind ux λn=>Lin.bind ux λm=>Lin.and (Lin.pure _)
theorem Hc {P:Program}{ρ:Operand->PV}{rb:Nat->Option Bx}{op:Op}{ty:TypeId}:Lin (nev P ρ rb op ty):=by
 have I:Lin (λR:Res->Prop=>tj P ρ rb op ty λp=>K0 P ty p λq=>R (.v q)):=
  Lin.bind JO λp=>Lin.bind JL λq=>Lin.pure _
 unfold nev;cases op<;>(try simp only)<;>first | exact JN | exact I | skip
 exact Lin.bind Eg λp=>Lin.pure _
variable [Dfs] {av:Nat->Prop} {P:Program} {w0 w:World} {e0 e:Env} {pS pS' pB:List Nat} {a:Act} {st:St}
theorem yT (h:Rel av w0 e0 pS pB a w e st){x:Operand}(O:∀ t,x=.tmp t->t∉pS):OpdOk av a w e pB st.bx x (opd st.sl x):=by
 cases x with
 | tmp t=>
   simp only[opd];cases I:st.sl[t]? with
   | none=>rw[oA,I];exact⟨.inl rfl,trivial,by simp[PV.refs]⟩
   | some p=>rw[oA,I];have J:=O t rfl;exact⟨h.hs t p I J,h.so t p I J,h.sr t p I J⟩
 | const v=>obtain⟨U,V,Y⟩:=Eo v w (zF av pB e st.bx) e;exact⟨Y.imp id Eq.symm,U,by simp only[opd];rw[V];simp⟩
 | global g=>exact⟨.inl rfl,trivial,by simp[opd,PV.refs]⟩
 | func f=>exact⟨.inr rfl,by simp only[opd];exact trivial,by simp[opd,PV.refs,PV.refsL]⟩
theorem Bh {ρ ρ':Operand->PV} {rb rb':Nat->Option Bx} {op:Op} {ty:TypeId} {R:PV->Prop} (hρ:∀ x∈op.operands,ρ' x=ρ x)
  (J:∀ x∈op.operands,∀ k∈(ρ x).refs,rb' k=rb k):tj P ρ' rb' op ty R=tj P ρ rb op ty R:=by
 cases op<;>simp only[Op.operands]at hρ J<;>try rfl
 case move x=>simp[tj,hρ x (by simp)]
 case assign x=>simp[tj,hρ x (by simp)]
 case pick c x y=>simp[tj,hρ c (by simp),hρ x (by simp),hρ y (by simp)]
 case load t x=>
  simp only[tj,hρ x (by simp)]
  have:=J x (by simp)
  generalize ρ x=p at this;cases p<;>try rfl
  rename_i k z i o;simp only[this k (by simp[PV.refs])]
 case nilCheck x=>simp[tj,hρ x (by simp)]
 case binOp op t x y Y=>simp[tj,hρ x (by simp),hρ y (by simp)]
 case unOp op t x=>simp[tj,hρ x (by simp)]
 case convert s d x=>
  simp only[tj,hρ x (by simp)]
  have:=J x (by simp)
  generalize ρ x=p at this;cases p with
  | sb k z lo n c=>simp only[frc,pT,this k (by simp[PV.refs])]
  | dc y=>simp only[frc,pT]
  | _=>rfl
 case fieldAddr t x f=>simp[tj,hρ x (by simp)]
 case field t x f=>simp[tj,hρ x (by simp)]
 case extract x i=>simp[tj,hρ x (by simp)]
 case index t x i=>simp[tj,hρ x (by simp),hρ i (by simp)]
 case lookup t m i ok=>simp only[tj,hρ m (by simp),hρ i (by simp)]
 case makeFunc f first caps=>have hc:caps.toList.map ρ'=caps.toList.map ρ:=o7 λx O=>hρ x (by simp[oq.1 O]);simp only[tj,hc]
 case slice t x lo hi Z=>
  have I:=hρ x (by simp);have h2:lo.map ρ'=lo.map ρ:=by cases lo<;>simp;exact hρ _ (by simp)
  have U:hi.map ρ'=hi.map ρ:=by cases hi<;>simp;exact hρ _ (by simp)
  cases lo with
  | none=>simp only[tj,I,U,mI]
  | some y=>have V:ρ' y=ρ y:=hρ y (by simp);simp only[tj,I,U,V,oU]
 case indexAddr t x i=>
  simp only[tj,hρ x (by simp),hρ i (by simp)]
  have:=J x (by simp)
  generalize ρ x=p at this;cases p with
  | sb k z lo n c=>simp only[frc,this k (by simp[PV.refs])]
  | _=>rfl
 case call c=>
  have I:∀ x∈c.args.toList,ρ' x=ρ x:=λx O=>hρ x (by simp[Call.operands,oq.1 O]);simp only[tj];generalize c.args.toList=as at I;generalize c.argTypes.toList=ts;cases c.callee<;>try rfl
  rename_i b;cases b<;>try rfl
  all_goals(rcases as with _ | ⟨x,_ | ⟨y,_ | ⟨u,us⟩⟩⟩<;>rcases ts with _ | ⟨s,_ | ⟨t,_ | ⟨r,rs⟩⟩⟩<;>try rfl)
  ·simp only[I x (by simp)]
  ·simp only[I x (by simp),I y (by simp)]
  ·simp only[I x (by simp),I y (by simp)]
theorem DW {ρ ρ':Operand->PV}{z:Nat}(l:List (Nat × Operand)):∀ k,(∀ p∈l,ρ' p.2=ρ p.2)->tS z ρ' k l=tS z ρ k l:=by
 induction l with
 | nil=>intro k _;rfl
 | cons p l I=>intro k h;obtain⟨i,x⟩:=p;simp only[tS];rw[h (i,x) (by simp),I (k+1) λp J=>h p (by simp[J])]
theorem GV {ρ ρ':Operand->PV}{op:Op}{R:Bx->(Nat->PV)->Prop}(hρ:∀ x∈op.operands,ρ' x=ρ x):FY P ρ' op R=FY P ρ op R:=by
 cases op<;>simp only[Op.operands]at hρ<;>try rfl
 case box t x=>simp[FY,hρ x (by simp)]
 case buildSlice t n parts=>have:∀ z,tS z ρ' 0 parts.toList=tS z ρ 0 parts.toList:=λz=>DW _ 0 λp I=>hρ p.2 (by simp;exact⟨p.1,oq.1 I⟩);simp only[FY,this]
 case makeSlice t l c=>simp[FY,hρ l (by simp),hρ c (by simp)]
theorem AC {ρ ρ':Operand->PV} {rb rb':Nat->Option Bx} {op:Op} {ty:TypeId} {R:Res->Prop} (hρ:∀ x∈op.operands,ρ' x=ρ x)
  (I:∀ x∈op.operands,∀ k∈(ρ x).refs,rb' k=rb k):nev P ρ' rb' op ty R=nev P ρ rb op ty R:=by
 unfold nev;cases op<;>simp only<;>first
  | exact GV hρ
  | exact Bh hρ I
  | skip
 rename_i t parts;have:(parts.toList.map λ(i,x)=>(i,ρ' x))=(parts.toList.map λ(i,x)=>(i,ρ x)):=o7 λp J=>by
  have:=hρ p.2 (by simp only[Op.operands];simp;exact⟨p.1,oq.1 J⟩)
  simp[this]
 unfold rT;rw[this]
theorem BR {bx:List Bx}{v:Value}{f:FuncId}{ds:List D}(hv:ValOk av w e pB bx v (.dc (.fn f ds))):ValOk av w e pB bx v (.fn f (GA ds)):=by
 have J:=hv.1.resolve_left (by simp);obtain⟨hg,hc⟩:=hv.2.1;obtain⟨g1,g2⟩:=hg;cases g1 with
 | fn k1 k2=>
   have O:∀ d∈ds,Good w (zF av pB e bx) d:=λd hd=>⟨k2 d hd,λb U=>g2 b (by simp only[D.foot];exact zB.2 ⟨d,hd,U⟩)⟩
   refine⟨.inr ?_,?_,?_⟩
   ·rw[J];show(D.fn f ds).cv=_;simp only[PV.val,PV.val1,PV.cv,D.cv,D.cvL_eq,PV.cvs_eq,GA,nw];congr 2;refine o7 λd hd=>?_;cases d<;>rfl
   ·simp only[PV.Ok,PV.OkL_iff,GA];intro q V;obtain⟨d,hd,rfl⟩:=oP.1 V;have I:=O d hd;cases d with
    | pt ad z x=>
      obtain⟨j1,j2⟩:=id I;have Y:=j1.lt ad.block (by simp[D.foot]);cases j1 with
      | pt m1 m2 m3 m4=>exact⟨⟨m4,λb U=>j2 b (by simp[D.foot,U])⟩,m2,m1,m3,j2 _ (by simp[D.foot]),Y⟩
    | _=>exact⟨I,k1 _ hd⟩
   ·intro k hk;simp only[PV.refs,GA]at hk;obtain⟨q,V,Z⟩:=PV.refsL_mem.1 hk;obtain⟨d,hd,rfl⟩:=oP.1 V;cases d<;>simp[PV.refs]at Z
theorem GI {bx:List Bx}{t:TypeId}{v:Value}{p:PV}{R:PV->Prop}(O:ValOk av w e pB bx v p)(h:K0 P t p R):∃ q,R q/\ValOk av w e pB bx v q:=by
 unfold K0 at h;split at h
 ·rename_i x;have I:=O;obtain⟨J,U,h3⟩:=O;have J:=J.resolve_left (by simp);simp only[PV.Ok]at U;split at h
  ·obtain⟨n,rfl,h⟩:=h;exact⟨_,h,.inr J,trivial,by simp[PV.refs]⟩
  ·obtain⟨n,rfl,h⟩:=h;exact⟨_,h,.inr J,trivial,by simp[PV.refs]⟩
  ·obtain⟨n,rfl,h⟩:=h;exact⟨_,h,.inr J,trivial,by simp[PV.refs]⟩
  ·split at h
   ·obtain⟨a,es,c,rfl,h⟩:=h;exact⟨_,h,.inr J,U.1,by simp[PV.refs]⟩
   ·exact⟨_,h,I⟩
  ·split at h
   ·rename_i ad z y hh;have hg:=U.1;obtain⟨Y,Z⟩:=id hg;have V:=Y.lt ad.block (by simp[D.foot]);cases Y with
    | pt k1 k2 k3 k4=>exact⟨_,h,.inr J,⟨⟨k4,λb hb=>Z b (by simp[D.foot,hb])⟩,k2,k1,k3,Z _ (by simp[D.foot]),V⟩,by simp[PV.refs]⟩
   ·exact⟨_,h,I⟩
  ·split at h
   ·exact⟨_,h,BR I⟩
   ·exact⟨_,h,I⟩
  ·exact⟨_,h,I⟩
 ·exact⟨_,h,O⟩
theorem pA (h:Rel av w0 e0 pS pB a w e st) {o:Oper} {R:Res->Prop} (hx:∀ x∈o.op.operands,∀ t,x=.tmp t->t∉pS)
  (J:nev P (opd st.sl) (λk=>st.bx[k]?) o.op o.type R) :
  (∃ v p,(execOp a.eval o).run P w=.ok (.value v) w/\R (.v p)/\ValOk av w e pB st.bx v p) \/
  (∃ v c t B f,(execOp a.eval o).run P w=.ok (.value v) (w.alloc (.cells c t))/\R (.b B f)/\NewBox av w e pB st.bx v (w.alloc (.cells c t)) B f):=by
 have V:∀ x∈o.op.operands,OpdOk av a w e pB st.bx x (opd st.sl x):=λx O=>yT h (hx x O);have hv:tj P (opd st.sl) (λk=>st.bx[k]?) o.op o.type (λp=>K0 P o.type p λq=>R (.v q))->∃ v p,(execOp a.eval o).run P w=.ok (.value v) w/\R (.v p)/\ValOk av w e pB st.bx v p:=λJ=>by
  rw[<-Bh (ρ':=opd st.sl) (rb':=λk=>if k∈pB then none else st.bx[k]?) (λ_ _=>rfl) (λx O k U=>by simp[((V x O).rf k U).1])]at J;obtain⟨v,p,Z,h2,h3⟩:=rr h.toMem V (λk B U=>by
   split at U
   ·cases U
   ·rename_i aa;exact⟨U,aa⟩) J
  obtain⟨q,h4,h5⟩:=GI h3 h2;exact⟨v,q,Z,h4,h5⟩
 have Y:FY P (opd st.sl) o.op (λB f=>R (.b B f))->∃ v c t B f,(execOp a.eval o).run P w=.ok (.value v) (w.alloc (.cells c t))/\R (.b B f)/\NewBox av w e pB st.bx v (w.alloc (.cells c t)) B f:=λJ=>GW V J;unfold nev at J;split at J
 ·rename_i t I;exact .inr (Y (by rw[I];exact J))
 ·rename_i t x I;exact .inr (Y (by rw[I];exact J))
 ·rename_i t n ps I;exact .inr (Y (by rw[I];exact J))
 ·rename_i t l c I;exact .inr (Y (by rw[I];exact J))
 ·rename_i t parts I;obtain⟨v,p,Z,h2,h3⟩:=CE (λx O=>V x (by rw[I];exact O)) J;refine .inl ⟨v,p,?_,h2,h3⟩;obtain⟨dst,op,ty,pos,after,guard⟩:=o;simp only at I;subst I;simp[execOp,Z]
 ·exact .inl (hv J)
def St.push (st:St)(dst:Option Nat):Res->St
 | .v p=>st.put dst p
 | .b B f=>St.put { st with bx:=st.bx++[B] } dst (f st.bx.length)
def Res.isB:Res->Bool
 | .v _=>false
 | .b ..=>true
theorem Cf (h:Rel av w0 e0 pS pB a w e st){dst:Option Nat}{p:PV}:Rel av w0 e0 (dst.toList++pS) pB a w e (st.put dst p):=by
 cases dst with
 | none=>simpa [St.put]using h
 | some d=>
   have J:∀(i:Nat) (q:PV),(st.sl.set d p)[i]?=some q->i≠d->st.sl[i]?=some q:=λi q hi hd=>by rw[nf (Ne.symm hd)]at hi;exact hi
   exact { h with
    nd:=h.nd
    sz:=by simp[St.put];exact h.sz
    hs:=λi q hi I=>by simp at I;exact h.hs i q (J i q hi I.1) I.2
    so:=λi q hi I=>by simp at I;exact h.so i q (J i q hi I.1) I.2
    sr:=λi q hi I=>by simp at I;exact h.sr i q (J i q hi I.1) I.2 }
theorem Jl (h:Rel av w0 e0 pS pB a w e st) (dst:Option Nat) (r:Res) :
  Rel av w0 e0 (dst.toList++pS) (if r.isB then st.bx.length::pB else pB) a w (if r.isB then e++[none]else e) (st.push dst r):=by
 cases r with
 | v p=>exact Cf h
 | b B f=>exact Cf (vU h)
theorem St.put_same {st:St}{dst:Option Nat}{p:PV}(h:∀ d,dst=some d->d<st.sl.length->st.sl[d]?=some p):st.put dst p=st:=by
 cases dst with
 | none=>rfl
 | some d=>
   simp only[St.put];by_cases hd:d<st.sl.length
   ·have I:st.sl.set d p=st.sl:=by
     have J:=h d rfl hd;apply nI;intro i;rw[nS];split
     ·rename_i hi;subst hi;rw[J]
     ·rfl
    rw[I]
   ·rw[List.set_eq_of_length_le (by omega)]
theorem Jk (h:Rel av w0 e0 pS pB a w e st) {o:Oper} {r:Res} {k:Nat} (hx:∀ x∈o.op.operands,∀ t,x=.tmp t->t∉pS)
  (hn:nev P (opd st.sl) (λk=>st.bx[k]?) o.op o.type (λq=>q=r))
  (hd:∀ d,o.dst=some d->d<st.sl.length->st.sl[d]?=some (match r with | .v p=>p | .b _ f=>f k))
  (hk:∀ B f,r=.b B f->st.bx[k]?=some B/\k∈pB)
  (Y:∀ i,i∈pS->some i≠o.dst->i∈pS') :
  ∃ v w' e',(execOp a.eval o).run P w=.ok (.value v) w'/\Rel av w0 e0 pS' (if r.isB then pB.filter (·≠k)else pB) (a.put o.dst v) w' e' st:=by
 rcases pA h hx hn with⟨v,p,U,V,I⟩ | ⟨v,c,t,B,f,U,V,I⟩
 ·subst V;refine⟨v,w,e,U,?_⟩;have J:=yP h (dst:=o.dst) I Y;rw[St.put_same hd]at J;exact J
 ·subst V;obtain⟨Z,h6⟩:=hk B f rfl;have h8:=tg h Z h6 I;have O:k<st.bx.length:=(oC.1 Z).1;have h9:ValOk av (w.alloc (.cells c t)) (e.set k (some w.heap.size)) (pB.filter (·≠k)) st.bx v (f k):=
   ⟨.inr (I.val k _ (Env.at_set_eq (by rw[h.el];exact O))),I.fok k _ _,by rw[I.fr];simp[O]⟩
  have J:=yP h8 (dst:=o.dst) h9 Y;rw[St.put_same hd]at J;exact⟨v,_,_,U,J⟩
def Ln (cs cs':List PV):Prop:=cs'.length=cs.length/\∀(i:Nat) (p:PV),cs'[i]?=some p->p=.any\/cs[i]?=some p
def Mu (B B':Bx):Prop:=B'=.gone\/B'=B\/∃ cs cs',B=.var cs/\B'=.var cs'/\Ln cs cs'
structure St.Weak (st st':St):Prop where
 sl:∀(i:Nat) (p:PV),st'.sl[i]?=some p->p=.any\/st.sl[i]?=some p
 len:st'.sl.length<=st.sl.length
 bl:st'.bx.length=st.bx.length
 bx:∀(k:Nat) (B':Bx),st'.bx[k]?=some B'->∃ B,st.bx[k]?=some B/\Mu B B'
 N:st'.N<=st.N
 pin:st'.pin=st.pin
variable {av:Nat->Prop} {P:Program} {w0 w w':World} {e0 e:Env} {pS pS' pB:List Nat} {a:Act} {st st':St}
theorem PV.ok_any {w:World}{live:Nat->Prop}:PV.any.Ok w live:=trivial
theorem Fp (h:Rel av w0 e0 pS pB a w e st)(O:st.Weak st'):Rel av w0 e0 pS pB a w e st':=by
 have aa:st'.pins=st.pins:=by unfold St.pins;rw[O.pin]
 have I:∀ k b,Lives pB e st'.bx k b->Lives pB e st.bx k b:=λk b ⟨h1,h2,B',h3,h4⟩=>by
  obtain⟨B,h5,h6⟩:=O.bx k B' h3;refine⟨h1,h2,B,h5,?_⟩;rcases h6 with rfl | rfl | ⟨cs,cs',rfl,_⟩
  ·exact absurd rfl h4
  ·exact h4
  ·simp
 have U:∀ b,zF av pB e st'.bx b->zF av pB e st.bx b:=λb hb=>hb.imp id λ⟨k,J⟩=>⟨k,I k b J⟩
 have V:∀ p:PV,p.Ok w (zF av pB e st.bx)->p.Ok w (zF av pB e st'.bx):=λp Z=>PV.Ok.mono (λ_ _ _=>rfl) (oG _) (λb _=>U b) p Z;exact {
  el:=h.el.trans O.bl.symm
  br:=λk B' J Y=>by
   obtain⟨B,h5,h6⟩:=O.bx k B' J;have h7:=h.br k B h5 Y;rcases h6 with rfl | rfl | ⟨cs,cs',rfl,rfl,h8,h9⟩
   ·exact True.intro
   ·exact h7
   ·obtain⟨b,c,t,g1,g2,g3,g4⟩:=h7;refine⟨b,c,t,g1,g2,g3.trans h8.symm,λi p Z=>?_⟩;rcases h9 i p Z with h10 | h10
    ·exact .inl h10
    ·exact g4 i p h10
  bo := λk B' J Y=>by
   obtain⟨B,h5,h6⟩:=O.bx k B' J;have h7:=h.bo k B h5 Y;rcases h6 with rfl | rfl | ⟨cs,cs',rfl,rfl,h8,h9⟩
   ·exact True.intro
   ·exact h7.mono (λ_ _ _=>rfl) (oG _) (λb _=>U b)
   ·obtain⟨g1,g2⟩:=h7;rw[PV.OkL_iff]at g1;refine⟨PV.OkL_iff.2 λp Z=>?_,λp Z=>?_⟩
    ·obtain⟨i,hi⟩:=oS.1 Z;rcases h9 i p hi with rfl | h10
     ·exact PV.ok_any
     ·exact V p (g1 p (oB h10))
    ·obtain⟨i,hi⟩:=oS.1 Z;rcases h9 i p hi with h10 | h10
     ·exact .inl h10
     ·exact g2 p (oB h10)
  bf:=λk B' J Y j hj=>by
   obtain⟨B,h5,h6⟩:=O.bx k B' J;have h7:=h.bf k B h5 Y;rw[O.bl];rcases h6 with rfl | rfl | ⟨cs,cs',rfl,rfl,h8,h9⟩
   ·simp[Bx.refs]at hj
   ·exact h7 j hj
   ·simp only[Bx.refs]at hj;obtain⟨p,Z,hj⟩:=PV.refsL_mem.1 hj;obtain⟨i,hi⟩:=oS.1 Z;rcases h9 i p hi with rfl | h10
    ·simp[PV.refs]at hj
    ·exact h7 j (by simp only[Bx.refs];exact PV.refsL_mem.2 ⟨p,oB h10,hj⟩)
  inj:=λk j b J hj=>h.inj k j b (I k b J) (I j b hj)
  ku:=h.ku
  size:=h.size
  old:=h.old
  fz:=h.fz
  nd:=h.nd
  sz:=o8 O.len h.sz
  hN:=o8 O.N h.hN
  hs:=λi p hi Y=>by
   rcases O.sl i p hi with h1 | h1
   ·exact .inl h1
   ·exact h.hs i p h1 Y
  so:=λi p hi Y=>by
   rcases O.sl i p hi with rfl | h1
   ·exact PV.ok_any
   ·exact V p (h.so i p h1 Y)
  sr:=λi p hi Y k J=>by
   rw[O.bl];rcases O.sl i p hi with rfl | h1
   ·simp[PV.refs]at J
   ·exact h.sr i p h1 Y k J
  own:=λk b J=>by rw[aa];exact h.own k b (I k b J)
  avl:=h.avl
  avn:=λk b J=>h.avn k b (I k b J)
  pin:=λk b hb=>h.pin k b (aa ▸ hb)
  pit:=λL T hb=>h.pit L T (O.pin ▸ hb) }
theorem Fm (h:Rel av w0 e0 pS pB a w e st) (J:w.heap.size<=w'.heap.size) (hold:∀ b,b<w.heap.size->w'.heap[b]?=w.heap[b]?)
  (U:∀(b:Nat) (c:Array Value) (t:TypeId) (z:Nat × Nat),w.heap.size<=b->w'.heap[b]?=some (.cells c t z)->Fz z) (Y:KU w w':=by exact⟨rfl,rfl⟩) :
  Rel av w0 e0 pS pB a w' e { st with N:=w'.heap.size }:=by
 exact {
  el:=h.el
  br:=λk B V O=>by
   by_cases hg:B=.gone
   ·subst hg;exact True.intro
   ·exact(h.br k B V O).congr (λb I=>hold b (Lives.lt h.toMem ⟨O,I,B,V,hg⟩)) λ_ _=>rfl
  bo:=λk B V O=>(h.bo k B V O).mono (λb I _=>hold b I) J λ_ _=>id
  bf:=h.bf
  inj:=h.inj
  ku:=h.ku.trans Y
  size:=o8 h.size J
  old:=λb I O=>(hold b (om I h.size)).trans (h.old b I O)
  fz:=λb c t z I hc=>by
   by_cases Z:b<w.heap.size
   ·rw[hold b Z]at hc;exact h.fz b c t z I hc
   ·exact U b c t z (by omega) hc
  nd:=h.nd
  sz:=h.sz
  hN:=oG _
  hs:=h.hs
  so:=λi p hi hp=>PV.Ok.mono (λb I _=>hold b I) J (λ_ _=>id) p (h.so i p hi hp)
  sr:=h.sr
  own:=h.own
  avl:=h.avl
  avn:=h.avn
  pin:=h.pin
  pit:=h.pit }
theorem MX (h:Rel av w0 e0 pS pB a w e st){n:Nat}(I:n<=w.heap.size):Rel av w0 e0 pS pB a w e { st with N:=n }:={ h with hN:=I,nd:=h.nd }
theorem Ez (h:Rel av w0 e0 pS pB a w e st) {k:Nat} {B B':Bx} {x:Option Nat} (hk:st.bx[k]?=some B) (ao:k∉pB) (ah:B≠.gone)
  (ab:w.heap.size<=w'.heap.size) (hold:∀ b,b<w.heap.size->e.at k≠some b->w'.heap[b]?=w.heap[b]?)
  (hx:x=e.at k\/((∃ b,x=some b/\w.heap.size<=b)/\(∀(i:Nat) (p:PV),st.sl[i]?=some p->i∉pS->k∉p.refs)/\(∀(j:Nat) (C:Bx),st.bx[j]?=some C->j∉pB->j≠k->k∉C.refs)/\B'.isArr=true))
  (hA:B.isArr=true->B'.isArr=true) (aq:x=e.at k\/∀ b,st.pins[k]?≠some (some b))
  (hB:B'.Rel w' (e.set k x) x) (az:B'.Ok w (zF av pB e st.bx)) (a1:∀ j∈B'.refs,j∉pB/\j<st.bx.length)
  (ak:∀(b:Nat) (c:Array Value) (t:TypeId) (z:Nat × Nat),(w.heap.size<=b\/e.at k=some b)->w'.heap[b]?=some (.cells c t z)->Fz z) (a6:KU w w':=by exact⟨rfl,rfl⟩) :
  Rel av w0 e0 pS pB a w' (e.set k x) { st with bx:=st.bx.set k B' }:=by
 have al:k<st.bx.length:=(oC.1 hk).1;have a7:k<e.length:=by rw[h.el];exact al
 have ai:∀ j,j≠k->Env.at (e.set k x) j=e.at j:=λj I=>Env.at_set_ne I;have aa:Env.at (e.set k x) k=x:=Env.at_set_eq a7;have aj:∀ b,e.at k=some b->zF av pB e st.bx b:=λb V=>.inr ⟨k,ao,V,B,hk,ah⟩;have O:∀ j b,Lives pB (e.set k x) (st.bx.set k B') j b->Lives pB e st.bx j b\/(j=k/\x=some b/\w.heap.size<=b):=λj b ⟨h1,U,C,h3,h4⟩=>by
  by_cases I:j=k
  ·subst I;rw[aa]at U;rcases hx with hx | ⟨⟨b',au,aw⟩,_⟩
   ·exact .inl ⟨h1,hx ▸ U,B,hk,ah⟩
   ·rw[U]at au;cases au;exact .inr ⟨rfl,U,aw⟩
  ·rw[ai j I]at U;rw[nf (Ne.symm I)]at h3;exact .inl ⟨h1,U,C,h3,h4⟩
 have Y:∀ b,b<w.heap.size->zF av pB (e.set k x) (st.bx.set k B') b->zF av pB e st.bx b:=λb V hl=>hl.elim .inl λ⟨j,I⟩=>by
  rcases O j b I with h1 | ⟨_,_,h1⟩
  ·exact .inr ⟨j,h1⟩
  ·omega
 have Z:∀ b,b<w.heap.size->¬zF av pB e st.bx b->w'.heap[b]?=w.heap[b]?:=λb V hn=>hold b V λhc=>hn (aj b hc);have ac:∀(j:Nat) (C:Bx),(st.bx.set k B')[j]?=some C->(j=k/\C=B')\/(j≠k/\st.bx[j]?=some C):=λj C I=>by
  by_cases J:j=k
  ·subst J;rw[List.getElem?_set_self al]at I;exact .inl ⟨rfl,(nD I).symm⟩
  ·rw[nf (Ne.symm J)]at I;exact .inr ⟨J,I⟩
 have ae:∀ j,(j≠k\/x=e.at k)->Env.at (e.set k x) j=e.at j:=λj I=>by
  by_cases J:j=k
  ·subst J;rw[aa];exact I.resolve_left (by simp)
  ·exact ai j J
 have ax:∀(j:Nat) (C:Bx),st.bx[j]?=some C->j∉pB->j≠k->∀ b,e.at j=some b->C≠.gone->w'.heap[b]?=w.heap[b]?:=λj C I hn J b V hg=>by
  have hl:Lives pB e st.bx j b:=⟨hn,V,C,I,hg⟩
  exact hold b (Lives.lt h.toMem hl) λhc=>J (h.inj j k b hl ⟨ao,hc,B,hk,ah⟩)
 exact {
  el:=by simp[h.el]
  br:=λj C I hn=>by
   rcases ac j C I with⟨rfl,rfl⟩ | ⟨J,I⟩
   ·rw[aa];exact hB
   ·rw[ai j J];by_cases hg:C=.gone
    ·subst hg;exact True.intro
    refine(h.br j C I hn).congr (λb V=>ax j C I hn J b V hg) λi hi=>ae i ?_;rcases hx with hx | ⟨_,_,U,_⟩
    ·exact .inr hx
    ·exact .inl λhc=>U j C I hn J (hc ▸ hi)
  bo:=λj C I hn=>by
   rcases ac j C I with⟨rfl,rfl⟩ | ⟨J,I⟩
   ·exact az.mono Z ab Y
   ·exact(h.bo j C I hn).mono Z ab Y
  bf:=λj C I hn i hi=>by
   simp only[mj];rcases ac j C I with⟨rfl,rfl⟩ | ⟨J,I⟩
   ·exact a1 i hi
   ·exact h.bf j C I hn i hi
  inj:=λi j b hi I=>by
   rcases O i b hi with h1 | ⟨rfl,_,h1⟩
   ·rcases O j b I with U | ⟨rfl,_,U⟩
    ·exact h.inj i j b h1 U
    ·have:=Lives.lt h.toMem h1;omega
   ·rcases O j b I with U | ⟨rfl,_,U⟩
    ·have:=Lives.lt h.toMem U;omega
    ·rfl
  ku:=h.ku.trans a6
  size:=o8 h.size ab
  old:=λb V hn=>by
   refine(hold b (om V h.size) λhc=>?_).trans (h.old b V hn);rcases h.own k b ⟨ao,hc,B,hk,ah⟩with h1 | h1
   ·omega
   ·exact hn h1.1
  fz:=λb c t z V hc=>by
   by_cases a8:b<w.heap.size
   ·by_cases ay:e.at k=some b
    ·exact ak b c t z (.inr ay) hc
    ·rw[hold b a8 ay]at hc;exact h.fz b c t z V hc
   ·exact ak b c t z (.inl (by omega)) hc
  nd:=h.nd
  sz:=h.sz
  hN:=o8 h.hN ab
  hs:=λi p hi hp=>by
   rcases h.hs i p hi hp with h1 | h1
   ·exact .inl h1
   ·refine .inr (h1.trans (PV.val_congr p λj I=>ae j ?_).symm);rcases hx with hx | ⟨_,U,_⟩
    ·exact .inr hx
    ·exact .inl λhc=>U i p hi hp (hc ▸ I)
  so:=λi p hi hp=>PV.Ok.mono Z ab Y p (h.so i p hi hp)
  sr:=λi p hi hp j I=>by simp only[mj];exact h.sr i p hi hp j I
  own:=λj b I=>by
   rcases O j b I with h1 | ⟨_,_,h1⟩
   ·exact h.own j b h1
   ·exact .inl (o8 h.size h1)
  avl:=h.avl
  avn:=λj b I=>by
   rcases O j b I with h1 | ⟨_,_,h1⟩
   ·exact h.avn j b h1
   ·intro hc;have U:=h.avl.lt b hc;have h3:=h.size;omega
  pin:=λj b V=>by
   have:=h.pin j b V
   by_cases J:j=k
   ·subst J;rw[aa];rcases aq with h1 | h1
    ·rw[h1];exact this
    ·exact absurd V (h1 b)
   ·rw[ai j J];exact this
  pit:=h.pit }
def dcs (x:D)(n:Nat):List PV:=(List.range n).map λj=>.dc (x.cell j)
def stV (z o:Nat)(cs:List PV)(p:PV)(K:Bx->Prop):Prop:=
 match ub p with
 | some ps=>if ps.length=ez z/\o+ps.length<=cs.length then K (.var (vY o ps cs))else False
 | none=>False
def z6 (o:Nat)(ds cs:List D):List D:=cs.take o++ds++cs.drop (o+ds.length)
def Gj (z zz:Nat) (B:Bx) (i o:Nat) (p:PV) (K:Bx->Prop):Prop:=
 match B with
 | .var cs=>match i with
   | 0=>match p with
     | .dg n x=>if o=0/\n=cs.length/\z=n/\n≠0 then K (.vd x n)else stV z o cs p K
     | _=>stV z o cs p K
   | _+1=>False
 | .vd x n=>match i with
   | 0=>match p with
     | .dg m y=>if o=0/\m=n/\z=n/\n≠0 then K (.vd y n)else stV z o (dcs x n) p K
     | _=>stV z o (dcs x n) p K
   | _+1=>False
 | .arr t z' es c=>if zz=z' then i<es.length /\
  (if z=z'/\o=0 then(match Ea z p with
    | some d=>K (.arr t z' (es.set i d) c)
    | none=>False)
   else if z'=0 then False
   else match(ub p).bind Cj with
    | some ds=>if ds.length=ez z/\o+ds.length<=z' then K (.arr t z' (es.set i (.ag (z6 o ds (es.getD i default).cells))) c)else False
    | none=>False)else False
 | .gone=>False
def stF (P:Program)(ρ:Operand->PV)(rb:Nat->Option Bx)(t:TypeId)(x y:Operand)(K:Nat->Bx->Prop):Prop:=
 match kz P t,ρ x with
 | some z,.pb k zz i o=>match rb k with
   | some B=>Gj z zz B i o (retag P t (ρ y)) (K k)
   | none=>False
 | _,_=>False
variable {av:Nat->Prop} {P:Program} {w0 w w':World} {e0 e:Env} {pS pS' pB:List Nat} {a:Act} {st st':St}
theorem AV {t:TypeId} {z:Nat} (U:kz P t=some z) {b off:Nat} {c:Array Value} {J:TypeId} (V:w.heap[b]?=some (.cells c J (0,0))) {v:Value}
  (I:v.cells.toList.length=ez z) (Y:off+ez z<=c.size) (Z:∀ u∈v.cells.toList,u.oneCell'=true) :
  (Instr.storeAt t (.pointer (some ⟨b,off,none⟩)) v).run P w=.ok () (w.setRow b (c.toList.take off++v.cells.toList++c.toList.drop (off+ez z)).toArray):=by
 have O:=run_storeCells_at (P:=P) b off J v.cells.toList 0 c w V (by rw[I];omega) Z;rw[mV,I]at O;have hs:v.cells.size=ez z:=by simpa using I
 simp[Instr.storeAt,Instr.sureAddr,storeVar,xP U,hs,O]
theorem uo {e:Env}{k:Nat}(h:k<e.length):e.set k (e.at k)=e:=by
 apply nI;intro i;rw[nS];split
 ·rename_i hi;subst hi;simp[h,Env.at]
 ·rfl
theorem sj (h:Rel av w0 e0 pS pB a w e st) {k b:Nat} {B B':Bx} {c I:Array Value} {tb:TypeId} (hk:st.bx[k]?=some B) (U:k∉pB) (V:B≠.gone) (J:e.at k=some b)
  (hb:w.heap[b]?=some (.cells c tb (0,0))) (hA:B.isArr=true->B'.isArr=true)
  (hB:B'.Rel (w.setRow b I) e (e.at k)) (Y:B'.Ok w (zF av pB e st.bx)) (Z:∀ j∈B'.refs,j∉pB/\j<st.bx.length) :
  Rel av w0 e0 pS pB a (w.setRow b I) e { st with bx:=st.bx.set k B' }:=by
 have O:k<e.length:=by rw[h.el];exact(oC.1 hk).1
 have hs:(w.setRow b I).heap.size=w.heap.size:=by simp[World.setRow]
 have:=Ez h (w':=w.setRow b I) (x:=e.at k) hk U V (by rw[hs];exact oG _) (λj hj hn=>setRow_other w b j I (λhc=>hn (by rw[J,hc]))) (.inl rfl) hA (.inl rfl) (by rw[uo O];exact hB) Y Z λj c2 t2 z hj hc=>by
  rcases hj with hj | hj
  ·have:=(oN.1 hc).1;omega
  ·rw[J]at hj;cases hj;rw[setRow_heap w b c I tb _ hb]at hc;cases hc;exact fz0
 rwa[uo O]at this
theorem Kp {x:D}{n:Nat}(O:IsAg n x){c:Array Value}(hc:c.size=n)(h:∀(i:Nat)(u:D),x.cells[i]?=some u->c[i]?=some u.cv):CellsAre e c.toList (dcs x n):=by
 refine⟨by simp[dcs,hc],λi q I=>.inr ?_⟩;simp only[dcs,oE]at I;cases J:(List.range n)[i]? with
 | none=>simp[J]at I
 | some j=>
   rw[J]at I;simp at I;subst I;have hi:i<n:=by have:=(oC.1 J).1;simpa using this
   have U:j=i:=by have:=(oC.1 J).2;simpa using this.symm
   subst U
   have:=h j _ (O.cell hi).2
   simpa [PV.cv]using this
theorem L3 {x:D}{n:Nat}(I:IsAg n x){live:Nat->Prop}(J:Good w live x):∀ p∈dcs x n,p.Ok w live/\p.isC/\p.refs=[]:=by intro p O;obtain⟨j,U,rfl⟩:=oP.1 O;exact⟨⟨J.cell j,(I.cell (by simpa using U)).1⟩,trivial,rfl⟩
theorem Dz (h:Rel av w0 e0 pS pB a w e st) {t:TypeId} {z o k b:Nat} {B:Bx} {cs:List PV} {v:Value} {p:PV} {K:Bx->Prop} {c:Array Value} {Y:TypeId} (hz:kz P t=some z)
  (hk:st.bx[k]?=some B) (Z:k∉pB) (aa:B≠.gone) (ab:B.isArr=false) (V:e.at k=some b) (hb:w.heap[b]?=some (.cells c Y (0,0))) (J:CellsAre e c.toList cs) (I:rL av w e pB st.bx cs)
  (hv:ValOk av w e pB st.bx v p) (hs:stV z o cs p K) :
  ∃ w' B',(Instr.storeAt t (.pointer (some ⟨b,o,none⟩)) v).run P w=.ok () w'/\K B'/\Rel av w0 e0 pS pB a w' e { st with bx:=st.bx.set k B' }:=by
 unfold stV at hs;split at hs
 ·rename_i ps ac;split at hs
  ·rename_i hc;obtain⟨a1,a2,a3⟩:=y5 ac hv;have O:∀ q∈vY o ps cs,q∈cs.take o\/q∈ps\/q∈cs.drop (o+ps.length):=λq hq=>by simpa [vY]using hq
   have hl:v.cells.toList.length=ez z:=by rw[a1.1];exact hc.1
   have ae:c.size=cs.length:=by have:=J.1;simpa using this
   refine⟨_,_,AV hz hb hl (by rw[ae,<-hc.1];exact hc.2) a3,hs,sj h hk Z aa V hb (by simp[ab]) ?_ ?_ ?_⟩
   ·rw[V];refine⟨b,_,Y,rfl,setRow_heap w b c _ Y _ hb,?_,?_⟩
    ·have:=((J.take o).append a1).append (J.drop (o+ez z))
     rw[<-hc.1]at this ⊢;simpa [vY]using this.1
    ·have:=((J.take o).append a1).append (J.drop (o+ez z))
     intro i q hq;rw[<-hc.1]at this;rcases this.2 i q (by simpa [vY]using hq)with h1 | h1
     ·exact .inl h1
     ·right;rw[<-hc.1];simpa using h1
   ·refine⟨PV.OkL_iff.2 λq hq=>?_,λq hq=>?_⟩
    ·rcases O q hq with hq | hq | hq
     ·exact(I q (oW hq)).1
     ·exact(a2 q hq).1
     ·exact(I q (oa hq)).1
    ·rcases O q hq with hq | hq | hq
     ·exact(I q (oW hq)).2.1
     ·exact .inr (a2 q hq).2.1
     ·exact(I q (oa hq)).2.1
   ·intro j U;simp only[Bx.refs]at U;obtain⟨q,hq,U⟩:=PV.refsL_mem.1 U;rcases O q hq with hq | hq | hq
    ·exact(I q (oW hq)).2.2 j U
    ·exact(a2 q hq).2.2 j U
    ·exact(I q (oa hq)).2.2 j U
  ·exact hs.elim
 ·exact hs.elim
theorem Je {o:Nat} {ds cs:List D} {vs:List Value} {c:List Value} (O:ds.map D.cv=vs) (V:o+ds.length<=cs.length)
  (h:∀(i:Nat) (u:D),cs[i]?=some u->c[i]?=some u.cv) (i:Nat) (u:D) (I:(z6 o ds cs)[i]?=some u):(c.take o++vs++c.drop (o+vs.length))[i]?=some u.cv:=by
 have Y:cs.length<=c.length:=by
  by_cases Z:cs.length=0
  ·omega
  ·have:=h (cs.length - 1) _ (oF (by omega))
   have:=(oC.1 this).1;omega
 have U:vs.length=ds.length:=by rw[<-O];simp
 unfold z6 at I;rw[oL,mY]at I ⊢;simp only[nl]at I ⊢;rw[show min o cs.length=o by omega]at I;rw[show min o c.length=o by omega];split at I
 ·rename_i hi;rw[if_pos hi];rw[ou]at I ⊢;rw[if_pos hi]at I ⊢;exact h i u I
 ·rename_i hi;rw[if_neg hi];rw[mY]at I ⊢;rw[U];split at I
  ·rename_i J;rw[if_pos J,<-O,oE,I];rfl
  ·rename_i J;rw[if_neg J];rw[nP]at I ⊢;exact h _ u I
theorem BY {z:Nat} {es:List D} (h:∀ e∈es,eOk z e) {i:Nat} (hi:i<es.length) (d:D) :
  zj (es.set i d)=(zj es).take (i*ez z)++d.cells++(zj es).drop ((i+1)*ez z):=by
 induction es generalizing i with
 | nil=>simp at hi
 | cons x es J=>
   have I:=yV (h x (by simp));cases i with
   | zero=>simp only[List.set_cons_zero,xO,mb,List.take_zero,o6,nX,Nat.one_mul];rw[<-I,List.drop_left]
   | succ i=>
     simp only[oR]at hi;simp only[List.set_cons_succ,xO];rw[J (λy O=>h y (by simp[O])) (by omega)];have e1:(i+1)*ez z=x.cells.length+i*ez z:=by rw[I,nU];omega
     have U:(i+1+1)*ez z=x.cells.length+(i+1)*ez z:=by rw[I,nU (i+1)];omega
     rw[U,List.drop_length_add_append];rw[e1,List.take_length_add_append];simp only[oL,<-e1]
theorem GE {z:Nat} {es:List D} (h:∀ e∈es,eOk z e) {i o:Nat} (hi:i<es.length) {ds:List D} {vs:List Value} {c:List Value} (U:ds.map D.cv=vs) (ac:o+ds.length<=ez z)
  (hc:∀(j:Nat) (u:D),(zj es)[j]?=some u->c[j]?=some u.cv) {d:D} (hd:d.cells=z6 o ds (es.getD i default).cells) (j:Nat) (u:D) (hu:(zj (es.set i d))[j]?=some u) :
  (c.take (i*ez z+o)++vs++c.drop (i*ez z+o+vs.length))[j]?=some u.cv:=by
 have V:=zE h;have I:es[i]?=some (es.getD i default):=by simp[oA,oF hi]
 have Y:eOk z (es.getD i default):=h _ (oB I);have ae:=yV Y;have aa:(i+1)*ez z<=es.length*ez z:=ni _ hi;have ab:(i+1)*ez z=i*ez z+ez z:=by rw[nU];omega
 have Z:zj es=(zj es).take (i*ez z)++(es.getD i default).cells++(zj es).drop ((i+1)*ez z):=by
  have h1:=BY h hi (es.getD i default);rwa[show es.set i (es.getD i default)=es from by
   apply nI;intro j;rw[nS];split
   ·rename_i hj;subst hj;simp[hi,I]
   ·rfl]at h1
 have J:zj (es.set i d)=z6 (i*ez z+o) ds (zj es):=by
  rw[BY h hi d,hd];unfold z6;have O:((zj es).take (i*ez z)).length=i*ez z:=by simp;omega
  conv=>rhs;rw[Z]
  have t1:((zj es).take (i*ez z)++(es.getD i default).cells++(zj es).drop ((i+1)*ez z)).take (i*ez z+o)=(zj es).take (i*ez z)++(es.getD i default).cells.take o:=by rw[oL,List.take_append,O,List.take_append];rw[nk (by omega)];rw[show i*ez z+o - i*ez z=o by omega,show o - (es.getD i default).cells.length=0 by omega];simp
  have t2:((zj es).take (i*ez z)++(es.getD i default).cells++(zj es).drop ((i+1)*ez z)).drop (i*ez z+o+ds.length)=(es.getD i default).cells.drop (o+ds.length)++(zj es).drop ((i+1)*ez z):=by rw[oL,List.drop_append,O,List.drop_append];rw[List.drop_of_length_le (by omega)];rw[show i*ez z+o+ds.length - i*ez z=o+ds.length by omega,show o+ds.length - (es.getD i default).cells.length=0 by omega];simp
  rw[t1,t2];simp
 rw[J]at hu;exact Je U (by rw[V];omega) hc j u hu
theorem I8 {z o:Nat}{x:D}{ds:List D}(O:z≠0)(U:eOk z x)(I:∀ d∈ds,d.isCell)(V:o+ds.length<=z):eOk z (.ag (z6 o ds x.cells)):=by
 have Z:=yV U;have hc:=rg U;have Y:ez z=z:=by simp[ez,O]
 simp only[eOk,O,nO];refine⟨_,rfl,?_,λc J=>?_⟩
 ·simp[z6];omega
 ·rcases oO.1 J with h1 | h1
  ·rcases oO.1 h1 with h1 | h1
   ·exact hc c (oW h1)
   ·exact I c h1
  ·exact hc c (oa h1)
theorem Fl (h:Rel av w0 e0 pS pB a w e st) {t Y:TypeId} {z z' k b i o n:Nat} {es:List D} {v:Value} {c:Array Value} (hz:kz P t=some z)
  (hk:st.bx[k]?=some (.arr Y z' es n)) (O:k∉pB) (U:e.at k=some b) (Z:w.heap[b]?=some (.cells c Y (0,0)))
  (ak:n*ez z'<=c.size) (hn:es.length<=n) (hm:n<=maxLen) (he:∀ x∈es,eOk z' x) (hf:∀(i:Nat) (u:D),(zj es)[i]?=some u->c[i]?=some u.cv) (hi:i<es.length)
  {ds:List D} (V:ds.map D.cv=v.cells.toList) (h1:∀ u∈v.cells.toList,u.oneCell'=true) (aa:ds.length=ez z) (ab:o+ds.length<=ez z') {d:D} (hd:d.cells=z6 o ds (es.getD i default).cells)
  (ac:eOk z' d) (ae:Good w (zF av pB e st.bx) d) :
  ∃ w',(Instr.storeAt t (.pointer (some ⟨b,i*ez z'+o,none⟩)) v).run P w=.ok () w'/\Rel av w0 e0 pS pB a w' e { st with bx:=st.bx.set k (.arr Y z' (es.set i d) n) }:=by
 have I:v.cells.toList.length=ez z:=by rw[<-V];simpa using aa
 have ai:(i+1)*ez z'<=n*ez z':=ni _ (by omega);have aj:(i+1)*ez z'=i*ez z'+ez z':=by rw[nU];omega
 have ah:=h.bo k _ hk O;refine⟨_,AV hz Z I (by omega) h1,sj h hk O (by simp) U Z (λ_=>rfl) ?_ ?_ (by simp[Bx.refs])⟩
 ·rw[U];refine .inr ⟨b,_,rfl,setRow_heap w b c _ Y _ Z,?_,by simpa using hn,hm,?_,?_⟩
  ·simp only[nc,oK,nl,mK,nR,I];omega
  ·intro x J;rcases md J with J | rfl
   ·exact he x J
   ·exact ac
  ·intro j u hu
   have:=GE he hi V ab (c:=c.toList) (λj u hu=>by simpa using hf j u hu) hd j u hu
   rw[I]at this;simpa using this
 ·intro x J;rcases md J with J | rfl
  ·exact ah x J
  ·exact ae
theorem AS (h : Rel av w0 e0 pS pB a w e st) {t:TypeId} {z zz k i o:Nat} {B:Bx} {v:Value} {p:PV} {K:Bx->Prop} (hz:kz P t=some z)
  (hk:st.bx[k]?=some B) (hkp:k∉pB) (hv:ValOk av w e pB st.bx v p) (hs:Gj z zz B i o p K) :
  ∃ w' B',(Instr.storeAt t (.pointer (some ⟨(e.at k).getD 0,i*ez zz+o,none⟩)) v).run P w=.ok () w'/\K B'/\Rel av w0 e0 pS pB a w' e { st with bx:=st.bx.set k B' }:=by
 have hr:=h.br k B hk hkp;have hok:=h.bo k B hk hkp;have hrf:=h.bf k B hk hkp;have whole:∀(n:Nat) (x:D) (b:Nat) (c:Array Value) (tb:TypeId),B≠.gone->B.isArr=false->e.at k=some b->w.heap[b]?=some (.cells c tb (0,0))->c.size=n->p=.dg n x->o=0->i=0->z=n->n≠0->K (.vd x n) ->
   ∃ w' B',(Instr.storeAt t (.pointer (some ⟨(e.at k).getD 0,i*ez zz+o,none⟩)) v).run P w=.ok () w'/\K B'/\Rel av w0 e0 pS pB a w' e { st with bx:=st.bx.set k B' }:=by
  intro n x b c tb hng hnA hat hb hcs hp ho hi hzn hn0 hK;subst hp;subst ho;subst hi;subst hzn;have hv1:=hv.1.resolve_left (by simp);obtain⟨hg,ha⟩:=hv.2.1;have hvc:v.cells.toList=x.cells.map D.cv:=by rw[hv1];simp only[PV.val,PV.val1,ha.val,Value.cells]
  have hez:ez z=z:=by simp[ez,hn0]
  have hvl:v.cells.toList.length=ez z:=by rw[hvc,hez];simpa using ha.length
  have h1:∀ u∈v.cells.toList,u.oneCell'=true:=by rw[hvc];intro u hu;obtain⟨y,hy,rfl⟩:=oP.1 hu;obtain⟨cs,rfl,_,hc⟩:=ha;exact yU (hc y hy)
  refine⟨_,_,by rw[hat];simp only[nA,mb,mV];exact AV hz hb hvl (by omega) h1,hK,sj h hk hkp hng hat hb (by simp[hnA]) ?_ hg (by simp[Bx.refs])⟩;rw[hat];refine⟨b,_,tb,rfl,setRow_heap w b c _ tb _ hb,?_,ha,?_⟩
  ·simp only[nc,oK,nl,mK,nR,hvl];omega
  ·intro j u hu;have hlt:j<x.cells.length:=(oC.1 hu).1;simp only[List.take_zero,o6,List.getElem?_toArray];rw[oJ (by rw[hvc];simpa using hlt),hvc,oE,hu];rfl
 cases B with
 | gone=>exact hs.elim
 | var cs=>
   obtain⟨b,c,tb,h1,h2,h3,h4⟩:=hr;obtain⟨ho1,ho2⟩:=hok;rw[PV.OkL_iff]at ho1;simp only[Bx.refs]at hrf;have hca:CellsAre e c.toList cs:=⟨by simpa using h3,fun i p hp=>by simpa [J4]using h4 i p hp⟩
   have hco:rL av w e pB st.bx cs:=fun q hq=>⟨ho1 q hq,ho2 q hq,fun j hj=>hrf j (PV.refsL_mem.2 ⟨q,hq,hj⟩)⟩
   have go:i=0->stV z o cs p K->∃ w' B',(Instr.storeAt t (.pointer (some ⟨(e.at k).getD 0,i*ez zz+o,none⟩)) v).run P w=.ok () w'/\K B'/\Rel av w0 e0 pS pB a w' e { st with bx:=st.bx.set k B' }:=fun hi hs2=>by
    subst hi
    have:=Dz h hz hk hkp (by simp) rfl h1 h2 hca hco hv hs2
    simpa [h1]using this
   simp only[Gj]at hs;split at hs
   ·split at hs
    ·split at hs
     ·rename_i n x hc;exact whole n x b c tb (by simp) rfl h1 h2 (by omega) rfl hc.1 rfl hc.2.2.1 hc.2.2.2 hs
     ·exact go rfl hs
    ·exact go rfl hs
   ·exact hs.elim
 | vd x n=>
   obtain⟨b,c,tb,h1,h2,h3,h4,h5⟩:=hr;have hca:CellsAre e c.toList (dcs x n):=Kp h4 h3 h5;have hco:rL av w e pB st.bx (dcs x n):=fun q hq=>by obtain⟨a1,a2,a3⟩:=L3 h4 hok q hq;exact⟨a1,.inr a2,by rw[a3];simp⟩
   have go:i=0->stV z o (dcs x n) p K->∃ w' B',(Instr.storeAt t (.pointer (some ⟨(e.at k).getD 0,i*ez zz+o,none⟩)) v).run P w=.ok () w'/\K B'/\Rel av w0 e0 pS pB a w' e { st with bx:=st.bx.set k B' }:=fun hi hs2=>by
    subst hi
    have:=Dz h hz hk hkp (by simp) rfl h1 h2 hca hco hv hs2
    simpa [h1]using this
   simp only[Gj]at hs;split at hs
   ·split at hs
    ·split at hs
     ·rename_i m y hc;obtain⟨hc1,hc2,hc3,hc4⟩:=hc;subst hc2;exact whole _ y b c tb (by simp) rfl h1 h2 h3 rfl hc1 rfl hc3 hc4 hs
     ·exact go rfl hs
    ·exact go rfl hs
   ·exact hs.elim
 | arr tb z' es n=>
   simp only[Gj]at hs;split at hs
   ·rename_i hzz;subst hzz;obtain⟨hi,hs⟩:=hs;rcases hr with⟨_,h2,_⟩ | ⟨b,c,h1,h2,h3,h4,h5,h6,h7⟩
    ·subst h2;simp at hi
    have hge:es[i]?=some (es.getD i default):=by simp[oA,oF hi]
    have heo:eOk zz (es.getD i default):=h6 _ (oB hge);have hgo:Good w (zF av pB e st.bx) (es.getD i default):=hok _ (oB hge);have hel:=yV heo;rw[h1];simp only[nA];split at hs
    ·rename_i hc;obtain⟨rfl,rfl⟩:=hc;split at hs
     ·rename_i d hd;obtain⟨g1,g2,g3⟩:=rj (e:=e) hd hv.2.1;have hpne:p≠.any:=fun hp=>by subst hp;simp[Ea,u7]at hd
      have hv1:=hv.1.resolve_left hpne;have hvc:v.cells.toList=d.cells.map D.cv:=by
       rw[hv1,<-g3];cases d with
       | lit x=>
         simp only[D.val,D.cells,nE,mc,D.cv];by_cases hz0:z=0
         ·simp[eOk,hz0,D.isCell]at g2;cases x<;>simp[Value.cells,Value.oneCell']at g2 ⊢
         ·simp[eOk,hz0,IsAg]at g2
       | ag cs=>simp[D.val,D.cells,Value.cells]
       | sl aa zz' es' cap=>simp[D.val,D.cells,Value.cells,D.cv]
       | pt ad' zz' x'=>simp[D.val,D.cells,Value.cells,D.cv]
       | fn f' caps'=>simp[D.val,D.cells,Value.cells,D.cv]
       | mp b' es' c'=>simp[D.val,D.cells,Value.cells,D.cv]
      have hdl:d.cells.length=ez z:=yV g2;obtain⟨w',r1,r2⟩:=Fl h hz hk hkp h1 h2 h3 h4 h5 h6 h7 hi (ds:=d.cells) (o:=0) hvc.symm (by rw[hvc];intro u hu;obtain⟨y,hy,rfl⟩:=oP.1 hu;exact yU (rg g2 y hy)) hdl (by omega) (d:=d) (by rw[z6,nX,hdl,List.drop_of_length_le (by omega)];simp) g2 g1;exact⟨w',_,r1,hs,r2⟩
     ·exact hs.elim
    ·split at hs
     ·exact hs.elim
     ·rename_i hz0;split at hs
      ·rename_i ds hds;split at hs
       ·rename_i hc;cases hps:ub p with
        | none=>rw[hps]at hds;cases hds
        | some ps=>
          rw [hps]at hds;simp only[oI]at hds;obtain⟨a1,a2,a3⟩:=y5 hps hv;obtain⟨b1,b2⟩:=vF (e:=e) hds (PV.OkL_iff.2 fun q hq=>(a2 q hq).1);have hvc:ds.map D.cv=v.cells.toList:=by
           rw[b2,PV.cvs_eq];apply nI;intro j;rw[oE];cases hj:ps[j]? with
           | none=>have:v.cells.toList[j]?=none:=oh (by rw[a1.1];exact np.1 hj);rw[this];rfl
           | some q=>
             have:=(a1.2 j q hj).resolve_left (fun hq=>by
              have:=(a2 q (oB hj)).2.1
              rw[hq]at this;exact this)
             rw[this];rfl
          have hezz:ez zz=zz:=by simp[ez,hz0]
          obtain⟨w',r1,r2⟩:=Fl h hz hk hkp h1 h2 h3 h4 h5 h6 h7 hi (ds:=ds) (o:=o) hvc a3 hc.1 (by rw[hezz];exact hc.2) (d:=.ag (z6 o ds (es.getD i default).cells)) rfl
           (I8 hz0 heo (fun d hd=>(b1 d hd).2) hc.2) (Good.ag fun d hd=>by
            rcases oO.1 hd with hd | hd
            ·rcases oO.1 hd with hd | hd
             ·exact hgo.cells d (oW hd)
             ·exact(b1 d hd).1
            ·exact hgo.cells d (oa hd))
          exact⟨w',_,r1,hs,r2⟩
       ·exact hs.elim
      ·exact hs.elim
   ·exact hs.elim
theorem IM (h:Rel av w0 e0 pS pB a w e st) {t:TypeId} {x y:Operand} {K:Nat->Bx->Prop} (O:∀ i,x=.tmp i->i∉pS) (U:∀ i,y=.tmp i->i∉pS)
  (hs:stF P (opd st.sl) (λk=>st.bx[k]?) t x y K) :
  ∃ w' k B',(Instr.storeAt t (a.eval x) (a.eval y)).run P w=.ok () w'/\K k B'/\Rel av w0 e0 pS pB a w' e { st with bx:=st.bx.set k B' }:=by
 have ox:=yT h O;have V:=(yT h U).valOk.retag (P:=P) t;unfold stF at hs;split at hs
 ·rename_i z k zz i o Y Z;rw[Z]at ox;have I:=ox.h.resolve_left (by simp);have J:=ox.rf k (by simp[PV.refs]);split at hs
  ·rename_i B hB;rw[I];obtain⟨w',B',r1,r2,r3⟩:=AS h Y hB J.1 V hs;exact⟨w',k,B',r1,r2,r3⟩
  ·exact hs.elim
 ·exact hs.elim
def PV.kill (k:Nat)(p:PV):PV:=if p.refs.contains k then .any else p
def Bx.kill (k:Nat):Bx->Bx
 | .var cs=>.var (cs.map (PV.kill k))
 | B=>B
def St.kill (k:Nat)(st:St):St:={ st with sl:=st.sl.map (PV.kill k),bx:=st.bx.map (Bx.kill k) }
theorem PV.kill_cases (k:Nat)(p:PV):p.kill k=.any\/(p.kill k=p/\k∉p.refs):=by
 unfold PV.kill;split
 ·exact .inl rfl
 ·rename_i h;exact .inr ⟨rfl,by simpa using h⟩
theorem ui (k:Nat) (st:St):st.Weak (st.kill k) where
 sl := λi p hi=>by
  simp only[St.kill,oE]at hi;cases h:st.sl[i]? with
  | none=>simp[h]at hi
  | some q=>
    simp[h]at hi;rcases PV.kill_cases k q with h1 | h1
    ·exact .inl (by rw[<-hi,h1])
    ·exact .inr (by rw[<-hi,h1.1])
 len:=by simp[St.kill]
 bl:=by simp[St.kill]
 bx := λj B' I=>by
  simp only[St.kill,oE]at I;cases h:st.bx[j]? with
  | none=>simp[h]at I
  | some B=>
    simp[h]at I;refine⟨B,rfl,?_⟩;cases B with
    | var cs=>
      refine .inr (.inr ⟨cs,_,rfl,I.symm,by simp,λi p hi=>?_⟩);simp only[oE]at hi;cases J:cs[i]? with
      | none=>simp[J]at hi
      | some q=>
        simp[J]at hi;rcases PV.kill_cases k q with h1 | h1
        ·exact .inl (by rw[<-hi,h1])
        ·exact .inr (by rw[<-hi,h1.1])
    | _=>exact .inr (.inl I.symm)
 N:=oG _
 pin:=rfl
theorem p7 {k:Nat}{st:St}:(∀(i:Nat)(p:PV),(st.kill k).sl[i]?=some p->k∉p.refs)/\∀(j:Nat)(B:Bx),(st.kill k).bx[j]?=some B->k∉B.refs:=by
 constructor
 ·intro i p hi;simp only[St.kill,oE]at hi;cases h:st.sl[i]? with
  | none=>simp[h]at hi
  | some q=>
    simp[h]at hi;subst hi;rcases PV.kill_cases k q with h1 | h1
    ·rw[h1];simp[PV.refs]
    ·rw[h1.1];exact h1.2
 ·intro j B I;simp only[St.kill,oE]at I;cases h:st.bx[j]? with
  | none=>simp[h]at I
  | some C=>
    simp[h]at I;subst I;cases C with
    | var cs=>
      intro hc;simp only[Bx.kill,Bx.refs]at hc;obtain⟨p,O,J⟩:=PV.refsL_mem.1 hc;obtain⟨q,_,rfl⟩:=oP.1 O;rcases PV.kill_cases k q with h1 | h1
      ·rw[h1]at J;simp[PV.refs]at J
      ·rw[h1.1]at J;exact h1.2 J
    | _=>simp[Bx.kill,Bx.refs]
theorem JI {k:Nat}{st:St}{j:Nat}{t:TypeId}{z n:Nat}{es:List D}(h:st.bx[j]?=some (.arr t z es n)):(st.kill k).bx[j]?=some (.arr t z es n):=by simp[St.kill,oE,h,Bx.kill]
def F3 (g:Bool)(rb:Nat->Option Bx)(q:PV)(R:Nat->List D->Prop):Prop:=
 match q with
 | .sb k z lo n _=>match rb k with
   | some (.arr _ z' es _)=>match g with
     | false=>if z=z'/\lo=0/\n=es.length then R z es else False
     | true=>if z=z' then lo+n<=es.length/\R z ((es.drop lo).take n)else False
   | _=>False
 | .sv _ z es _=>R z es
 | _=>False
def zOk (P:Program)(el:TypeId)(z:Nat):Bool:=
 match qU P el with
 | some cs=>cs.length==ez z
 | none=>false
def zK (es new:List D)(bytes:Nat):Prop:=(es++new).length*bytes<=140737488355328
def Ll (a:Option Addr)(es:List D)(c:Nat)(new:List D):Prop:=match a,c with
 | none,0=>True
 | _,_=>c=es.length/\new≠[]
def pinned (st:St)(k:Nat):Bool:=match st.pins[k]? with
 | some (some _)=>true
 | _=>false
def capG (g:Bool)(n c:Nat)(A:Prop):Prop:=match g with
 | false=>A
 | true=>n<=c->A
theorem capG.of {g:Bool}{n c:Nat}{A:Prop}(h:capG g n c A)(hc:n<=c):A:=by
 cases g
 ·exact h
 ·exact h hc
theorem capG.mono {g:Bool}{n c:Nat}{A B:Prop}(h:capG g n c A)(I:A->B):capG g n c B:=by
 cases g
 ·exact I h
 ·exact λhc=>I (h hc)
def apF (g:Bool) (P:Program) (st:St) (dst:Option Nat) (t:TypeId) (x y:Operand) (K:St->Prop):Prop:=
 match P.underlying t with
 | some (.slice el)=>match kz P el,P.info? el with
   | some z,some i=>if i.bytes=0\/zOk P el z=false then False else
     F3 g (λk=>st.bx[k]?) (retag P t (opd st.sl y)) λz2 new=>if z2=z then
      match retag P t (opd st.sl x)with
      | .sb k I lo n c=>match pinned st k with
        | true=>False
        | false=>match st.bx[k]? with
        | some (.arr J z' es O)=>if I=z/\z'=z/\lo=0/\J=el then
         (n=es.length/\c=O)/\zK es new i.bytes/\∀ c2,capG g (es++new).length c2 (K (St.put { st.kill k with bx:=(st.kill k).bx.set k (.arr el z (es++new) c2) } dst (.sb k z 0 (es++new).length c2)))else False
        | _=>False
      | .sv a I es c=>if I=z then
            Ll a es c new/\zK es new i.bytes/\∀ c2,K (St.put { st with bx:=st.bx++[.arr el z (es++new) c2] } dst (.sb st.bx.length z 0 (es++new).length c2))else False
      | _=>False
     else False
   | _,_=>False
 | _=>False
variable {av:Nat->Prop} {P:Program} {w0 w w':World} {e0 e:Env} {pS pS' pB:List Nat} {a:Act} {st st':St}
theorem sO {w:World}{ad:Addr}(hs:ad.spot=none){c:Array Value}{t:TypeId}{fz:Nat × Nat}(h:w.heap[ad.block]?=some (.cells c t fz))(j:Nat):w.cell? (ad.add j)=c[ad.off+j]?:=by obtain⟨b,o,s⟩:=ad;simp only at hs h ⊢;subst hs;rw[xJ];exact wq h
theorem JA {z:Nat}{es:List D}(h:∀ e∈es,eOk z e){lo n:Nat}(O:lo<=es.length){j:Nat}{u:D}(J:(zj ((es.drop lo).take n))[j]?=some u):(zj es)[lo*ez z+j]?=some u:=by
 have e1:es=es.take lo++((es.drop lo).take n++(es.drop lo).drop n):=by rw[nK,nK]
 have I:(zj (es.take lo)).length=lo*ez z:=by rw[zE (z:=z) λx U=>h x (oW U),nl,Nat.min_eq_left O]
 rw[e1,yJ,oT (by rw[I];exact Nat.le_add_right _ _),I,Nat.add_sub_cancel_left,yJ,oJ (oC.1 J).1];exact J
theorem EM {g:Bool} (h:Mem av pB w e st.bx) {v:Value} {q:PV} {R:Nat->List D->Prop} (hv:ValOk av w e pB st.bx v q) (hs:F3 g (λk=>st.bx[k]?) q R) :
  ∃ z new,R z new/\(∀ x∈new,eOk z x/\Good w (zF av pB e st.bx) x) /\
    ((∃ c,v=.slice none new.length c/\new=[])\/∃ ad c,v=.slice (some ad) new.length c/\∀(j:Nat) (u:Value),((zj new).map D.cv)[j]?=some u->w.cell? (ad.add j)=some u):=by
 unfold F3 at hs;split at hs
 ·rename_i k z lo n c;split at hs
  ·rename_i t z' es cb hk;split at hs
   rotate_left
   ·split at hs
    rotate_left
    ·exact hs.elim
    rename_i hc;subst hc;obtain⟨ae,hs⟩:=hs;have U:=(hv.2.2 k (by simp[PV.refs])).1;have hr:=h.br k _ hk U;have ab:=h.bo k _ hk U;have I:=hv.1.resolve_left (by simp);have ac:((es.drop lo).take n).length=n:=by simp;omega
    rcases hr with⟨Y,Z,h3⟩ | ⟨b,c',Y,Z,h3,h4,h5,h6,h7⟩
    ·subst Z;have ah:n=0:=by simp at ae;omega
     subst ah;refine⟨z,[],by simpa using hs,by simp,.inl ⟨c,?_,rfl⟩⟩;rw[I];simp[PV.val,PV.val1,PV.cv,Y]
    ·have aa:∀ x∈(es.drop lo).take n,x∈es:=λx V=>oa (oW V);refine⟨z,_,hs,λx V=>⟨h6 x (aa x V),ab x (aa x V)⟩,.inr ⟨⟨b,lo*ez z,none⟩,c,?_,λj u J=>?_⟩⟩
     ·rw[I,ac];simp[PV.val,PV.val1,PV.cv,Y]
     ·rw[sO rfl Z];simp only[oE]at J;cases O:(zj ((es.drop lo).take n))[j]? with
      | none=>simp[O]at J
      | some d=>simp[O]at J;subst J;exact h7 _ d (JA h6 (by omega) O)
   split at hs
   ·rename_i hc;obtain⟨rfl,rfl,rfl⟩:=hc;have U:=(hv.2.2 k (by simp[PV.refs])).1;have hr:=h.br k _ hk U;have ab:=h.bo k _ hk U;have I:=hv.1.resolve_left (by simp);rcases hr with⟨Y,Z,h3⟩ | ⟨b,c',Y,Z,h3,h4,h5,h6,h7⟩
    ·subst Z;refine⟨z,[],hs,by simp,.inl ⟨c,?_,rfl⟩⟩;rw[I];simp[PV.val,PV.val1,PV.cv,Y]
    ·refine⟨z,es,hs,λx V=>⟨h6 x V,ab x V⟩,.inr ⟨⟨b,0,none⟩,c,?_,λj u J=>?_⟩⟩
     ·rw[I];simp[PV.val,PV.val1,PV.cv,Y]
     ·rw[sO rfl Z];simp only[oE]at J;cases O:(zj es)[j]? with
      | none=>simp[O]at J
      | some d=>simp[O]at J;subst J;simpa using h7 j d O
   ·exact hs.elim
  ·exact hs.elim
 ·rename_i ad z es c;have I:=hv.1.resolve_left (by simp);have hg:=hv.2.1;simp only[PV.Ok]at hg;obtain⟨hh,ai⟩:=id hg;cases hh with
  | nil=>exact⟨z,[],hs,by simp,.inl ⟨0,by rw[I];rfl,rfl⟩⟩
  | sl Y Z h3 h4 h5=>
    rename_i ad;refine⟨z,es,hs,λx V=>⟨h3 x V,hg.elem V⟩,.inr ⟨ad,c,by rw[I];rfl,λj u J=>?_⟩⟩;simp only[oE]at J;cases O:(zj es)[j]? with
    | none=>simp[O]at J
    | some d=>
      simp[O]at J;subst J;rcases h5 with h5 | ⟨cc,t,fz,h6,h7⟩
      ·rw[h5]at O;simp at O
      ·rw[sO (Y λh=>by subst h;simp[zj]at O) h6];exact h7 j d O
 ·exact hs.elim
theorem AQ (t ty el:TypeId) (i:TypeInfo) (I:P.underlying t=some (.slice el)) (hi:P.info? el=some i) (b:Option Addr) (n c c2:Nat) (J:n<=c) :
  (Builtin.append_ #[t,t] ty #[.slice b n c,.slice none 0 c2]).run P w=.ok (.slice b n c) w:=by
 cases b<;>simp[Builtin.append_,run_underlying I,sizeOf,typeInfo,hi,Builtin.lenOf,J,Builtin.firstCells,loadCells,loadCellsFrom,storeCells]
theorem pq {z:Nat}{es:List D}(h:∀ e∈es,eOk z e):∀ u∈(zj es).map D.cv,u.oneCell'=true:=by intro u I;obtain⟨d,hd,rfl⟩:=oP.1 I;exact yU (Ed h d hd)
theorem F2 {t:TypeId}{z:Nat}(h:zOk P t z=true):∃ i v,P.info? t=some i/\i.zero=some v/\v.cells.size=ez z:=by
 unfold zOk at h;split at h
 ·rename_i cs I;obtain⟨i,v,J,O,U,_⟩:=xh I
  have:=(U default []).1
  exact⟨i,v,J,O,by simp at h this;omega⟩
 ·cases h
theorem yG {l1 l2 l3:List Value}{ds1 I:List D}(O:l1=ds1.map D.cv)(U:l2=I.map D.cv)(i:Nat)(u:D)(V:(ds1++I)[i]?=some u):(l1++l2++l3)[i]?=some u.cv:=by have J:i<(ds1++I).length:=(oC.1 V).1;rw[oJ (by subst O;subst U;simpa using J),O,U,<-mP,oE,V];rfl
theorem qC (h:Rel av w0 e0 pS pB a w e st) {el:TypeId} {z n:Nat} {es:List D} {c:Array Value} (hp:st.bx.length∉pB) (J:∀ x∈es,eOk z x/\Good w (zF av pB e st.bx) x)
  (hc:c.size=n*ez z) (hn:es.length<=n) (hm:n<=maxLen) (hf:∀(i:Nat) (u:D),(zj es)[i]?=some u->c[i]?=some u.cv)
  {w2:World} (I:w2.heap=w.heap) {dst:Option Nat} (ab:∀ i,i∈pS->some i≠dst->i∈pS') (ac:KU w w2:=by exact⟨rfl,rfl⟩) :
  Rel av w0 e0 pS' pB (a.put dst (.slice (some ⟨w.heap.size,0,none⟩) es.length n)) (w2.alloc (.cells c el)) (e++[some w.heap.size]) (St.put { st with bx:=st.bx++[.arr el z es n] } dst (.sb st.bx.length z 0 es.length n)):=by
 have O:Rel av w0 e0 pS pB a w2 e st:=by
  have:=Fm h (w':=w2) (by rw[I];exact oG _) (λb _=>by rw[I]) (λb c t z hb hc=>by rw[I]at hc;have:=(oN.1 hc).1;omega) ac
  exact MX this (by show st.N<=_;rw[I];exact h.hN)
 have V:∀ x∈es,eOk z x/\Good w2 (zF av pB e st.bx) x:=λx U=>⟨(J x U).1,(J x U).2.mono (λb _ _=>by rw[I]) (λ_ _=>id)⟩
 have ae:=vU O (B:=.arr el z es n);have hL:∀ b,zF av (st.bx.length::pB) (e++[none]) (st.bx++[.arr el z es n]) b->zF av pB e st.bx b:=λb hb=>sZ (hb.imp id λ⟨k,hk⟩=>⟨k,(y3 h.el).1 hk⟩);have nb:NewBox av w2 (e++[none]) (st.bx.length::pB) (st.bx++[.arr el z es n]) (.slice (some ⟨w2.heap.size,0,none⟩) es.length n) (w2.alloc (.cells c el)) (.arr el z es n) (λk=>.sb k z 0 es.length n):={
  val:=λk e' he=>by simp[PV.val,PV.val1,PV.cv,he]
  fr:=λk=>by simp[PV.refs]
  fok:=λk w live=>trivial
  rel:=λe' _=>.inr ⟨w2.heap.size,c,rfl,heap_alloc_new w2 _,Nat.le_of_eq hc.symm,hn,hm,λx U=>(J x U).1,hf⟩
  ok:=λx U=>(V x U).2.mono (λ_ _ _=>rfl) (λb _=>hL b)
  rf:=by simp[Bx.refs]
  ng:=by simp }
 have Y:=tg ae (k:=st.bx.length) (B:=.arr el z es n) (by simp) (by simp) nb;have Z:(st.bx.length::pB).filter (·≠st.bx.length)=pB:=by rw[List.filter_cons];simp only[ne_eq,ny,decide_false,nh,nO];exact List.filter_eq_self.2 λk hk=>by simp;intro hc;exact hp (hc ▸ hk)
 have aa:(e++[none]).set st.bx.length (some w2.heap.size)=e++[some w2.heap.size]:=by rw[<-h.el,List.set_append_right _ _ (oG _)];simp
 rw[Z,aa,I]at Y;refine yP Y (dst:=dst) (p:=.sb st.bx.length z 0 es.length n) ⟨.inr ?_,trivial,?_⟩ ab
 ·have:Env.at (e++[some w.heap.size]) st.bx.length=some w.heap.size:=by rw[<-h.el];exact Env.at_append_eq
  simp[PV.val,PV.val1,PV.cv,this]
 ·simp[PV.refs];exact hp
theorem u6 (h:Rel av w0 e0 pS pB a w e st) {el:TypeId} {z:Nat} (hp:st.bx.length∉pB) :
  Rel av w0 e0 pS pB a w (e++[none]) { st with bx:=st.bx++[.arr el z [] 0] }:=by
 have I:=vU h (B:=.arr el z [] 0);have aa:Env.at (e++[none]) st.bx.length=none:=by rw[<-h.el];exact Env.at_append_eq
 have U:∀ k,k∈(st.bx.length::pB)↔k=st.bx.length\/k∈pB:=λk=>by simp
 have J:∀ k b,Lives pB (e++[none]) (st.bx++[.arr el z [] 0]) k b->Lives (st.bx.length::pB) (e++[none]) (st.bx++[.arr el z [] 0]) k b:=λk b ⟨h1,h2,h3⟩=>by
  refine⟨?_,h2,h3⟩;rw[U]
  rintro(h4 | h4)
  ·rw[h4,aa]at h2;cases h2
  ·exact h1 h4
 have V:∀ b,zF av pB (e++[none]) (st.bx++[.arr el z [] 0]) b->zF av (st.bx.length::pB) (e++[none]) (st.bx++[.arr el z [] 0]) b:=λb hb=>hb.imp id λ⟨k,O⟩=>⟨k,J k b O⟩
 have Y:∀(B:Bx),(st.bx++[.arr el z [] 0])[st.bx.length]?=some B->B=.arr el z [] 0:=λB hB=>by simp at hB;exact hB.symm
 exact {
  el:=I.el
  br:=λk B O hn=>by
   by_cases Z:k=st.bx.length
   ·subst Z;rw[Y B O];exact .inl ⟨aa,rfl,rfl⟩
   ·exact I.br k B O (by rw[U];rintro(h4 | h4)<;>contradiction)
  bo:=λk B O hn=>by
   by_cases Z:k=st.bx.length
   ·subst Z;rw[Y B O];intro x hx;simp at hx
   ·exact(I.bo k B O (by rw[U];rintro(h4 | h4)<;>contradiction)).mono (λ_ _ _=>rfl) (oG _) λb _=>V b
  bf:=λk B O hn j hj=>by
   by_cases Z:k=st.bx.length
   ·subst Z;rw[Y B O]at hj;simp[Bx.refs]at hj
   ·have:=I.bf k B O (by rw[U];rintro(h4 | h4)<;>contradiction) j hj
    exact⟨λhc=>this.1 (by simp[hc]),this.2⟩
  inj:=λk j b O hj=>I.inj k j b (J k b O) (J j b hj)
  ku:=I.ku
  size:=I.size
  old:=I.old
  fz:=I.fz
  nd:=I.nd
  sz:=I.sz
  hN:=I.hN
  hs:=I.hs
  so:=λi p hi hn=>PV.Ok.mono (λ_ _ _=>rfl) (oG _) (λb _=>V b) p (I.so i p hi hn)
  sr:=λi p hi hn k O=>by
   have:=I.sr i p hi hn k O
   exact⟨λhc=>this.1 (by simp[hc]),this.2⟩
  own:=λk b O=>I.own k b (J k b O)
  avl:=I.avl
  avn:=λk b O=>I.avn k b (J k b O)
  pin:=λk b hb=>by have:=I.pin k b hb;exact⟨this.1,λhc=>this.2 (by simp[hc])⟩
  pit:=I.pit }
variable {av:Nat->Prop} {P:Program} {w0 w w':World} {e0 e:Env} {pS pS' pB:List Nat} {a:Act} {st st':St}
theorem BM {es new:List D}{bytes:Nat}(h:zK es new bytes)(I:bytes≠0):(es++new).length<=140737488355328:=by unfold zK at h;have:(es++new).length*1<=(es++new).length*bytes:=Nat.mul_le_mul_left _ (by omega);omega
theorem Holds.sl_inv {w:World} {a:Option Addr} {z:Nat} {es:List D} {cap:Nat} (h:Holds w (.sl a z es cap)) :
  es.length<=cap/\(∀ x∈es,eOk z x)/\((a=none/\es=[]/\cap=0)\/∃ ad,a=some ad/\(zj es≠[]->ad.spot=none)/\Row w ad (zj es)):=by
 cases h with
 | nil=>exact⟨oG _,by simp,.inl ⟨rfl,rfl,rfl⟩⟩
 | sl I J O Y U=>exact⟨J,O,.inr ⟨_,rfl,λV=>I (Ky V),U⟩⟩
theorem IE {w:World}{ad:Addr}{ds:List D}(hs:ds≠[]->ad.spot=none)(h:Row w ad ds)(j:Nat)(u:Value)(J:(ds.map D.cv)[j]?=some u):w.cell? (ad.add j)=some u:=by
 simp only[oE]at J;cases I:ds[j]? with
 | none=>simp[I]at J
 | some d=>
   simp[I]at J;subst J;rcases h with O | ⟨Y,t,fz,U,V⟩
   ·rw[O]at I;simp at I
   ·rw[sO (hs λh=>by rw[h]at I;simp at I) U];exact V j d I
def Nb (w:World)(x:Option Nat):Prop:=∀ b,x=some b->∃ I t,w.heap[b]?=some (.cells I t (0,0))
def Mv (w:World)(x:Option Nat)(w':World):Prop:=∀(b:Nat) (c:Array Value) (t:TypeId) (z:Nat × Nat),(w.heap.size<=b\/x=some b)->w'.heap[b]?=some (.cells c t z)->Fz z
theorem K1 {x:Option Nat}(h:Nb w x):Mv w x w:=λb c t z hb hc=>by
 rcases hb with hb | hb
 ·have:=(oN.1 hc).1;omega
 ·obtain⟨I,O,J⟩:=h b hb;rw[J]at hc;cases hc;exact fz0
theorem FR {x:Option Nat}(h:Nb w x){w2:World}(I:w2.heap=w.heap){c0:Array Value}{t0:TypeId}:Mv w x (w2.alloc (.cells c0 t0)):=λb c t z hb hc=>by
 by_cases J:b<w.heap.size
 ·rw[sE (by rw[I];exact J),I]at hc;rcases hb with hb | hb
  ·omega
  ·obtain⟨U,Y,V⟩:=h b hb;rw[V]at hc;cases hc;exact fz0
 ·have O:b=w2.heap.size:=by have:=(oN.1 hc).1;simp at this;rw[I]at this ⊢;omega
  subst O;rw[DI]at hc;cases hc;exact fz0
theorem MA {b0:Nat}{I J:Array Value}{t0:TypeId}(h:w.heap[b0]?=some (.cells I t0 (0,0))):Mv w (some b0) (w.setRow b0 J):=λb c t z hb hc=>by
 rcases hb with hb | hb
 ·have:=(oN.1 hc).1;simp[World.setRow]at this;omega
 ·cases hb;rw[setRow_heap w b0 I J t0 _ h]at hc;cases hc;exact fz0
theorem Er {k:Nat}(h:pinned st k=false):∀ b,(st.kill k).pins[k]?≠some (some b):=λb I=>by have I:st.pins[k]?=some (some b):=I;unfold pinned at h;rw[I]at h;cases h
theorem qj (t tx ty e:TypeId) (i:TypeInfo) (ht:P.underlying t=some (.slice e)) (hi:P.info? e=some i)
  (g sLen sCap:Nat) (cur:Array Value) (hg:w.heap[g]?=some (.cells cur e (0,0))) (x:Value) (n:Nat) (news:List Value) (hs:Src P i.size tx x n news w)
  (hroom:sLen+n<=sCap) (hfit:sLen*i.size+news.length<=cur.size) :
  (Builtin.append_ #[t,tx] ty #[.slice (some ⟨g,0,none⟩) sLen sCap,x]).run P w =
   .ok (.slice (some ⟨g,0,none⟩) (sLen+n) sCap) (w.setRow g (cur.toList.take (sLen*i.size)++news++cur.toList.drop (sLen*i.size+news.length)).toArray):=by
 have hst:=run_storeCells_at P g (sLen*i.size) e news 0 cur w hg (by simpa using hfit) hs.one;simp only[mV]at hst;rcases hs.kind with⟨e',hk⟩ | hk<;>simp[Builtin.append_,run_underlying ht,run_underlying hk,sizeOf,typeInfo,hi,hs.len,hroom,hs.cells,Addr.add_lit,hst]
theorem pP (h:Rel av w0 e0 pS pB a w e st) {dst:Option Nat} {t tx ty el:TypeId} {i:TypeInfo} {zv:Value} {z:Nat} (ac:P.underlying t=some (.slice el)) (hi:P.info? el=some i) (aq:i.zero=some zv) (au:zv.cells.size=ez z) (V:i.size=ez z) (a7:i.bytes≠0)
  {vx vy:Value} {k c:Nat} {es new:List D} (ox:ValOk av w e pB st.bx vx (.sb k z 0 es.length c)) (a8:pinned st k=false) (hk:st.bx[k]?=some (.arr el z es c)) (O:∀ x∈new,eOk z x/\Good w (zF av pB e st.bx) x) (hS:Src P i.size tx vy new.length ((zj new).map D.cv) w)
  (aa:zK es new i.bytes) (ba:∀ i,i∈pS->some i≠dst->i∈pS') :
  ∃ v w' e' c2,(Builtin.append_ #[t,tx] ty #[vx,vy]).run P w=.ok v w'/\(es++new).length<=c2/\Rel av w0 e0 pS' pB (a.put dst v) w' e' (St.put { st.kill k with bx:=(st.kill k).bx.set k (.arr el z (es++new) c2) } dst (.sb k z 0 (es++new).length c2)):=by
 have ae:((zj new).map D.cv).length=new.length*ez z:=by simp[zE λx hx=>(O x hx).1]
 have ah:=(ox.2.2 k (by simp[PV.refs])).1;have aj:k<st.bx.length:=(oC.1 hk).1;have bb:k<e.length:=by rw[h.el];exact aj
 have hr:=h.br k _ hk ah;have bc:=h.bo k _ hk ah;have aw:=ox.1.resolve_left (by simp);have ax:=BM aa a7;have bd:=Fp h (ui k st);have bg:=JI (k:=k) hk;obtain⟨bh,bi⟩:=p7 (k:=k) (st:=st);have ak:∀ b,zF av pB e (st.kill k).bx b->zF av pB e st.bx b:=λb U=>U.imp id λ⟨j,j1,j2,B,j3,j4⟩=>by
  obtain⟨B0,g1,g2⟩:=(ui k st).bx j B j3;refine⟨j,j1,j2,B0,g1,λhc=>?_⟩;subst hc;rcases g2 with g2 | g2 | ⟨_,_,g2,_⟩
  ·exact j4 g2
  ·exact j4 g2
  ·cases g2
 have fin:∀(xx:Option Nat) (w':World) (c2:Nat) (v:Value),(∀ e':Env,Env.at e' k=xx->v=(PV.sb k z 0 (es++new).length c2).val e') ->
   (w.heap.size<=w'.heap.size)->(∀ b,b<w.heap.size->e.at k≠some b->w'.heap[b]?=w.heap[b]?)->(xx=e.at k\/∃ b,xx=some b/\w.heap.size<=b) ->
   Bx.Rel w' (e.set k xx) xx (.arr el z (es++new) c2)->(∀(b:Nat) (c:Array Value) (t:TypeId) (z:Nat × Nat),(w.heap.size<=b\/e.at k=some b)->w'.heap[b]?=some (.cells c t z)->Fz z)->KU w w'->(Builtin.append_ #[t,tx] ty #[vx,vy]).run P w=.ok v w' ->
   ∃ v w' e' c2,(Builtin.append_ #[t,tx] ty #[vx,vy]).run P w=.ok v w'/\(es++new).length<=c2/\Rel av w0 e0 pS' pB (a.put dst v) w' e' (St.put { st.kill k with bx:=(st.kill k).bx.set k (.arr el z (es++new) c2) } dst (.sb k z 0 (es++new).length c2)):=by
  intro xx w' c2 v hv V hold hx hB bj bm I;have ay:Bx.Ok w (zF av pB e (st.kill k).bx) (.arr el z (es++new) c2):=λx hx=>by
   rcases oO.1 hx with hx | hx
   ·exact(bc x hx).mono (λ_ _ _=>rfl) (λb _=>ak b)
   ·exact(O x hx).2.mono (λ_ _ _=>rfl) (λb _=>ak b)
  have bn:=Ez bd (w':=w') (x:=xx) bg ah (by simp) V hold
   (hx.imp id λU=>⟨U,λi p hi _=>bh i p hi,λj C hj _ _=>bi j C hj,rfl⟩) (λ_=>rfl) (.inr (Er a8)) hB ay (by simp[Bx.refs]) bj bm
  refine⟨v,w',_,c2,I,?_,yP bn (dst:=dst) ⟨.inr (hv _ (Env.at_set_eq bb)),trivial,?_⟩ ba⟩
  ·rcases hB with⟨_,g2,_⟩ | ⟨_,_,_,_,_,g4,_⟩
   ·rw[g2];simp
   ·exact g4
  simp[PV.refs,St.kill,ah,aj]
 have bp:(es++new).length*ez z=(zj es).length+new.length*ez z:=by
  rw[oK,nU];congr 1;rcases hr with⟨_,h2,_⟩ | ⟨b,cc,h1,h2,h3,h4,h5,h6,h7⟩
  ·subst h2;simp[zj]
  ·rw[zE h6]
 rcases hr with⟨h1,h2,h3⟩ | ⟨b,Y,h1,h2,h3,h4,h5,h6,h7⟩
 ·-- no row yet
  subst h2;subst h3;have ab:vx=.slice none 0 0:=by rw[aw];simp[PV.val,PV.val1,PV.cv,h1]
  by_cases hm:new.length=0
  ·have bq:new=[]:=oV hm;subst bq;refine fin none w 0 (.slice none 0 0) (λe' he=>by simp[PV.val,PV.val1,PV.cv,he]) (oG _) (λ_ _ _=>rfl) (.inl h1.symm) (.inl ⟨rfl,by simp,rfl⟩) (K1 (λb U=>by rw[h1]at U;cases U)) .rfl ?_;have g1:=hS.len w;have g2:=hS.cells;simp only[o5,zj,mc]at g1 g2;rw[ab];rcases hS.kind with⟨e',hk2⟩ | hk2<;>simp[Builtin.append_,run_underlying ac,run_underlying hk2,sizeOf,typeInfo,hi,g1,g2]
  ·have bt:0<new.length:=by omega
   unfold zK at aa;simp only[o6]at aa ax;have I:=run_append_grow_src (P:=P) w t tx ty el i zv ac hi aq none 0 0 [] (run_firstCells_none w.drew i.size 0 0 0) vy new.length ((zj new).map D.cv) hS (by omega) (by omega) (by rw[nX,nextslicecap_zero bt];omega);simp only[nX,o6]at I;refine fin (some w.heap.size) _ (grownCap w new.length 0 el) (.slice (some ⟨w.heap.size,0,none⟩) new.length (grownCap w new.length 0 el)) (λe' he=>by simp[PV.val,PV.val1,PV.cv,he]) (by simp) (λb U _=>sE (w:=w.drew) U) (.inr ⟨_,rfl,oG _⟩) ?_ (FR (w2:=w.drew) (λb U=>by rw[h1]at U;cases U) rfl) ⟨rfl,rfl⟩ (by rw[ab];exact I);have al:=grownCap_ge w new.length 0 el;have ao:=grownCap_le_maxLen w new.length 0 el (by unfold maxLen;omega);refine .inr ⟨w.heap.size,_,rfl,heap_alloc_new w.drew _,?_,by simpa using al,ao,λx hx=>(O x (by simpa using hx)).1,λj u Z=>?_⟩
   ·simp only[mG,nc,size_zeroCells,au,ae,<-nU];refine ni _ ?_;omega
   ·have:=yG (l1:=[]) (l3:=(Builtin.zeroCells zv.cells (grownCap w new.length 0 el - new.length)).toList) (ds1:=[]) rfl rfl j u (by simpa using Z)
    rw[<-nF];simpa using this
 ·have ab:vx=.slice (some ⟨b,0,none⟩) es.length c:=by rw[aw];simp[PV.val,PV.val1,PV.cv,h1]
  have az:∀(j:Nat) (u:Value),((zj es).map D.cv)[j]?=some u->Y[j]?=some u:=λj u Z=>by
   simp only[oE]at Z;cases hf:(zj es)[j]? with
   | none=>simp[hf]at Z
   | some d=>simp[hf]at Z;subst Z;exact h7 j d hf
  ·by_cases J:es.length+new.length<=c
   ·have a1:es.length*i.size+((zj new).map D.cv).length<=Y.size:=by rw[ae,V,<-nU];exact o8 (ni _ J) h3
    have I:=qj (P:=P) t tx ty el i ac hi b es.length c Y h2 vy new.length ((zj new).map D.cv) hS J a1;refine fin (some b) _ c (.slice (some ⟨b,0,none⟩) (es.length+new.length) c) (λe' he=>by simp[PV.val,PV.val1,PV.cv,he]) (by simp[World.setRow]) (λj hj hn=>setRow_other w b j _ (λhc=>hn (by rw[h1,hc]))) (.inl h1.symm) ?_ (by intro b' c' t2 z U hc;rw[h1]at U;exact MA h2 b' c' t2 z U hc) ⟨rfl,rfl⟩ (by rw[ab];exact I);have a6:=zE h6;refine .inr ⟨b,_,rfl,setRow_heap w b Y _ el _ h2,?_,by simpa using J,h5,λx hx=>?_,λj u Z=>?_⟩
    ·have ai:(es.length+new.length)*ez z<=c*ez z:=ni _ J;rw[nU]at ai;simp only[nc,oK,nl,mK,nR,ae,V];omega
    ·rcases oO.1 hx with hx | hx
     ·exact h6 x hx
     ·exact(O x hx).1
    ·rw[yJ]at Z;have bv:Y.toList.take (es.length*i.size)=(zj es).map D.cv:=by
      apply nI;intro q;rw[ou];split
      ·rename_i hq;rw[V,<-a6]at hq
       have:=az q _ (by rw[oE,oF hq];rfl)
       rw[nF,this,oE,oF hq];rfl
      ·rename_i hq;rw[V,<-a6]at hq;rw[oh (by simp;omega)]
     have:=yG (l3:=Y.toList.drop (es.length*i.size+((zj new).map D.cv).length)) bv rfl j u Z
     simpa using this
   ·unfold zK at aa;rw[oK]at aa ax;have I:=run_append_grow_src (P:=P) w t tx ty el i zv ac hi aq (some ⟨b,0,none⟩) es.length c ((zj es).map D.cv) (run_firstCells_some w.drew i.size es.length ⟨b,0,none⟩ es.length c _ (by simp[zE h6,V]) (λj u Z=>by rw[sO rfl (w:=w.drew) (c:=Y) (t:=el) (fz:=(0,0)) h2];simpa using az j u Z))
     vy new.length ((zj new).map D.cv) hS (by omega) (by omega) (growslice_fits (by omega) aa)
    rw[show((zj es).map D.cv++(zj new).map D.cv).toArray=((zj es).map D.cv).toArray++((zj new).map D.cv).toArray by simp]at I;refine fin (some w.heap.size) _ (grownCap w (es.length+new.length) c el) (.slice (some ⟨w.heap.size,0,none⟩) (es.length+new.length) (grownCap w (es.length+new.length) c el)) (λe' he=>by simp[PV.val,PV.val1,PV.cv,he]) (by simp) (λj hj _=>sE (w:=w.drew) hj) (.inr ⟨_,rfl,oG _⟩) ?_ (FR (w2:=w.drew) (λb' U=>by rw[h1]at U;cases U;exact⟨_,_,h2⟩) rfl) ⟨rfl,rfl⟩ (by rw[ab];exact I);have al:=grownCap_ge w (es.length+new.length) c el;have ao:=grownCap_le_maxLen w (es.length+new.length) c el (by unfold maxLen;omega);refine .inr ⟨w.heap.size,_,rfl,heap_alloc_new w.drew _,?_,by simpa using al,ao,λx hx=>?_,λj u Z=>?_⟩
    ·simp only[mG,nc,size_zeroCells,au,ae,nZ,zE h6,<-nU];refine ni _ ?_;omega
    ·rcases oO.1 hx with hx | hx
     ·exact h6 x hx
     ·exact(O x hx).1
    ·rw[yJ]at Z
     have:=yG (l3:=(Builtin.zeroCells zv.cells (grownCap w (es.length+new.length) c el - (es.length+new.length))).toList) rfl rfl j u Z
     rw[<-nF];simpa using this
theorem Gv {g:Bool} (h:Rel av w0 e0 pS pB a w e st) (hpl:∀ k∈pB,k<st.bx.length) {dst:Option Nat} {t ty:TypeId} {x y:Operand} {K:St->Prop}
  (hx:∀ i,x=.tmp i->i∉pS) (hy:∀ i,y=.tmp i->i∉pS) (hps:∀ i,i∈pS->some i≠dst->i∈pS') (hs:apF g P st dst t x y K) :
  ∃ v w' e' st',(Builtin.append_ #[t,t] ty #[a.eval x,a.eval y]).run P w=.ok v w'/\K st'/\Rel av w0 e0 pS' pB (a.put dst v) w' e' st':=by
 have hnp:st.bx.length∉pB:=fun hc=>Nat.lt_irrefl _ (hpl _ hc);unfold apF at hs;split at hs
 rotate_left
 ·exact hs.elim
 rename_i el hel;split at hs
 rotate_left
 ·exact hs.elim
 rename_i z i hz hi;split at hs
 ·exact hs.elim
 rename_i hbz;have hby:i.bytes≠0:=fun hc=>hbz (.inl hc);have hzs:zOk P el z=true:=by
  cases hh:zOk P el z with
  | true=>rfl
  | false=>exact absurd (.inr hh) hbz
 obtain⟨i',zv,hi',hzv,hzc⟩:=F2 hzs;rw[hi]at hi'
 have:=nD hi'
 subst this;have hsz:i.size=ez z:=by obtain⟨i',h1,h2⟩:=ro hz;rw[hi]at h1;cases h1;exact h2
 have oy:=(yT h hy).valOk.retag (P:=P) t;have ox:=(yT h hx).valOk.retag (P:=P) t;generalize a.eval y=vy at oy ⊢;generalize a.eval x=vx at ox ⊢;obtain⟨z2,new,hs,hnew,hsrc⟩:=EM h.toMem oy hs;split at hs
 rotate_left
 ·exact hs.elim
 rename_i hz2;subst hz2;have hnl:((zj new).map D.cv).length=new.length*ez z2:=by simp[zE fun x hx=>(hnew x hx).1]
 have hn1:=pq fun x hx=>(hnew x hx).1;split at hs
 ·-- onto a row of the call's own
  rename_i k z1 lo n c hq;rw[hq]at ox;split at hs
  ·exact hs.elim
  rename_i hpn;split at hs
  rotate_left
  ·exact hs.elim
  rename_i t' z' es c' hk;split at hs
  rotate_left
  ·exact hs.elim
  rename_i hc;obtain⟨rfl,rfl,rfl,rfl⟩:=hc;obtain⟨⟨rfl,rfl⟩,hbd,hK⟩:=hs;have hS:Src P i.size t vy new.length ((zj new).map D.cv) w:=by
   rcases hsrc with⟨c2,rfl,rfl⟩ | ⟨ad,c2,rfl,hcell⟩
   ·exact Src.ofNil w hel c2
   ·exact Src.ofSlice w hel ad _ c2 _ (by rw[hnl,hsz]) hcell hn1
  obtain⟨v,w',e',c2,g1,g2,g3⟩:=pP h (ty:=ty) hel hi hzv hzc hsz hby ox hpn hk hnew hS hbd hps;exact⟨v,w',e',_,g1,(hK c2).of g2,g3⟩
 ·-- onto a slice that is left as it is
  rename_i av' z1 es c hq;rw[hq]at ox;split at hs
  rotate_left
  ·exact hs.elim
  rename_i hc;subst hc;obtain⟨hnil,hbd,hK⟩:=hs;have hv1:=ox.1.resolve_left (by simp);have hg:=ox.2.1;simp only[PV.Ok]at hg;obtain⟨i1,i2,i3⟩:=hg.1.sl_inv;have hle:=BM hbd hby;have hes:∀ x∈es++new,eOk z1 x/\Good w (zF av pB e st.bx) x:=fun x hx=>by
   rcases oO.1 hx with hx | hx
   ·exact⟨i2 x hx,hg.elem hx⟩
   ·exact hnew x hx
  rcases i3 with⟨rfl,rfl,rfl⟩ | ⟨ad0,rfl,i4,i5⟩
  ·have hvx:vx=.slice none 0 0:=by rw[hv1];rfl
   have nothing:new=[]->(Builtin.append_ #[t,t] ty #[vx,vy]).run P w=.ok (.slice none 0 0) w->∃ v w' e' st',(Builtin.append_ #[t,t] ty #[vx,vy]).run P w=.ok v w'/\K st'/\Rel av w0 e0 pS' pB (a.put dst v) w' e' st':=fun hne hrun=>by
    subst hne;have hat:Env.at (e++[none]) st.bx.length=none:=by rw[<-h.el];exact Env.at_append_eq
    refine⟨_,w,_,_,hrun,hK 0,yP (u6 h (el:=el) (z:=z1) hnp) (dst:=dst) (p:=.sb st.bx.length z1 0 0 0) ⟨.inr (by simp[PV.val,PV.val1,PV.cv,hat]),trivial,by simp[PV.refs];exact hnp⟩ hps⟩
   rcases hsrc with⟨c2,hvy,hne⟩ | ⟨ad,c2,hvy,hcell⟩
   ·exact nothing hne (by subst hne;rw[hvx,hvy];exact AQ (P:=P) (w:=w) t ty el i hel hi none 0 0 c2 (oG _))
   ·by_cases hm:new.length=0
    ·have hne:new=[]:=oV hm;exact nothing hne (by subst hne;rw[hvx,hvy];simp[Builtin.append_,run_underlying hel,sizeOf,typeInfo,hi,Builtin.lenOf,Builtin.firstCells,loadCells,loadCellsFrom])
    ·have hlt:0<new.length:=by omega
     unfold zK at hbd;simp only[o6]at hbd hle;have hrun:=run_append_nil (P:=P) w t ty el i zv hel hi hzv ad new.length c2 ((zj new).map D.cv) (by rw[hnl,hsz]) hcell hlt (by omega) (by omega);have hge:=grownCap_ge w new.length 0 el;have hcm:=grownCap_le_maxLen w new.length 0 el (by unfold maxLen;omega);have hfin:=qC h (el:=el) (z:=z1) (n:=grownCap w new.length 0 el) (es:=[]++new) (c:=(((zj new).map D.cv).toArray++Builtin.zeroCells zv.cells (grownCap w new.length 0 el - new.length))) hnp hes
      (by simp only[mG,nc,size_zeroCells,hzc,hnl,<-nU];congr 1;omega) (by simpa using hge) hcm (fun j u hu=>by
       have:=yG (l1:=[]) (l3:=(Builtin.zeroCells zv.cells (grownCap w new.length 0 el - new.length)).toList) (ds1:=[]) rfl rfl j u (by simpa using hu)
       rw[<-nF];simpa using this) (w2:=w.drew) rfl (dst:=dst) hps
     exact⟨_,_,_,_,by rw[hvx,hvy];exact hrun,hK (grownCap w new.length 0 el),hfin⟩
  ·have hcl:c=es.length/\new≠[]:=hnil;obtain⟨rfl,hne⟩:=hcl;have hlt:0<new.length:=me.2 hne;have hvx:vx=.slice (some ad0) es.length es.length:=by rw[hv1];rfl
   rcases hsrc with⟨c2,hvy,hne'⟩ | ⟨ad,c2,hvy,hcell⟩
   ·exact absurd hne' hne
   ·unfold zK at hbd;rw[oK]at hbd hle;have hrun:=run_append_grow (P:=P) w t ty el i zv hel hi hzv ad0 es.length es.length ((zj es).map D.cv) (by simp[zE i2,hsz]) (fun j u hu=>IE i4 i5 j u hu)
     ad new.length c2 ((zj new).map D.cv) (by rw[hnl,hsz]) hcell (by omega) (by omega) (growslice_fits (by omega) hbd)
    have hge:=grownCap_ge w (es.length+new.length) es.length el;have hcm:=grownCap_le_maxLen w (es.length+new.length) es.length el (by unfold maxLen;omega);have hfin:=qC h (el:=el) (z:=z1) (n:=grownCap w (es.length+new.length) es.length el) (es:=es++new)
     (c:=(((zj es).map D.cv).toArray++((zj new).map D.cv).toArray++Builtin.zeroCells zv.cells (grownCap w (es.length+new.length) es.length el - (es.length+new.length)))) hnp hes
     (by simp only[mG,nc,size_zeroCells,hzc,hnl,nZ,zE i2,<-nU];congr 1;omega) (by simpa using hge) hcm (fun j u hu=>by
      rw[yJ]at hu
      have:=yG (l3:=(Builtin.zeroCells zv.cells (grownCap w (es.length+new.length) es.length el - (es.length+new.length))).toList) rfl rfl j u hu
      rw[<-nF];simpa using this) (w2:=w.drew) rfl (dst:=dst) hps
    have hKK:=hK (grownCap w (es.length+new.length) es.length el);rw[oK]at hfin hKK;exact⟨_,_,_,_,by rw[hvx,hvy];exact hrun,hKK,hfin⟩
 ·exact hs.elim
variable {av:Nat->Prop} {P:Program} {w0 w w':World} {e0 e:Env} {pS pS' pB:List Nat} {a:Act} {st st':St}
def IR (st:St) (dst:Option Nat) (K:St->Prop):Prop:=
 match dst with
 | some d=>match st.sl[d]? with
   | some (.sb k z lo n c)=>match st.bx[k]? with
     | some (.arr t z' es I)=>match Nat.beq lo 0 with
       | true=>n<=es.length/\K { st with bx:=st.bx.set k (.arr t z' (es.take n) I) }
       | false=>False
     | _=>False
   | _=>K st
 | none=>K st
theorem Fo (h:Rel av w0 e0 pS pB a w e st) {k:Nat} {t:TypeId} {z c:Nat} {es es':List D} (Y:st.bx[k]?=some (.arr t z es c)) (J:k∉pB)
  (Z:es'.length<=es.length) (I:∀ x∈es',x∈es) (hf:∀(i:Nat) (u:D),(zj es')[i]?=some u->(zj es)[i]?=some u) :
  Rel av w0 e0 pS pB a w e { st with bx:=st.bx.set k (.arr t z es' c) }:=by
 have U:k<e.length:=by rw[h.el];exact(oC.1 Y).1
 have hr:=h.br k _ Y J;have aa:=h.bo k _ Y J
 have:=Ez h (w':=w) (x:=e.at k) (B':=.arr t z es' c) Y J (by simp) (oG _) (λ_ _ _=>rfl) (.inl rfl) (λ_=>rfl) (.inl rfl) ?_ (λx hx=>aa x (I x hx)) (by simp[Bx.refs]) (λb c2 t2 z2 hb hc=>?_) .rfl
 ·rwa[uo U]at this
 ·rw[uo U];rcases hr with⟨O,V,h3⟩ | ⟨b,cc,O,V,h3,h4,h5,h6,h7⟩
  ·subst V;have:es'=[]:=oV (by simpa using Z);subst this;exact .inl ⟨O,rfl,h3⟩
  ·exact .inr ⟨b,cc,O,V,h3,by omega,h5,λx hx=>h6 x (I x hx),λi u hu=>h7 i u (hf i u hu)⟩
 ·rcases hb with hb | hb
  ·have:=(oN.1 hc).1;omega
  ·rcases hr with⟨O,_⟩ | ⟨b',cc,O,V,_⟩
   ·rw[O]at hb;cases hb
   ·rw[O]at hb;cases hb;rw[V]at hc;cases hc;exact fz0
theorem CQ (es:List D)(n:Nat)(i:Nat)(u:D)(h:(zj (es.take n))[i]?=some u):(zj es)[i]?=some u:=by
 have I:zj es=zj (es.take n)++zj (es.drop n):=by rw[<-yJ,nK]
 rw[I,oJ (oC.1 h).1];exact h
theorem E6 {K:St->Prop}{dst:Option Nat}(h:Rel av w0 e0 pS [] a w e st)(hs:IR st dst K):∃ st',K st'/\Rel av w0 e0 pS [] a w e st'/\st'.bx.length=st.bx.length:=by
 unfold IR at hs;split at hs
 ·split at hs
  ·split at hs
   ·rename_i t z' es U I;split at hs
    ·obtain⟨V,J⟩:=hs;exact⟨_,J,Fo h I (by simp) (by simp;omega) (λx O=>oW O) (CQ es _),by simp⟩
    ·exact hs.elim
   ·exact hs.elim
  ·exact⟨st,hs,h,rfl⟩
 ·exact⟨st,hs,h,rfl⟩
theorem Aw {el:TypeId}{zd:D}(w:World)(h:Gn P el 0=some zd):∃ i J,P.info? el=some i/\i.zero=some J/\J.cells.toList=[zd.cv]/\zd.isCell/\∀(w:World)(live:Nat->Prop),Good w live zd:=by
 unfold Gn at h;split at h
 ·rename_i cs V;obtain⟨i2,J,Y,Z,I,O,_⟩:=xh V;simp only[nu]at h;split at h
  ·rename_i p;obtain⟨_,q2,q3,q4,_⟩:=yX (w:=w) (e:=[]) h (O w (λ_=>False) p (by simp)).1;refine⟨i2,J,Y,Z,?_,q2,λw live=>(yX (w:=w) (e:=[]) h (O w live p (by simp)).1).1⟩;have U:=(I w []).2 0 p rfl;have aa:p≠.any:=λhh=>by subst hh;exact q4
   have U:=U.resolve_left aa;have ab:J.cells.toList.length=1:=(I w []).1
   match ac:J.cells.toList,ab with
   | [v0],_=>rw[ac]at U;simp at U;rw[U,q3]
  ·cases h
 ·cases h
def HG (P:Program) (st:St) (dst:Option Nat) (t:TypeId) (x:Operand) (K:St->Prop):Prop:=
 match P.underlying t with
 | some (.slice el)=>match kz P el,Gn P el 0 with
   | some 0,some zd=>match opd st.sl x with
     | .sb k z lo n c=>match st.bx[k]? with
       | some (.arr I z' es J)=>match Nat.beq z 0&&Nat.beq z' 0 with
         | true=>lo+n<=es.length/\K (St.put { st with bx:=st.bx.set k (.arr I 0 (es.take lo++(List.replicate n zd++es.drop (lo+n))) J) } dst (.tp []))
         | false=>False
       | _=>False
     | _=>False
   | _,_=>False
 | _=>False
theorem xW {I:Value}{v:Value}(h:I.cells.toList=[v])(n:Nat):(Builtin.zeroCells I.cells n).toList=List.replicate n v:=by
 have:I.cells=#[v]:=by apply nN.1;simpa using h
 rw[this];simp[Builtin.zeroCells];apply List.ext_getElem
 ·simp
 ·intro i J O;simp[Nat.mod_one]
theorem w7:∀ {es:List D},(∀ x∈es,x.isCell)->zj es=es
 | [],_=>rfl
 | x::es,h=>by
   rw[xO,w7 λy I=>h y (by simp[I])]
   have:=h x (by simp)
   cases x<;>simp[D.isCell]at this<;>rfl
theorem Ch {t ty el:TypeId} {i:TypeInfo} {V v:Value} {b lo n c:Nat} {w':World} (I:P.underlying t=some (.slice el)) (hi:P.info? el=some i) (J:i.zero=some V) (O:V.cells.toList=[v]) (Y:0<n)
  (U:(storeCells ⟨b,lo,none⟩ (List.replicate n v)).run P w=.ok () w'):(Builtin.clear_ #[t] ty #[.slice (some ⟨b,lo,none⟩) n c]).run P w=.ok (.tuple #[]) w':=by
 obtain⟨m,rfl⟩:∃ m,n=m+1:=⟨n - 1,by omega⟩
 simp[Builtin.clear_,run_underlying I,xj hi J,xW O,U]
theorem EX (h:Rel av w0 e0 pS pB a w e st) {dst:Option Nat} {t ty:TypeId} {x:Operand} {K:St->Prop} (hx:∀ i,x=.tmp i->i∉pS) (ai:∀ i,i∈pS->some i≠dst->i∈pS') (hs:HG P st dst t x K) :
  ∃ v w' st',(Builtin.clear_ #[t] ty #[a.eval x]).run P w=.ok v w'/\K st'/\Rel av w0 e0 pS' pB (a.put dst v) w' e st'/\∃ k B,(∃ z lo n c,opd st.sl x=.sb k z lo n c)/\st'=St.put { st with bx:=st.bx.set k B } dst (.tp []):=by
 unfold HG at hs;split at hs
 rotate_left
 ·exact hs.elim
 rename_i el ab;split at hs
 rotate_left
 ·exact hs.elim
 rename_i zd ax aj;split at hs
 rotate_left
 ·exact hs.elim
 rename_i k z lo n c hp;split at hs
 rotate_left
 ·exact hs.elim
 rename_i t' z' es c' hk;split at hs
 rotate_left
 ·exact hs.elim
 rename_i hz;simp only[oM]at hz;obtain⟨rfl,rfl⟩:z=0/\z'=0:=⟨nB hz.1,nB hz.2⟩
 obtain⟨ak,hK⟩:=hs;have ox:=yT h hx;rw[hp]at ox;have U:=(ox.rf k (by simp[PV.refs])).1;have hv:=ox.h.resolve_left (by simp);obtain⟨i,zv,hi,al,ao,I,V⟩:=Aw w aj;have ay:k<e.length:=by rw[h.el];exact(oC.1 hk).1
 have hr:=h.br k _ hk U;have ac:=h.bo k _ hk U;have put:∀ w2,Rel av w0 e0 pS pB a w2 e { st with bx:=st.bx.set k (.arr t' 0 (es.take lo++(List.replicate n zd++es.drop (lo+n))) c') }->Rel av w0 e0 pS' pB (a.put dst (.tuple #[])) w2 e (St.put { st with bx:=st.bx.set k (.arr t' 0 (es.take lo++(List.replicate n zd++es.drop (lo+n))) c') } dst (.tp [])):=λw2 Y=>yP Y ⟨.inr (by simp[PV.val,PV.val1,PV.cvs]),by simp[PV.Ok,PV.OkL],by simp[PV.refs,PV.refsL]⟩ ai;rcases mE n with hn0 | hn0
 ·subst hn0;refine⟨.tuple #[],w,_,?_,hK,put w ?_,k,_,⟨_,_,_,_,hp⟩,rfl⟩
  ·rw[hv];cases hb:e.at k<;>simp[PV.val,PV.val1,PV.cv,hb,Builtin.clear_,run_underlying ab]
  ·refine Fo h hk U (by simp<;>omega) (λx hx=>?_) (λj u J=>?_)
   ·simp only[List.replicate_zero,o6,mV,nK]at hx;exact hx
   ·simp only[List.replicate_zero,o6,mV,nK]at J;exact J
 ·rcases hr with⟨h1,Y,h3⟩ | ⟨b,O,h1,Y,h3,h4,h5,h6,h7⟩
  ·subst Y;simp at ak;omega
  ·have Z:∀ x∈es,x.isCell:=λx hx=>by have:=h6 x hx;simpa [eOk]using this
   have aq:zj es=es:=w7 Z;have aa:ez 0=1:=rfl;rw[aq]at h7;rw[aa,Nat.mul_one]at h3;have au:∀ v∈List.replicate n zd.cv,v.oneCell'=true:=λv hv=>by rw[nL hv];exact yU I
   have ae:=run_storeCells_at (P:=P) b lo t' (List.replicate n zd.cv) 0 O w Y (by simp;omega) au;rw[mV]at ae;refine⟨.tuple #[],w.setRow b (O.toList.take lo++List.replicate n zd.cv++O.toList.drop (lo+(List.replicate n zd.cv).length)).toArray,_,?_,hK,put _ (sj h hk U (by simp) h1 Y (λ_=>rfl) ?_ ?_ (by simp[Bx.refs])),k,_,⟨_,_,_,_,hp⟩,rfl⟩
   ·have aw:(PV.sb k 0 lo n c).val e=.slice (some ⟨b,lo,none⟩) n c:=by simp[PV.val,PV.val1,PV.cv,h1,aa]
    rw[hv,aw];exact Ch ab hi al ao hn0 ae
   ·rw [h1];refine .inr ⟨b,_,rfl,setRow_heap w b O _ t' _ Y,?_,?_,h5,?_,?_⟩
    ·simp only[nc,oK,nl,mK,mD,nR,aa,Nat.mul_one];omega
    ·simp only[oK,nl,mK,mD];omega
    ·intro x hx;rcases oO.1 hx with hx | hx
     ·exact h6 x (oW hx)
     ·rcases oO.1 hx with hx | hx
      ·rw[nL hx];simpa [eOk]using I
      ·exact h6 x (oa hx)
    ·intro j u J;rw[w7 λx hx=>?_]at J
     ·simp only[mD,List.getElem?_toArray,oL];by_cases hj:j<lo
      ·rw[oJ (by simp;omega),ou,if_pos hj]at J;rw[oJ (by simp;omega),ou,if_pos hj];simpa using h7 j u J
      ·rw[oT (by simp;omega)]at J ⊢;have e1:(es.take lo).length=lo:=by simp;omega
       have e2:(O.toList.take lo).length=lo:=by simp;omega
       rw[e1]at J;rw[e2];by_cases ah:j - lo<n
       ·rw[oJ (by simpa using ah),mS,if_pos ah]at J ⊢;cases J;rfl
       ·rw[oT (by simp;omega)]at J ⊢;simp only[mD,nP]at J ⊢
        have:=h7 _ u J
        simpa using this
     ·rcases oO.1 hx with hx | hx
      ·exact Z x (oW hx)
      ·rcases oO.1 hx with hx | hx
       ·rw[nL hx];exact I
       ·exact Z x (oa hx)
   ·intro x hx;rcases oO.1 hx with hx | hx
    ·exact ac x (oW hx)
    ·rcases oO.1 hx with hx | hx
     ·rw[nL hx];exact V _ _
     ·exact ac x (oa hx)
def LA (P:Program)(st:St)(dst:Option Nat)(t I:TypeId)(x y:Operand)(K:St->Prop):Prop:=
 match P.underlying t,P.underlying I with
 | some (.slice el),some (.int _)=>match kz P el,P.info? el,Gn P el 0 with
   | some 0,some i,some zd=>match retag P t (opd st.sl x),opd st.sl y with
     | .sv none _ [] 0,.int .i64 m=>(0<=m/\m*i.bytes<=140737488355328/\m<=140737488355328)/\∀ c2,K (St.put { st with bx:=st.bx++[.arr el 0 (List.replicate m.toNat zd) c2] } dst (.sb st.bx.length 0 0 m.toNat c2))
     | _,_=>False
   | _,_,_=>False
 | _,_=>False
theorem HV (n:Nat)(h:(n:Int)<=9223372036854775807):IntKind.i64.wrap (n:Int)=n:=by rw[IntKind.wrap_i64];omega
theorem AP (t t' ty el:TypeId) (k:IntKind) (i:TypeInfo) (z:Value) (ht:P.underlying t=some (.slice el)) (ht':P.underlying t'=some (.int k)) (hi:P.info? el=some i) (hz:i.zero=some z) (h1:i.size=1)
  (n:Nat) (h0:0<n) (h63:(n:Int)<=9223372036854775807) (h48:n*i.bytes<=281474976710656) :
  (Builtin.append_ #[t,t'] ty #[.slice none 0 0,.int .i64 n]).run P w =
   .ok (.slice (some ⟨w.heap.size,0,none⟩) n (grownCap w n 0 el)) (w.drew.alloc (.cells (Builtin.zeroCells z.cells n++Builtin.zeroCells z.cells (grownCap w n 0 el - n)) el)):=by
 have hn:n≠0:=by omega
 have h63':¬(9223372036854775807<(n:Int)):=by omega
 have h48':¬(281474976710656<Builtin.nextslicecap n 0*i.bytes):=by rw[nextslicecap_zero h0];omega
 have h48'':¬(281474976710656<(n:Int)*(i.bytes:Int)):=by
  have h5:((n*i.bytes:Nat):Int)<=281474976710656:=by omega
  rw[Int.natCast_mul]at h5;omega
 have hw:IntKind.i64.wrap (n:Int)=n:=HV n h63;have hneg:¬((n:Int)<0):=by omega
 simp[hneg,Builtin.append_,run_underlying ht,run_underlying ht',sizeOf,typeInfo,zeroValue,hi,hz,asInt,asIntOf,hw,h1,Builtin.lenOf,hn,h63',h48',h48'',Question.forced,run_firstCells_none,newRow,grownCap]
theorem GS (h:Rel av w0 e0 pS pB a w e st) (hpl:∀ k∈pB,k<st.bx.length) {dst:Option Nat} {t t' ty:TypeId} {x y:Operand} {K:St->Prop}
  (hx:∀ i,x=.tmp i->i∉pS) (hy:∀ i,y=.tmp i->i∉pS) (hps:∀ i,i∈pS->some i≠dst->i∈pS') (hs:LA P st dst t t' x y K) :
  ∃ v w' e' st',(Builtin.append_ #[t,t'] ty #[a.eval x,a.eval y]).run P w=.ok v w'/\K st'/\Rel av w0 e0 pS' pB (a.put dst v) w' e' st'/\∃ rows q,st'=St.put { st with bx:=st.bx++rows } dst q:=by
 have hnp:st.bx.length∉pB:=fun hc=>Nat.lt_irrefl _ (hpl _ hc);unfold LA at hs;split at hs
 rotate_left
 ·exact hs.elim
 rename_i el kk hel ht';split at hs
 rotate_left
 ·exact hs.elim
 rename_i i zd hkz hi hzd;have ox:=(yT h hx).valOk.retag (P:=P) t;have oy:=(yT h hy).valOk;generalize a.eval x=vx at ox ⊢;generalize a.eval y=vy at oy ⊢;split at hs
 rotate_left
 ·exact hs.elim
 rename_i zz m hpx hpy;rw[hpx]at ox;rw[hpy]at oy;have hvx:vx=.slice none 0 0:=by have:=ox.1.resolve_left (by simp);simpa [PV.val,PV.val1,PV.cv]using this
 have hvy:vy=.int .i64 m:=by have:=oy.1.resolve_left (by simp);simpa [PV.val,PV.val1,PV.cv]using this
 subst hvx;subst hvy;obtain⟨⟨hm0,hmb,hmm⟩,hK⟩:=hs;obtain⟨i',zv,hi',hzv,hzc,hcell,hgood⟩:=Aw w hzd;rw[hi]at hi'
 have:=nD hi'
 subst this;have hsz:i.size=1:=by obtain⟨i',h1,h2⟩:=ro hkz;rw[hi]at h1;cases h1;exact h2
 obtain⟨n,rfl⟩:∃ n:Nat,m=n:=⟨m.toNat,by omega⟩
 simp only[oX]at hK;have hw:IntKind.i64.wrap (n:Int)=n:=HV n (by omega);have hnb:n*i.bytes<=281474976710656:=by
  have h5:((n*i.bytes:Nat):Int)<=140737488355328:=by rw[Int.natCast_mul];exact hmb
  omega
 rcases mE n with hn0 | hn0
 ·subst hn0;have hat:Env.at (e++[none]) st.bx.length=none:=by rw[<-h.el];exact Env.at_append_eq
  refine⟨.slice none 0 0,w,_,_,?_,hK 0,yP (u6 h (el:=el) (z:=0) hnp) (dst:=dst) (p:=.sb st.bx.length 0 0 0 0) ⟨.inr (by simp[PV.val,PV.val1,PV.cv,hat]),trivial,by simp[PV.refs];exact hnp⟩ hps,_,_,rfl⟩;have hw0:IntKind.i64.wrap 0=0:=by rw[IntKind.wrap_i64];rfl
  simp[Builtin.append_,run_underlying hel,run_underlying ht',sizeOf,typeInfo,hi,asInt,asIntOf,hw0]
 ·have hrun:=AP (P:=P) (w:=w) t t' ty el kk i zv hel ht' hi hzv hsz n hn0 (by omega) hnb;have hge:=grownCap_ge w n 0 el;have hcm:=grownCap_le_maxLen w n 0 el (by unfold maxLen;omega);have hrc:∀ x∈List.replicate n zd,x.isCell:=fun x hx=>by rw[nL hx];exact hcell
  have hfin:=qC h (el:=el) (z:=0) (n:=grownCap w n 0 el) (es:=List.replicate n zd) (c:=Builtin.zeroCells zv.cells n++Builtin.zeroCells zv.cells (grownCap w n 0 el - n)) hnp
   (fun x hx=>by rw[nL hx];exact⟨by simpa [eOk]using hcell,hgood _ _⟩)
   (by
    have h1:(Builtin.zeroCells zv.cells n).size=n:=by rw[<-nR,xW hzc];simp
    have h2:(Builtin.zeroCells zv.cells (grownCap w n 0 el - n)).size=grownCap w n 0 el - n:=by rw[<-nR,xW hzc];simp
    rw[mG,h1,h2,show ez 0=1 from rfl];omega) (by simpa using hge) hcm (fun j u hu=>by
    rw[w7 hrc]at hu;rw[mS]at hu;split at hu
    ·rename_i hj;cases hu;rw[<-nF,Array.toList_append,oJ (by rw[xW hzc];simpa using hj),xW hzc,mS,if_pos hj]
    ·cases hu) (w2:=w.drew) rfl (dst:=dst) hps
  simp only[mD]at hfin;exact⟨_,_,_,_,hrun,hK _,hfin,_,_,rfl⟩
def zw (s:ByteArray):List D:=s.data.toList.map λb=>.lit (.int .u8 b.toNat)
theorem HA (s:ByteArray):(zj (zw s)).map D.cv=byteCells s:=by rw[w7 λx I=>by obtain⟨_,_,rfl⟩:=oP.1 I;trivial];simp[zw,byteCells,D.cv]
theorem w6 (s:ByteArray):(zw s).length=s.size:=by rw[<-byteCells_length s];simp[zw,byteCells]
def qIo (P : Program) (st:St) (dst:Option Nat) (t I:TypeId) (x y:Operand) (K:St->Prop):Prop:=
 match P.underlying t,P.underlying I with
 | some (.slice el),some .string=>match kz P el,P.info? el with
   | some 0,some i=>if i.bytes=0\/zOk P el 0=false then False else
     match retag P t (opd st.sl x),opd st.sl y with
     | .sb k J lo n c,.str s=>match pinned st k with
       | true=>False
       | false=>match st.bx[k]? with
         | some (.arr t1 z' es O)=>if J=0/\z'=0/\lo=0/\t1=el then
          (n=es.length/\c=O)/\zK es (zw s) i.bytes/\∀ c2,K (St.put { st.kill k with bx:=(st.kill k).bx.set k (.arr el 0 (es++zw s) c2) } dst (.sb k 0 0 (es++zw s).length c2))else False
         | _=>False
     | _,_=>False
   | _,_=>False
 | _,_=>False
theorem E4 (h:Rel av w0 e0 pS pB a w e st) {dst:Option Nat} {t U ty:TypeId} {x y:Operand} {K:St->Prop}
  (V:∀ i,x=.tmp i->i∉pS) (hy:∀ i,y=.tmp i->i∉pS) (Y:∀ i,i∈pS->some i≠dst->i∈pS') (hs:qIo P st dst t U x y K) :
  ∃ v w' e' st',(Builtin.append_ #[t,U] ty #[a.eval x,a.eval y]).run P w=.ok v w'/\K st'/\Rel av w0 e0 pS' pB (a.put dst v) w' e' st' /\
    ∃ k z lo n c B q,retag P t (opd st.sl x)=.sb k z lo n c/\(∃ t1 z1 es c1,st.bx[k]?=some (.arr t1 z1 es c1))/\st'=St.put { st.kill k with bx:=(st.kill k).bx.set k B } dst q:=by
 unfold qIo at hs;split at hs
 rotate_left
 ·exact hs.elim
 rename_i el Z aa;split at hs
 rotate_left
 ·exact hs.elim
 rename_i i hz hi;split at hs
 ·exact hs.elim
 rename_i I;have ab:i.bytes≠0:=λhc=>I (.inl hc);have ac:zOk P el 0=true:=by
  cases hh:zOk P el 0 with
  | true=>rfl
  | false=>exact absurd (.inr hh) I
 obtain⟨i',zv,J,ae,ah⟩:=F2 ac;rw[hi]at J
 have:=nD J
 subst this;have O:i.size=ez 0:=by obtain⟨i',h1,h2⟩:=ro hz;rw[hi]at h1;cases h1;exact h2
 have oy:=(yT h hy).valOk;have ox:=(yT h V).valOk.retag (P:=P) t;generalize a.eval y=vy at oy ⊢;generalize a.eval x=vx at ox ⊢;split at hs
 rotate_left
 ·exact hs.elim
 rename_i k z1 lo n c s hq hp;split at hs
 ·exact hs.elim
 rename_i ai;split at hs
 rotate_left
 ·exact hs.elim
 rename_i t1 z' es c' hk;split at hs
 rotate_left
 ·exact hs.elim
 rename_i hc;obtain⟨rfl,rfl,rfl,rfl⟩:=hc;obtain⟨⟨rfl,rfl⟩,aj,hK⟩:=hs;rw[hq]at ox;rw[hp]at oy;have ak:vy=.string s:=by have:=oy.1.resolve_left (by simp);simpa [PV.val,PV.val1,PV.cv]using this
 subst ak;have hS:Src P i.size U (.string s) (zw s).length ((zj (zw s)).map D.cv) w:=by rw[O,HA,w6];exact Src.ofString w aa s
 obtain⟨v,w',e',c2,g1,g2,g3⟩:=pP h (ty:=ty) Z hi ae ah O ab ox ai hk (λx V=>by obtain⟨_,_,rfl⟩:=oP.1 V;exact⟨by simp[eOk,D.isCell];rfl,Good.lit⟩) hS aj Y;exact⟨v,w',e',_,g1,hK c2,g3,_,_,_,_,_,_,_,hq,⟨_,_,_,_,hk⟩,rfl⟩
def Nh:PV->Option Nat
 | .sv _ _ _ c=>some c
 | .sb _ _ _ _ c=>some c
 | _=>none
end Go.Proofs.YtldbmnklnpfpfaaGreatDoor
namespace Go.Proofs.YtldbmnklnpfpfaaGreatDoor
open Go
inductive Sh where
 | int (k:IntKind)
 | bool
 | str
 | sl (z:Nat)
 | ag (n:Nat)
 | row (t:TypeId) (z:Nat)
 | pk
 | dc
 | bk (j:Nat)
 | cu
def QT:List Sh->Type
 | []=>Nat->Prop
 | .int _::l=>Int->QT l
 | .bool::l=>Bool->QT l
 | .str::l=>ByteArray->QT l
 | .sl _::l=>Option Addr->List D->Nat->QT l
 | .ag _::l=>D->QT l
 | .row _ _::l=>List D->Nat->QT l
 | .pk::l=>QT l
 | .dc::l=>D->QT l
 | .bk j::l=>D->QT l
 | .cu::l=>Option Addr->List D->Nat->Int->Int->QT l
def KH:List Sh->Bool
 | []=>true
 | .ag _::_=>false
 | .pk::_=>false
 | .cu::_=>false
 | _::l=>KH l
def qd:List Sh->Bool
 | .pk::_=>true
 | _=>false
def QT.app:(l:List Sh)->QT l->Nat->List PV->List Bx->Nat->Prop
 | .pk::l,Q,b,ps,rows,N=>KH l=true/\QT.app l Q b ps rows N
 | [],Q,_,[],[],N=>Q N
 | .int k::l,Q,b,.int k' n::ps,rows,N=>k=k'/\QT.app l (Q n) b ps rows N
 | .bool::l,Q,b,.bool v::ps,rows,N=>QT.app l (Q v) b ps rows N
 | .str::l,Q,b,.str v::ps,rows,N=>QT.app l (Q v) b ps rows N
 | .sl z::l,Q,b,.sv a z' es c::ps,rows,N=>z=z'/\QT.app l (Q a es c) b ps rows N
 | .ag n::l,Q,b,.dg n' x::ps,rows,N=>n=n'/\QT.app l (Q x) b ps rows N
 | .dc::l,Q,b,.dc x::ps,rows,N=>QT.app l (Q x) b ps rows N
 | .bk j::l,Q,b,.dc x::ps,rows,N=>QT.app l (Q x) b ps rows N
 | .row t z::l,Q,b,.sb k z' lo n c::ps,.arr J I es O::rows,N=>(k=b/\z'=z/\lo=0/\n=es.length/\c=O/\J=t/\I=z)/\QT.app l (Q es c) (b+1) ps rows N
 | .cu::l,Q,b,p::ps,B::rows,N=>∃ a es c n m,p=.pb b 0 0 0/\B=.var [.sv a 0 es c,.int .i64 n,.int .i64 m]/\QT.app l (Q a es c n m) (b+1) ps rows N
 | _,_,_,_,_,_=>False
def QT.lam:(l:List Sh)->Nat->(List PV->List Bx->Nat->Prop)->QT l
 | [],_,K=>λN=>K [] [] N
 | .int k::l,b,K=>λn=>QT.lam l b λps rows N=>K (.int k n::ps) rows N
 | .bool::l,b,K=>λv=>QT.lam l b λps rows N=>K (.bool v::ps) rows N
 | .str::l,b,K=>λv=>QT.lam l b λps rows N=>K (.str v::ps) rows N
 | .sl z::l,b,K=>λa es c=>QT.lam l b λps rows N=>K (.sv a z es c::ps) rows N
 | .ag n::l,b,K=>λx=>QT.lam l b λps rows N=>K (.dg n x::ps) rows N
 | .row t z::l,b,K=>λes c=>QT.lam l (b+1) λps rows N=>K (.sb b z 0 es.length c::ps) (.arr t z es c::rows) N
 | .pk::l,b,K=>QT.lam l b K
 | .dc::l,b,K=>λx=>QT.lam l b λps rows N=>K (.dc x::ps) rows N
 | .bk j::l,b,K=>λx=>QT.lam l b λps rows N=>K (.dc x::ps) rows N
 | .cu::l,b,K=>λa es c n m=>QT.lam l (b+1) λps rows N=>K (.pb b 0 0 0::ps) (.var [.sv a 0 es c,.int .i64 n,.int .i64 m]::rows) N
def PV.shift (b:Nat):PV->PV
 | .sb k z lo n c=>.sb (b+k) z lo n c
 | .pb k z i o=>.pb (b+k) z i o
 | p=>p
theorem QT.app_lam:∀(l:List Sh)(d b:Nat)(K:List PV->List Bx->Nat->Prop)(ps:List PV)(rows:List Bx)(N:Nat),QT.app l (QT.lam l (d+b) K) b ps rows N->K (ps.map (PV.shift d)) rows N:=by
 intro l
 induction l with
 | nil=>
   intro d b K ps rows N h;cases ps<;>cases rows<;>simp[QT.app]at h
   exact h
 | cons s l I=>
   intro d b K ps rows N h;cases s with
   | pk=>exact I d b K ps rows N h.2
   | row t z=>
     rcases ps with _ | ⟨p,ps⟩<;>rcases rows with _ | ⟨B,rows⟩<;>try(simp[QT.app]at h;done)
     cases p<;>cases B<;>simp[QT.app]at h
     obtain⟨⟨rfl,rfl,rfl,rfl,rfl,rfl,rfl⟩,h⟩:=h;exact I d (_+1) (λps rows N=>K (.sb _ _ 0 _ _::ps) (.arr _ _ _ _::rows) N) ps rows N h
   | cu=>
     rcases ps with _ | ⟨p,ps⟩<;>rcases rows with _ | ⟨B,rows⟩<;>try(simp[QT.app]at h;done)
     obtain⟨a,es,c,n,m,rfl,rfl,h⟩:=h;exact I d (b+1) (λps rows N=>K (.pb _ 0 0 0::ps) (.var _::rows) N) ps rows N h
   | _=>
     rcases ps with _ | ⟨p,ps⟩
     ·simp[QT.app]at h
     cases p<;>simp[QT.app]at h<;>first | exact I d b _ ps rows N h | (obtain⟨rfl,h⟩:=h;exact I d b _ ps rows N h)
def Bx.row (B:Bx):Prop:=match B with
 | .arr _ _ _ _=>True
 | B=>∃ a es c n m,B=.var [.sv a 0 es c,.int .i64 n,.int .i64 m]
theorem Bx.row.sp {B:Bx}(h:B.row):B≠.gone/\B.refs=[]:=by
 cases B with
 | arr t z es c=>exact⟨by simp,rfl⟩
 | _=>obtain⟨_,_,_,_,_,h⟩:=h;cases h<;>exact⟨by simp,rfl⟩
def Bx.offB (b:Nat):Bx->Prop
 | .arr _ _ es _=>b∉zA es
 | _=>False
theorem QT.app_rows:∀(l:List Sh) (Q:QT l) (b:Nat) (ps:List PV) (rows:List Bx) (N:Nat),QT.app l Q b ps rows N ->
  (∀ B∈rows,B.row)/\(∀ p∈ps,p≠.any/\(∀ l,p≠.tp l)/\∀ k∈p.refs,k<b+rows.length):=by
 intro l
 induction l with
 | nil=>intro Q b ps rows N h;cases ps<;>cases rows<;>simp[QT.app]at h ⊢
 | cons s l J=>
   intro Q b ps rows N h;have I:∀(p:PV) (B:Bx) (ps:List PV) (rows:List Bx) (Q:QT l),QT.app l Q (b+1) ps rows N->B.row->p≠.any->(∀ l,p≠.tp l)->(∀ k∈p.refs,k=b)->(∀ B'∈B::rows,B'.row)/\(∀ q∈p::ps,q≠.any/\(∀ l,q≠.tp l)/\∀ k∈q.refs,k<b+(B::rows).length):=λp B ps rows Q h Y O U Z=>by
    obtain⟨g1,g2⟩:=J Q _ ps rows N h;refine⟨λB' hB'=>?_,λq hq=>?_⟩
    ·rcases oH.1 hB' with rfl | hB'
     ·exact Y
     ·exact g1 _ hB'
    ·rcases oH.1 hq with rfl | hq
     ·exact⟨O,U,λk V=>by have:=Z k V;simp;omega⟩
     ·obtain⟨i1,i2,i3⟩:=g2 q hq;exact⟨i1,i2,λk V=>by have:=i3 k V;simp;omega⟩
   cases s with
   | pk=>exact J Q b ps rows N h.2
   | row t z=>
     rcases ps with _ | ⟨p,ps⟩<;>rcases rows with _ | ⟨B,rows⟩<;>try(simp[QT.app]at h;done)
     cases p<;>cases B<;>simp[QT.app]at h
     obtain⟨⟨rfl,_⟩,h⟩:=h;exact I _ _ _ _ _ h trivial (by simp) (by simp) (by simp[PV.refs])
   | cu=>
     rcases ps with _ | ⟨p,ps⟩<;>rcases rows with _ | ⟨B,rows⟩<;>try(simp[QT.app]at h;done)
     obtain⟨a,es,c,n,m,rfl,rfl,h⟩:=h;exact I _ _ _ _ _ h ⟨_,_,_,_,_,rfl⟩ (by simp) (by simp) (by simp[PV.refs])
   | _=>
     rcases ps with _ | ⟨p,ps⟩
     ·simp[QT.app]at h
     cases p<;>simp[QT.app]at h
     all_goals
      first | replace h:=h.2 | skip
      obtain⟨O,U⟩:=J _ b ps rows N h;exact⟨O,λq hq=>by rcases oH.1 hq with rfl | hq;exact⟨by simp,by simp,by simp[PV.refs]⟩;exact U q hq⟩
def zt (P:Program)(f:FuncId):Bool:=
 match P.funcs[f]? with
 | some fn => fn.name != "runtime.NumGoroutine" && fn.body.isSome
 | none=>false
def IC (e:Env):List PV->Value
 | [p]=>p.val1 e
 | ps=>.tuple (ps.map (PV.val1 e)).toArray
def Gg (pk:Bool)(e:Env)(ps:List PV):Value:=match pk with
 | true=>.agg (PV.cvs e ps).toArray
 | false=>IC e ps
theorem QT.app_cells:∀(l:List Sh)(Q:QT l)(b:Nat)(ps:List PV)(rows:List Bx)(N:Nat),KH l=true->QT.app l Q b ps rows N->∀ p∈ps,p.isC:=by
 intro l
 induction l with
 | nil=>intro Q b ps rows N hc h;cases ps<;>cases rows<;>simp[QT.app]at h ⊢
 | cons s l I=>
   intro Q b ps rows N hc h;cases s with
   | pk=>simp[KH]at hc
   | ag n=>simp[KH]at hc
   | cu=>simp[KH]at hc
   | row t z=>
     rcases ps with _ | ⟨p,ps⟩<;>rcases rows with _ | ⟨B,rows⟩<;>try(simp[QT.app]at h;done)
     cases p<;>cases B<;>simp[QT.app]at h
     have I:=I _ _ ps rows N hc h.2;intro q hq;rcases oH.1 hq with rfl | hq
     ·trivial
     ·exact I q hq
   | _=>
     rcases ps with _ | ⟨p,ps⟩
     ·simp[QT.app]at h
     cases p<;>simp[QT.app]at h
     all_goals
      first | replace h:=h.2 | skip
      intro q hq;rcases oH.1 hq with rfl | hq
      ·trivial
      ·exact I _ b ps rows N hc h q hq
structure Done (rs:List Sh) (Q:QT rs) (av:Nat->Prop) (w0:World) (v:Value) (w:World) (ps:List PV) (rows:List Bx) (e:Env):Prop where
 q:QT.app rs Q 0 ps rows w.heap.size
 v:v=Gg (qd rs) e ps
 m:Mem av [] w e rows
 ok:∀ p∈ps,p.Ok w (zF av [] e rows)
 fresh:∀(k b:Nat),e.at k=some b->w0.heap.size<=b
 size:w0.heap.size<=w.heap.size
 old:∀ b,b<w0.heap.size->w.heap[b]?=w0.heap[b]?
 fz:∀(b:Nat) (c:Array Value) (t:TypeId) (z:Nat × Nat),w0.heap.size<=b->w.heap[b]?=some (.cells c t z)->Fz z
 ku:KU w0 w
def Fin (rs:List Sh)(Q:QT rs)(av:Nat->Prop)(w0:World):Ending->World->Prop
 | .returned v,w=>∃ ps rows e,Done rs Q av w0 v w ps rows e
 | _,_=>False
structure ACalls (P:Program) (f:FuncId) (rs:List Sh) (args:List PV) (N:Nat) (Q:QT rs):Prop where
 c:zt P f=true
 h : ∀(av:Nat->Prop) (w0:World),w0.heap.size=N->Avl av w0 []->(∀ p∈args,p.Ok w0 av/\p.refs=[]) ->
   Calls P f (args.map (PV.val [])).toArray w0 (Fin rs Q av w0)
variable {av:Nat->Prop} {P:Program} {w0 w w':World} {e0 e:Env} {pS pS' pB pB':List Nat} {a:Act} {st st':St}
def MI (st:St)(k:Nat):Bool:=match st.bx[k]? with
 | some (.arr ..)=>true
 | _=>false
def sg (bx:List Bx):Nat->List Nat->List Nat->List Nat
 | 0,_,I=>I
 | _+1,[],I=>I
 | n+1,k::J,I=>match I.contains k with
   | true=>sg bx n J I
   | false=>sg bx n (J++(bx.getD k .gone).refs) (I++[k])
theorem wO {bx:List Bx}:∀(n:Nat)(J I:List Nat),I.Nodup->(sg bx n J I).Nodup
 | 0,_,I,h=>h
 | _+1,[],I,h=>h
 | n+1,k::J,I,h=>by
   simp only[sg];split
   ·exact wO n J I h
   ·rename_i V;refine wO n _ _ ?_;rw[o9];refine⟨h,by simp,λx Y y U O=>?_⟩;simp at U;subst U;subst O;simp[Y]at V
theorem si {bx:List Bx}{A:Nat->Prop}(U:∀ k,A k->∀ j∈(bx.getD k .gone).refs,A j):∀(n:Nat)(J I:List Nat),(∀ k∈J,A k)->(∀ k∈I,A k)->∀ k∈sg bx n J I,A k
 | 0,_,I,_,h=>h
 | _+1,[],I,_,h=>h
 | n + 1,k::J,I,O,V=>by
   simp only[sg];split
   ·exact si U n J I (λj hj=>O j (by simp[hj])) V
   ·refine si U n _ _ (λj hj=>?_) λj hj=>?_
    ·rcases oO.1 hj with hj | hj
     ·exact O j (by simp[hj])
     ·exact U k (O k (by simp)) j hj
    ·rcases oO.1 hj with hj | hj
     ·exact V j hj
     ·simp at hj;subst hj;exact O j (by simp)
def pos:List Nat->Nat->Option Nat
 | [],_=>none
 | x :: xs,k=>match decide (x=k)with
   | true=>some 0
   | false=>match pos xs k with
     | some j=>some (j+1)
     | none=>none
theorem u3:∀ {ks:List Nat}{k j:Nat},pos ks k=some j->ks[j]?=some k
 | [],k,j,h=>by simp[pos]at h
 | x::xs,k,j,h=>by
   simp only[pos]at h;split at h
   ·rename_i I;simp at I h;subst I;subst h;rfl
   ·split at h
    ·rename_i i hi;simp at h;subst h;simpa using u3 hi
    ·cases h
mutual
def PV.ren (ks:List Nat):PV->Option PV
 | .pb k z i o=>match pos ks k with
   | some j=>some (.pb j z i o)
   | none=>none
 | .sb k z lo n c=>match pos ks k with
   | some j=>some (.sb j z lo n c)
   | none=>none
 | .fn f caps=>match PV.renL ks caps with
   | some l=>some (.fn f l)
   | none=>none
 | .pg cs=>match PV.renL ks cs with
   | some l=>some (.pg l)
   | none=>none
 | .tp cs=>match PV.renL ks cs with
   | some l=>some (.tp l)
   | none=>none
 | p=>some p
def PV.renL (ks:List Nat):List PV->Option (List PV)
 | []=>some []
 | p::ps=>match PV.ren ks p,PV.renL ks ps with
   | some q,some qs=>some (q::qs)
   | _,_=>none
end
structure Ren (ks:List Nat) (e e':Env) (p q:PV):Prop where
 cv:p.cv e=q.cv e'
 v1:p.val1 e=q.val1 e'
 ok:∀ w live,p.Ok w live->q.Ok w live
 rf:∀ j∈q.refs,j<ks.length
 ic:p.isC->q.isC
 an:p=.any↔q=.any
structure RenL (ks:List Nat) (e e':Env) (ps qs:List PV):Prop where
 cv:PV.cvs e ps=PV.cvs e' qs
 v1:ps.map (PV.val1 e)=qs.map (PV.val1 e')
 ok:∀ w live,PV.OkL w live ps->PV.OkL w live qs
 rf:∀ j∈PV.refsL qs,j<ks.length
 ic:(∀ p∈ps,p.isC)->∀ q∈qs,q.isC
def tF (e:Env)(ks:List Nat):Env:=ks.map e.at
theorem HO {ks:List Nat}{k j:Nat}(h:pos ks k=some j):(tF e ks).at j=e.at k:=by
 have:=u3 h
 simp[tF,Env.at,oA,this]
theorem KK {ks:List Nat}{k j:Nat}(h:pos ks k=some j):j<ks.length:=(oC.1 (u3 h)).1
mutual
theorem yr {ks:List Nat}:∀ {p q:PV},p.ren ks=some q->Ren ks e (tF e ks) p q
 | .pb k z i o,q,h=>by
   simp only[PV.ren]at h
   split at h
   ·rename_i j hj
    simp at h;subst h
    have J:(PV.pb k z i o).cv e=(PV.pb j z i o).cv (tF e ks):=by simp[PV.cv,HO hj]
    exact⟨J,J,λ_ _=>id,by simp[PV.refs];exact KK hj,id,by simp⟩
   ·cases h
 | .sb k z lo n c,q,h=>by
   simp only[PV.ren]at h
   split at h
   ·rename_i j hj
    simp at h;subst h
    have J:(PV.sb k z lo n c).cv e=(PV.sb j z lo n c).cv (tF e ks):=by simp[PV.cv,HO hj]
    exact⟨J,J,λ_ _=>id,by simp[PV.refs];exact KK hj,id,by simp⟩
   ·cases h
 | .fn f caps,q,h=>by
   simp only[PV.ren]at h
   split at h
   ·rename_i l O
    simp at h;subst h
    have:=ue O
    have J:(PV.fn f caps).cv e=(PV.fn f l).cv (tF e ks):=by simp only[PV.cv,this.cv]
    exact⟨J,J,λw live I=>by simp only[PV.Ok]at I ⊢;exact this.ok w live I,by simp only[PV.refs];exact this.rf,id,by simp⟩
   ·cases h
 | .pg cs,q,h=>by
   simp only[PV.ren]at h
   split at h
   ·rename_i l O
    simp at h;subst h
    have:=ue O
    exact⟨rfl,by simp only[PV.val1,this.cv],λw live I=>by simp only[PV.Ok]at I ⊢;exact⟨this.ok w live I.1,this.ic I.2⟩,by simp only[PV.refs];exact this.rf,id,by simp⟩
   ·cases h
 | .tp cs,q,h=>by
   simp only[PV.ren]at h
   split at h
   ·rename_i l O
    simp at h;subst h
    have:=ue O
    exact⟨rfl,rfl,λw live I=>by simp only[PV.Ok]at I ⊢;exact this.ok w live I,by simp only[PV.refs];exact this.rf,id,by simp⟩
   ·cases h
 | .any,q,h=>by simp[PV.ren]at h;subst h;exact⟨rfl,rfl,λ_ _=>id,by simp[PV.refs],id,by simp⟩
 | .int ..,q,h=>by simp[PV.ren]at h;subst h;exact⟨rfl,rfl,λ_ _=>id,by simp[PV.refs],id,by simp⟩
 | .bool ..,q,h=>by simp[PV.ren]at h;subst h;exact⟨rfl,rfl,λ_ _=>id,by simp[PV.refs],id,by simp⟩
 | .str ..,q,h=>by simp[PV.ren]at h;subst h;exact⟨rfl,rfl,λ_ _=>id,by simp[PV.refs],id,by simp⟩
 | .lit ..,q,h=>by simp[PV.ren]at h;subst h;exact⟨rfl,rfl,λ_ _=>id,by simp[PV.refs],id,by simp⟩
 | .sv ..,q,h=>by simp[PV.ren]at h;subst h;exact⟨rfl,rfl,λ_ _=>id,by simp[PV.refs],id,by simp⟩
 | .d ..,q,h=>by simp[PV.ren]at h;subst h;exact⟨rfl,rfl,λ_ _=>id,by simp[PV.refs],id,by simp⟩
 | .dc ..,q,h=>by simp[PV.ren]at h;subst h;exact⟨rfl,rfl,λ_ _=>id,by simp[PV.refs],id,by simp⟩
 | .dg ..,q,h=>by simp[PV.ren]at h;subst h;exact⟨rfl,rfl,λ_ _=>id,by simp[PV.refs],id,by simp⟩
 | .pd ..,q,h=>by simp[PV.ren]at h;subst h;exact⟨rfl,rfl,λ_ _=>id,by simp[PV.refs],id,by simp⟩
theorem ue {ks:List Nat}:∀ {ps qs:List PV},PV.renL ks ps=some qs->RenL ks e (tF e ks) ps qs
 | [],qs,h=>by simp[PV.renL]at h;subst h;exact⟨rfl,rfl,λ_ _=>id,by simp[PV.refsL],λ_=>by simp⟩
 | p :: ps,qs,h=>by
   simp only[PV.renL]at h
   split at h
   ·rename_i q l Y O
    simp at h;subst h
    have U:=yr Y
    have V:=ue O
    refine⟨by simp[PV.cvs,U.cv,V.cv],by simp[U.v1,V.v1],λw live I=>⟨U.ok w live I.1,V.ok w live I.2⟩,λj hj=>?_,λhc r hr=>?_⟩
    ·simp only[PV.refsL]at hj
     rcases oO.1 hj with hj | hj
     ·exact U.rf j hj
     ·exact V.rf j hj
    ·rcases oH.1 hr with rfl | hr
     ·exact U.ic (hc p (by simp))
     ·exact V.ic (λx Z=>hc x (by simp[Z])) r hr
   ·cases h
end
theorem IB {ks:List Nat}{p q:PV}(h:p.ren ks=some q):p.val e=q.val (tF e ks):=by
 have h1:=yr (e:=e) h;cases p
 case tp cs=>
  simp only[PV.ren]at h;split at h
  ·rename_i l hl;simp at h;subst h;simp only[PV.val,(ue (e:=e) hl).v1]
  ·cases h
 all_goals
  have h2:=h1.v1;simp only[PV.ren]at h
  first
   | (simp at h;subst h;exact h2)
   | (split at h
      ·simp at h;subst h;exact h2
      ·cases h)
def IZ (ks:List Nat)(p:PV):PV:=match PV.ren ks p with
 | some q=>q
 | none=>.any
def Bx.ren (ks:List Nat):Bx->Bx
 | .var cs=>.var (cs.map (IZ ks))
 | B=>B
def vz:PV->Option PV
 | .pg cs=>match Cj cs with
   | some ds=>some (.dg cs.length (.ag ds))
   | none=>none
 | .int k n=>some (.int k n)
 | .bool v=>some (.bool v)
 | .str v=>some (.str v)
 | .lit x=>some (.lit x)
 | .sv a z es c=>some (.sv a z es c)
 | .dg n x=>some (.dg n x)
 | .dc x=>some (.dc x)
 | .pd ad z x=>some (.pd ad z x)
 | _=>none
def I3 (B:Bx):Option (Nat × D):=
 match B with
 | .var cs=>match cs with
   | [p]=>match u7 p with
     | some d=>some (0,d)
     | none=>none
   | cs=>match cs.length,Cj cs with
     | z+1,some ds=>some (z+1,.ag ds)
     | _,_=>none
 | .vd x n=>match n with
   | 0=>none
   | z+1=>some (z+1,x)
 | _=>none
def ApA (a:Option Addr)(es:List D):Prop:=∀ ad,a=some ad->∀ d∈es,ad.block∉d.foot
def Off (bs:List (Option Addr))(d:D):Prop:=∀ a∈bs,∀ ad,a=some ad->ad.block∉d.foot
def KF (a:Option Addr):List PV->Prop->Prop
 | [],K=>K
 | .sv I z es c::ps,K=>Off [a] (.sl I z es c)->KF a ps K
 | .dg _ x::ps,K=>Off [a] x->KF a ps K
 | _::ps,K=>KF a ps K
def Be (st:St) (I:List PV):List PV->(List D->List (Option Addr)->Prop)->Prop
 | [],K=>K [] []
 | p :: ps,K=>match p with
   | .sb k z lo n c=>match st.bx[k]? with
     | some (.arr _ z' es J)=>match decide (z=z'/\lo=0)with
       | true=>(n=es.length/\c=J)/\∀ a,ApA a es->KF a I (Be st I ps λds bs=>K (.sl a z es c::ds) (a::bs))
       | false=>False
     | _=>False
   | p=>match u7 p with
     | some d=>Be st I ps λds bs=>K (d::ds) bs
     | none=>False
mutual
def DJ (st:St) (I:List PV):PV->(PV->List (Option Addr)->Prop)->Prop
 | .sb k z lo n c,K=>match st.bx[k]? with
   | some (.arr _ z' es J)=>match decide (z=z'/\lo=0)with
     | true=>(n=es.length/\c=J)/\∀ a,ApA a es->KF a I (K (.sv a z es c) [a])
     | false=>False
   | _=>False
 | .pb k z i o,K=>match st.bx[k]? with
   | some B=>match decide (i=0/\o=0),I3 B with
     | true,some (z,x)=>∀ ad:Addr,ApA (some ad) [x]->KF (some ad) I (K (.pd ad z x) [some ad])
     | _,_=>False
   | none=>False
 | .fn f caps,K=>match caps.all PV.isCap with
   | true=>Gz st I caps λcs bs=>K (.fn f cs) bs
   | false=>False
 | .pg cs,K=>match Cj cs with
   | some ds=>K (.dg cs.length (.ag ds)) []
   | none=>Be st I cs λds bs=>K (.dg cs.length (.ag ds)) bs
 | p,K=>match vz p with
   | some q=>K q []
   | none=>False
def Gz (st:St) (I:List PV):List PV->(List PV->List (Option Addr)->Prop)->Prop
 | [],K=>K [] []
 | p::ps,K=>DJ st I p λq b1=>Gz st I ps λqs b2=>K (q::qs) (b1++b2)
end
def KA (p:PV):Option (FuncId × List PV):=match p with
 | .fn f caps=>some (f,caps)
 | .dc (.fn f caps)=>some (f,GA caps)
 | _=>none
def KG (bs:List (Option Addr)):List PV->Prop->Prop
 | [],K=>K
 | .sv a z es c::ps,K=>Off bs (.sl a z es c)/\KG bs ps K
 | .dg _ x::ps,K=>Off bs x/\KG bs ps K
 | .dc x::ps,K=>Off bs x/\KG bs ps K
 | _::ps,K=>KG bs ps K
def Mo (bs:List (Option Addr)):List Bx->Prop->Prop
 | [],K=>K
 | .arr _ _ es _::rs,K=>Off bs (.ag es)/\Mo bs rs K
 | _::_,_=>False
def NK (bs:List (Option Addr))(ps:List PV)(rows:List Bx)(K:Prop):Prop:=
 match bs with
 | []=>K
 | b::bs=>KG (b::bs) ps (Mo (b::bs) rows K)
def Bel (N:Nat)(d:D):Prop:=∀ b∈d.foot,b<N
def Im (N:Nat):List PV->Prop->Prop
 | [],K=>K
 | .sv a z es c::ps,K=>Bel N (.sl a z es c)->Im N ps K
 | .dg _ x::ps,K=>Bel N x->Im N ps K
 | _::ps,K=>Im N ps K
def Lg (N:Nat):List Bx->Prop->Prop
 | [],K=>K
 | .arr _ _ es _::rs,K=>Bel N (.ag es)->Lg N rs K
 | _::rs,K=>Lg N rs K
def D5:List PV->PV
 | [p]=>p
 | ps=>.tp ps
def BC (pk:Bool)(ps:List PV):PV:=match pk with
 | true=>.pg ps
 | false=>D5 ps
def Ib (N:Nat)(bs:List (Option Addr)):Prop:=∀ a∈bs,∀ ad,a=some ad->ad.block<N
def M3 (N:Nat)(bs:List (Option Addr))(K:Prop):Prop:=match bs with
 | []=>K
 | _=>Ib N bs->K
def bkP (as I:List PV):List Sh->List PV->(List PV->Prop)->Prop
 | [],ps,K=>K ps
 | s :: l,ps,K=>match s with
   | .pk=>bkP as I l ps K
   | .bk j=>match ps with
     | []=>K []
     | p::ps=>match p,as[j]?,I[j]? with
       | .dc x,some (.sv a z es c),some (.sb k z' lo n J)=>x=.sl a z es c/\bkP as I l ps λqs=>K (.sb k z' lo n J::qs)
       | _,_,_=>bkP as I l ps λqs=>K (p::qs)
   | _=>match ps with
     | []=>K []
     | p::ps=>bkP as I l ps λqs=>K (p::qs)
def Km (P:Program)(sh:FuncId->List Sh)(st:St)(dst:Option Nat)(x:Operand)(args:List PV)(K:St->Prop):Prop:=
 match KA (opd st.sl x)with
 | some (f,caps)=>match caps.all PV.isCap with
   | true=>Gz st (args++caps) (args++caps) λas bs=>∀ N1,st.N<=N1->M3 N1 bs (ACalls P f (sh f) as N1 (QT.lam (sh f) st.bx.length λps rows I=>N1<=I->bkP as (args++caps) (sh f) ps λps=>
     NK bs ps rows (Im I ps (Lg I rows (K (St.put { st with bx:=st.bx++rows,N:=I } dst (BC (qd (sh f)) ps)))))))
   | false=>False
 | none=>False
variable [Dfs] {av:Nat->Prop} {P:Program} {w0 w w':World} {e0 e:Env} {pS pS' pB:List Nat} {a:Act} {st st':St}
theorem Env.at_app {e e':Env}{k:Nat}:Env.at (e++e') k=if k<e.length then e.at k else e'.at (k - e.length):=by simp only[Env.at,oA,mY];split<;>rfl
theorem Good.lt {w:World}{live:Nat->Prop}{d:D}(h:Good w live d):∀ b∈d.foot,b<w.heap.size:=h.1.lt
theorem LP (h:Rel av w0 e0 pS pB a w e st) (aw:∀ k∈pB,k<st.bx.length) {av':Nat->Prop} {bb:List Nat} (al:∀ b,zF av pB e st.bx b->av' b\/b∈bb)
  {e':Env} {rows:List Bx} (ak:w.heap.size<=w'.heap.size) (hold:∀ b,b<w.heap.size->w'.heap[b]?=w.heap[b]?) (hm:Mem av' [] w' e' rows) (ai:∀ B∈rows,B.row)
  (ac:∀(k b:Nat),e'.at k=some b->w.heap.size<=b) (ao:∀ b∈bb,∀ B∈rows,B.offB b)
  (aq:∀(b:Nat) (c:Array Value) (t:TypeId) (z:Nat × Nat),w.heap.size<=b->w'.heap[b]?=some (.cells c t z)->Fz z) (au:KU w w') :
  Rel av w0 e0 pS pB a w' (e++e') { st with bx:=st.bx++rows,N:=w'.heap.size } /\
  ∀ d:D,Good w' (zF av' [] e' rows) d->(∀ b∈bb,b∉d.foot)->Good w' (zF av pB (e++e') (st.bx++rows)) d:=by
 have V:∀ k,k<st.bx.length->Env.at (e++e') k=e.at k:=λk J=>by rw[Env.at_app,if_pos (by rw[h.el];exact J)]
 have aj:∀ k,Env.at (e++e') (st.bx.length+k)=e'.at k:=λk=>by rw[Env.at_app,if_neg (by rw[h.el];omega)];congr 1;rw[h.el];omega
 have I:∀ k b,Lives pB (e++e') (st.bx++rows) k b->Lives pB e st.bx k b\/∃ j,k=st.bx.length+j/\e'.at j=some b/\∃ B,rows[j]?=some B:=λk b ⟨h1,h2,B,h3,h4⟩=>by
  by_cases J:k<st.bx.length
  ·rw[V k J]at h2;rw[oJ J]at h3;exact .inl ⟨h1,h2,B,h3,h4⟩
  ·obtain⟨j,rfl⟩:∃ j,k=st.bx.length+j:=⟨k - st.bx.length,by omega⟩
   rw[aj]at h2;rw[oT (by omega)]at h3;rw[show st.bx.length+j - st.bx.length=j by omega]at h3;exact .inr ⟨j,rfl,h2,B,h3⟩
 have ae:∀ b,b<w.heap.size->zF av pB (e++e') (st.bx++rows) b->zF av pB e st.bx b:=λb U hl=>hl.elim .inl λ⟨k,J⟩=>by
  rcases I k b J with h1 | ⟨j,_,h1,_⟩
  ·exact .inr ⟨k,h1⟩
  ·have:=ac j b h1;omega
 have O:∀(j:Nat) (B:Bx),rows[j]?=some B->B≠.gone/\B.refs=[]:=λj B hj=>(ai B (oB hj)).sp;have aa:∀ d:D,Good w' (zF av' [] e' rows) d->(∀ b∈bb,b∉d.foot)->Good w' (zF av pB (e++e') (st.bx++rows)) d:=λd hd U=>by
  refine⟨hd.1,λb ab hl=>?_⟩;rcases hl with hl | ⟨k,J⟩
  ·rcases al b (.inl hl)with h1 | h1
   ·exact hd.2 b ab (.inl h1)
   ·exact U b h1 ab
  ·rcases I k b J with h1 | ⟨j,_,h1,B,h2⟩
   ·rcases al b (.inr ⟨k,h1⟩)with h1 | h1
    ·exact hd.2 b ab (.inl h1)
    ·exact U b h1 ab
   ·exact hd.2 b ab (.inr ⟨j,by simp,h1,B,h2,(O j B h2).1⟩)
 have ah:∀(k:Nat) (B:Bx),(st.bx++rows)[k]?=some B->(k<st.bx.length/\st.bx[k]?=some B)\/∃ j,k=st.bx.length+j/\rows[j]?=some B:=λk B J=>by
  by_cases Y:k<st.bx.length
  ·rw[oJ Y]at J;exact .inl ⟨Y,J⟩
  ·rw[oT (by omega)]at J;exact .inr ⟨k - st.bx.length,by omega,J⟩
 refine⟨?_,aa⟩;exact {
  el:=by simp[h.el,hm.el]
  br:=λk B J Z=>by
   rcases ah k B J with⟨Y,J⟩ | ⟨j,rfl,hj⟩
   ·rw[V k Y];by_cases hg:B=.gone
    ·subst hg;exact True.intro
    ·exact(h.br k B J Z).congr (λb U=>hold b (Lives.lt h.toMem ⟨Z,U,B,J,hg⟩)) λi hi=>V i (h.bf k B J Z i hi).2
   ·rw[aj];exact(hm.br j B hj (by simp)).congr (λ_ _=>rfl) λi hi=>by rw[(O j B hj).2]at hi;simp at hi
  bo:=λk B J Z=>by
   rcases ah k B J with⟨Y,J⟩ | ⟨j,rfl,hj⟩
   ·exact(h.bo k B J Z).mono (λb U _=>hold b U) ak ae
   ·have hr:=ai B (oB hj);have ho:=λb U=>ao b U B (oB hj);have h0:=hm.bo j _ hj (by simp);cases B with
    | arr t z es c=>exact λx hx=>aa x (h0 x hx) λb U ab=>ho b U (zB.2 ⟨x,hx,ab⟩)
    | _=>obtain⟨_,_,_,_,_,he⟩:=hr;cases he<;>exact⟨⟨aa _ h0.1.1 λb U=>(ho b U).elim,h0.1.2⟩,h0.2⟩
  bf:=λk B J Z i hi=>by
   rcases ah k B J with⟨Y,J⟩ | ⟨j,rfl,hj⟩
   ·have:=h.bf k B J Z i hi;exact⟨this.1,by simp;omega⟩
   ·rw[(O j B hj).2]at hi;simp at hi
  inj:=λi j b hi hj=>by
   rcases I i b hi with h1 | ⟨i',rfl,h1,B1,g1⟩
   ·rcases I j b hj with h2 | ⟨j',rfl,h2,B2,g2⟩
    ·exact h.inj i j b h1 h2
    ·have:=Lives.lt h.toMem h1;have:=ac j' b h2;omega
   ·rcases I j b hj with h2 | ⟨j',rfl,h2,B2,g2⟩
    ·have:=Lives.lt h.toMem h2;have:=ac i' b h1;omega
    ·rw[hm.inj i' j' b ⟨by simp,h1,B1,g1,(O _ _ g1).1⟩ ⟨by simp,h2,B2,g2,(O _ _ g2).1⟩]
  ku:=h.ku.trans au
  size:=o8 h.size ak
  old:=λb U Z=>(hold b (om U h.size)).trans (h.old b U Z)
  fz:=λb c t z U hc=>by
   by_cases Y:b<w.heap.size
   ·rw[hold b Y]at hc;exact h.fz b c t z U hc
   ·exact aq b c t z (by omega) hc
  nd:=h.nd
  sz:=h.sz
  hN:=oG _
  hs:=λi p hi Z=>by
   rcases h.hs i p hi Z with h1 | h1
   ·exact .inl h1
   ·exact .inr (h1.trans (PV.val_congr p λk J=>V k (h.sr i p hi Z k J).2).symm)
  so:=λi p hi Z=>PV.Ok.mono (λb U _=>hold b U) ak ae p (h.so i p hi Z)
  sr:=λi p hi Z k J=>by have:=h.sr i p hi Z k J;exact⟨this.1,by simp;omega⟩
  own:=λk b J=>by
   rcases I k b J with h1 | ⟨j,_,h1,_⟩
   ·exact h.own k b h1
   ·have:=ac j b h1;have:=h.size;exact .inl (by omega)
  avl:=h.avl
  avn:=λk b J=>by
   rcases I k b J with h1 | ⟨j,_,h1,_⟩
   ·exact h.avn k b h1
   ·intro hc;have:=h.avl.lt b hc;have:=ac j b h1;have:=h.size;omega
  pin:=λk b U=>by
   have:=h.pin k b U
   have hl:k<st.bx.length:=by rw[<-h.el];exact mt λhc=>by rw[Env.at_ge hc]at this;simp at this
   rw[V k hl];exact this
  pit:=h.pit }
end Go.Proofs.YtldbmnklnpfpfaaGreatDoor
