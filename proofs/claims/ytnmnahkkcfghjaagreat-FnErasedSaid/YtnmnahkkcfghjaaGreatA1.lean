/- Data as plain trees, and what the laws' first look at them (their size) comes to. -/
import Derived.IntWalk
import Derived.Test.YtnmnahkkcfghjaaGreatKa
import Derived.Test.YtnmnahkkcfghjaaGreatJh
set_option linter.unusedVariables false
set_option linter.unusedSimpArgs false
namespace Go.Proofs.YtnmnahkkcfghjaaGreat
open Go Go.Proofs Go.Proofs.Tryz Go.IntWalk
inductive Ty where
 | mk (k:Int) (l:List Ty)
mutual
/-- data that reads as this type -/
def Ty.Is:Ty->D->Prop
 | .mk k l,d=>∃ a es c,d=.ag [.j k,.sl a 2 es c]/\es.length<=4611686018427387904/\TysIs l es
def TysIs:List Ty->List D->Prop
 | [],es=>es=[]
 | t::I,es=>∃ d ds,es=d::ds/\t.Is d/\TysIs I ds
end
theorem TysIs.len:∀ {I:List Ty} {es:List D},TysIs I es->es.length=I.length
 | [],es,h=>by simp [TysIs] at h;subst h;rfl
 | t::I,es,h=>by
   simp only [TysIs] at h
   obtain ⟨d,ds,rfl,_,h⟩:=h
   simp [TysIs.len h]
theorem Br.of {v:Bool} {A B:Prop} (I:v=true->A) (J:v=false->B):Br v A B:=by
 cases v
 ·exact J rfl
 ·exact I rfl
/-- lies in blocks of its own, made between two moments -/
structure OwnL (N N':Nat) (es:List D):Prop where
 nd:(zF es).Nodup
 fl:xa es
 lo:∀ b∈zF es,N<=b
 hi:∀ b∈zF es,b<N'
structure Own (N N':Nat) (d:D):Prop where
 nd:d.foot.Nodup
 fl:d.Flat0
 lo:∀ b∈d.foot,N<=b
 hi:∀ b∈d.foot,b<N'
theorem Own.mono {N1 N2 J O:Nat} {d:D} (h:Own N1 N2 d) (U:J<=N1) (Y:N2<=O):Own J O d:=⟨h.nd,h.fl,λb I=>oN U (h.lo b I),λb I=>o7 (h.hi b I) Y⟩
theorem OwnL.mono {N1 N2 J O:Nat} {es:List D} (h:OwnL N1 N2 es) (U:J<=N1) (Y:N2<=O):OwnL J O es:=⟨h.nd,h.fl,λb I=>oN U (h.lo b I),λb I=>o7 (h.hi b I) Y⟩
theorem zNZ {N N':Nat}:OwnL N N' []:=⟨by simp [zF],trivial,by simp [zF],by simp [zF]⟩
theorem xQ:∀ {a b:List D},xa a->xa b->xa (a++b)
 | [],b,_,h=>h
 | x::a,b,I,J=>⟨I.1,xQ I.2 J⟩
theorem wn {N N1 N2:Nat} {es fs:List D} (I:OwnL N N1 es) (J:OwnL N1 N2 fs) (hN:N<=N1) (O:N1<=N2):OwnL N N2 (es++fs):=by
 refine ⟨?_,xQ I.fl J.fl,λb hb=>?_,λb hb=>?_⟩
 ·rw [zK,nQ]
  refine ⟨I.nd,J.nd,λx U y Y aa=>?_⟩
  have:=I.hi x U;have:=J.lo y Y;omega
 ·rw [zK] at hb
  rcases oJ.1 hb with hb | hb
  ·exact I.lo b hb
  ·have:=J.lo b hb;omega
 ·rw [zK] at hb
  rcases oJ.1 hb with hb | hb
  ·have:=I.hi b hb;omega
  ·exact J.hi b hb
theorem xj {N N':Nat} {d:D} (h:Own N N' d):OwnL N N' [d]:=⟨by simpa [zF] using h.nd,⟨h.fl,trivial⟩,by simpa [zF] using h.lo,by simpa [zF] using h.hi⟩
theorem yv {N N':Nat} {x:Value} {es:List D} (h:OwnL N N' es):OwnL N N' (.lit x::es):=⟨by simpa [zF,D.foot] using h.nd,⟨trivial,h.fl⟩,by simpa [zF,D.foot] using h.lo,by simpa [zF,D.foot] using h.hi⟩
theorem zEe {N N':Nat} {cs:List D} (h:OwnL N N' cs):Own N N' (.ag cs):=⟨by simpa only [D.foot] using h.nd,h.fl,by simpa only [D.foot] using h.lo,by simpa only [D.foot] using h.hi⟩
theorem zD1 {N N1 N3:Nat} {a:Option Addr} {z c:Nat} {es ds:List D} (h:OwnL N N1 es) (O:Fresh N N3 a (.ag es::ds)) (hN:N1<=N3):Own N N3 (.sl a z es c):=by
 cases a with
 | none=>exact ⟨by simpa only [D.foot] using h.nd,⟨by simp,h.fl⟩,by simpa only [D.foot] using h.lo,λb hb=>by simp only [D.foot] at hb;have:=h.hi b hb;omega⟩
 | some ad=>
   have J:=O.ap ad rfl (.ag es) (by simp)
   simp only [D.foot] at J
   have I:∀ b∈(D.sl (some ad) z es c).foot,b=ad.block\/b∈zF es:=λb hb=>by
    simp only [D.foot] at hb
    split at hb
    ·simp at hb
    ·exact oF.1 hb
   refine ⟨?_,⟨λU Y=>by cases Y;exact O.off ad rfl,h.fl⟩,λb hb=>?_,λb hb=>?_⟩
   ·simp only [D.foot]
    split
    ·exact mD
    ·exact nf.2 ⟨J,h.nd⟩
   ·rcases I b hb with rfl | hb
    ·exact O.lo ad rfl
    ·exact h.lo b hb
   ·rcases I b hb with rfl | hb
    ·exact O.hi ad rfl
    ·have:=h.hi b hb;omega
mutual
def Ty.cnt:Ty->Nat
 | .mk _ l=>1+zG l
def zG:List Ty->Nat
 | []=>0
 | t::I=>t.cnt+zG I
end
mutual
def zDj:Ty->Ty->Bool
 | .mk k l,.mk I l'=>k==I&&zAX l l'
def zAX:List Ty->List Ty->Bool
 | [],[]=>true
 | t::J,u::us=>zDj t u&&zAX J us
 | _,_=>false
end
mutual
theorem ud:∀ (t u:Ty),zDj t u=true↔t=u
 | .mk k l,.mk J l'=>by simp [zDj,zHS l l']
theorem zHS:∀ (l m:List Ty),zAX l m=true↔l=m
 | [],[]=>by simp [zAX]
 | t::I,u::us=>by simp [zAX,ud t u,zHS I us]
 | [],u::us=>by simp [zAX]
 | t::I,[]=>by simp [zAX]
end
theorem zGa:∀ {l m:List Ty},l.length≠m.length->zAX l m=false
 | [],[],h=>absurd rfl h
 | t::I,u::us,h=>by simp only [zAX,zGa (l:=I) (m:=us) (by simpa using h),Bool.and_false]
 | [],u::us,_=>rfl
 | t::I,[],_=>rfl
theorem zMq {A B:Prop}:Br true A B=A:=rfl
theorem zJi {A B:Prop}:Br false A B=B:=rfl
theorem Br.not {v:Bool} {A B:Prop} (I:v=false->A) (J:v=true->B):Br (!v) A B:=by
 cases v
 ·exact I rfl
 ·exact J rfl
theorem Br.dec {p:Prop} [Decidable p] {A B:Prop} (I:p->A) (J:¬p->B):Br (decide p) A B:=Br.of (λh=>I (lB h)) λh=>J (of_decide_eq_false h)
theorem Br.ndec {p:Prop} [Decidable p] {A B:Prop} (I:¬p->A) (J:p->B):Br (!(decide p)) A B:=Br.not (λh=>I (of_decide_eq_false h)) λh=>J (lB h)
theorem Br.beq {a b:Int} {A B:Prop} (I:a=b->A) (J:¬a=b->B):Br (a==b) A B:=Br.of (λh=>I (by simpa using h)) λh=>J (by simpa using h)
theorem Br.bne {a b:Int} {A B:Prop} (I:¬a=b->A) (J:a=b->B):Br (bne a b) A B:=Br.of (λh=>I (by simpa using h)) λh=>J (by simpa using h)
theorem zMe {s t:ByteArray} (h:s.toList=t.toList):s=t:=by
 rw [ByteArray.toList_eq,ByteArray.toList_eq] at h
 cases s;cases t
 simpa using h
theorem uO {s t:ByteArray}:(s.toList==t.toList)=decide (s=t):=by
 by_cases h:s=t
 ·simp [h]
 ·have:¬s.toList=t.toList:=λhc=>h (zMe hc)
  simp [h,this]
theorem Br.str {s t:ByteArray} {A B:Prop} (I:s=t->A) (J:¬s=t->B):Br (s.toList==t.toList) A B:=by rw [uO];exact Br.dec I J
theorem Br.nstr {s t:ByteArray} {A B:Prop} (I:¬s=t->A) (J:s=t->B):Br (!(s.toList==t.toList)) A B:=by rw [uO];exact Br.ndec I J
/-- returns this truth value -/
def zBz (f:FuncId) (args:List PV) (b:Bool):Prop:=∀ (N:Nat) (Q:QT [.bool]),(∀ N',N<=N'->Q b N')->ACalls prog f [.bool] args N Q
/-- returns this number -/
def zGX (f:FuncId) (args:List PV) (n:Int):Prop:=∀ (N:Nat) (Q:QT [.i]),(∀ N',N<=N'->Q n N')->ACalls prog f [.i] args N Q
theorem Qi {Q:QT [.i]} {n m:Int} {N:Nat} (h:Q n N) (e:n=m):Q m N:=e ▸ h
theorem Qb {Q:QT [.bool]} {n m:Bool} {N:Nat} (h:Q n N) (e:n=m):Q m N:=e ▸ h
def All2 {α:Type} (R:α->D->Prop):List α->List D->Prop
 | [],es=>es=[]
 | t::I,es=>∃ d ds,es=d::ds/\R t d/\All2 R I ds
theorem All2.len {α:Type} {R:α->D->Prop}:∀ {l:List α} {es:List D},All2 R l es->es.length=l.length
 | [],es,h=>by cases h;rfl
 | t::J,es,⟨d,ds,I,_,h⟩=>by subst I;simp [h.len]
theorem All2.get {α:Type} {R:α->D->Prop}:∀ {l:List α} {es:List D} {i:Nat} {x:α},All2 R l es->l[i]?=some x->R x (es.getD i default)
 | [],es,i,x,h,I=>by simp at I
 | t::Y,es,i,x,⟨d,ds,J,O,U⟩,I=>by
   subst J
   cases i with
   | zero=>simp at I;subst I;simpa [oA] using O
   | succ i=>simpa [oA] using U.get (by simpa using I)
theorem All2.snoc {α:Type} {R:α->D->Prop}:∀ {l:List α} {es:List D} {t:α} {d:D},All2 R l es->R t d->All2 R (l++[t]) (es++[d])
 | [],es,t,d,h,I=>by cases h;exact ⟨d,[],rfl,I,rfl⟩
 | u::Y,es,t,d,⟨x,ds,J,O,U⟩,I=>by subst J;exact ⟨x,ds++[d],rfl,O,U.snoc I⟩
theorem All2.mono {α:Type} {R S:α->D->Prop} (I:∀ x d,R x d->S x d):∀ {l:List α} {es:List D},All2 R l es->All2 S l es
 | [],es,h=>h
 | u::Y,es,⟨x,ds,J,O,U⟩=>⟨x,ds,J,I _ _ O,U.mono I⟩
/-- the loop stands at this one -/
structure At {α:Type} (R:α->D->Prop) (l:List α) (es:List D) (i:Nat) (x:α):Prop where
 lt:decide ((i:Int)<(es.length:Int))=true
 b:(0:Int)<=(i:Int)/\(i:Int)<(es.length:Int)
 w:IntKind.i64.wrap ((i:Int)+1)=((i+1:Nat):Int)
 r:R x (es.getD i default)
 m:x∈l
 g:l[i]?=some x
theorem up {α:Type} {R:α->D->Prop} {l:List α} {es:List D} (h:All2 R l es) (U:es.length<=4611686018427387904) (P:Nat->List α->Prop)
  (O:∀ n:Nat,decide ((n:Int)<(es.length:Int))=false->n=es.length->P n []) (I:∀ (i:Nat) x xs,At R l es i x->l.drop (i+1)=xs->P (i+1) xs->P i (x::xs)):P 0 l:=by
 have Y:=h.len
 have key:∀ (rest pre:List α),l=pre++rest->P pre.length rest:=by
  intro rest
  induction rest with
  | nil=>
    intro pre J
    rw [nO] at J
    subst J
    exact O _ (by simp [Y]) Y.symm
  | cons x xs ih=>
    intro pre J
    have hi:l[pre.length]?=some x:=by rw [J];simp
    have aa:pre.length<l.length:=(oC.1 hi).1
    have hx:=h.get hi
    refine I pre.length x xs ⟨mQ (by omega),⟨by omega,by omega⟩,?_,hx,by rw [J];simp,hi⟩ (by rw [J];simp) ?_
    ·rw [i64_in _ (by omega)];simp
    ·have:=ih (pre++[x]) (by rw [J];simp)
     simpa using this
 exact key l [] rfl
theorem zJF:∀ {l:List Ty} {es:List D},TysIs l es->All2 Ty.Is l es
 | [],es,h=>by simp only [TysIs] at h;exact h
 | t::U,es,h=>by
   simp only [TysIs] at h
   obtain ⟨d,ds,I,J,O⟩:=h
   exact ⟨d,ds,I,J,zJF O⟩
theorem zJK:∀ {l:List Ty} {es:List D},All2 Ty.Is l es->TysIs l es
 | [],es,h=>by simp only [TysIs];exact h
 | t::U,es,⟨d,ds,I,J,O⟩=>by
   simp only [TysIs]
   exact ⟨d,ds,I,J,zJK O⟩
def Ty.k:Ty->Int
 | .mk k _=>k
def Ty.as:Ty->List Ty
 | .mk _ l=>l
theorem Ty.is_mk {k:Int} {l:List Ty} {d:D}:(Ty.mk k l).Is d↔∃ a es c,d=.ag [.j k,.sl a 2 es c]/\es.length<=4611686018427387904/\All2 Ty.Is l es:=by
 simp only [Ty.Is]
 exact ⟨λ⟨a,es,c,I,J,O⟩=>⟨a,es,c,I,J,zJF O⟩,λ⟨a,es,c,I,J,O⟩=>⟨a,es,c,I,J,zJK O⟩⟩
theorem Ty.ind {P:Ty->Prop} (h:∀ k l,(∀ t∈l,P t)->P (.mk k l)):∀ t,P t:=λt=>
 Ty.rec (motive_1:=P) (motive_2:=λl=>∀ t∈l,P t) (λk l I=>h k l I) (by simp) (λt l J O u hu=>by
  rcases oF.1 hu with rfl | hu
  ·exact J
  ·exact O u hu) t
/-- what a branch's test says -/
class Dv (v:Bool) (P Q:outParam Prop):Prop where
 t:v=true->P
 f:v=false->Q
instance (priority:=100) dv9 {v:Bool}:Dv v (v=true) (v=false):=⟨id,id⟩
instance (priority:=500) dv4 {v:Bool}:Dv (!v) (v=false) (v=true):=⟨by simp,by simp⟩
instance dv1 {p:Prop} [Decidable p]:Dv (!(decide p)) (¬p) p:=⟨by simp,by simp⟩
instance dv2 {s t:ByteArray}:Dv (!(s.toList==t.toList)) (¬s=t) (s=t):=⟨by rw [uO];simp,by rw [uO];simp⟩
instance dv3 {a b:Int}:Dv (!(a==b)) (¬a=b) (a=b):=⟨by simp,by simp⟩
instance dv5 {p:Prop} [Decidable p]:Dv (decide p) p (¬p):=⟨by simp,by simp⟩
instance dv6 {s t:ByteArray}:Dv (s.toList==t.toList) (s=t) (¬s=t):=⟨by rw [uO];simp,by rw [uO];simp⟩
instance dv7 {a b:Int}:Dv (a==b) (a=b) (¬a=b):=⟨by simp,by simp⟩
instance dv8 {a b:Int}:Dv (bne a b) (¬a=b) (a=b):=⟨by simp,by simp⟩
theorem X {v:Bool} {P Q A B:Prop} [h:Dv v P Q] (I:P->A) (J:Q->B):Br v A B:=Br.of (λg=>I (h.t g)) λg=>J (h.f g)
theorem Y1:(!true)=false:=rfl
theorem Y2:(!false)=true:=rfl
theorem Y3 {A B:Prop}:Br true A B=A:=rfl
theorem Y4 {A B:Prop}:Br false A B=B:=rfl
end Go.Proofs.YtnmnahkkcfghjaaGreat
