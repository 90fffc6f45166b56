/- Data as plain trees, and what the laws' first look at them (their size) comes to. -/
import Derived.IntWalk
import Derived.Test.YtkdjhkfiolhkiaaGreatKa
set_option linter.unusedVariables false
namespace Go.Proofs.YtkdjhkfiolhkiaaGreat
open Go Go.Proofs Go.Proofs.Tryz Go.IntWalk
inductive Ty where
 | mk (k:Int) (l:List Ty)
mutual
/-- data that reads as this type -/
def Ty.Is:Ty->D->Prop
 | .mk k l,d=>∃ a es c,d=.ag [.lit (.int .i64 k),.sl a 2 es c]/\es.length<=4611686018427387904/\TysIs l es
def TysIs:List Ty->List D->Prop
 | [],es=>es=[]
 | t::ts,es=>∃ d ds,es=d::ds/\t.Is d/\TysIs ts ds
end
theorem TysIs.len:∀ {ts:List Ty} {es:List D},TysIs ts es->es.length=ts.length
 | [],es,h=>by simp [TysIs] at h;subst h;rfl
 | t::ts,es,h=>by
   simp only [TysIs] at h
   obtain ⟨d,ds,rfl,_,h⟩:=h
   simp [TysIs.len h]
theorem Br.of {v:Bool} {A B:Prop} (ht:v=true->A) (hf:v=false->B):Br v A B:=by
 cases v
 ·exact hf rfl
 ·exact ht rfl
/-- lies in blocks of its own, made between two moments -/
structure OwnL (N N':Nat) (es:List D):Prop where
 nd:(zE es).Nodup
 fl:xQ es
 lo:∀ b∈zE es,N<=b
 hi:∀ b∈zE es,b<N'
structure Own (N N':Nat) (d:D):Prop where
 nd:d.foot.Nodup
 fl:d.Flat0
 lo:∀ b∈d.foot,N<=b
 hi:∀ b∈d.foot,b<N'
theorem Own.mono {N1 N2 M1 M2:Nat} {d:D} (h:Own N1 N2 d) (h1:M1<=N1) (h2:N2<=M2):Own M1 M2 d:=⟨h.nd,h.fl,fun b hb=>oS h1 (h.lo b hb),fun b hb=>oq (h.hi b hb) h2⟩
theorem OwnL.mono {N1 N2 M1 M2:Nat} {es:List D} (h:OwnL N1 N2 es) (h1:M1<=N1) (h2:N2<=M2):OwnL M1 M2 es:=⟨h.nd,h.fl,fun b hb=>oS h1 (h.lo b hb),fun b hb=>oq (h.hi b hb) h2⟩
theorem zJZ {N N':Nat}:OwnL N N' []:=⟨by simp [zE],trivial,by simp [zE],by simp [zE]⟩
theorem ya:∀ {a b:List D},xQ a->xQ b->xQ (a++b)
 | [],b,_,h=>h
 | x::a,b,h1,h2=>⟨h1.1,ya h1.2 h2⟩
theorem wb {N N1 N2:Nat} {es fs:List D} (h1:OwnL N N1 es) (h2:OwnL N1 N2 fs) (hN:N<=N1) (hN2:N1<=N2):OwnL N N2 (es++fs):=by
 refine ⟨?_,ya h1.fl h2.fl,fun b hb=>?_,fun b hb=>?_⟩
 ·rw [zD,ou]
  refine ⟨h1.nd,h2.nd,fun x hx y hy hxy=>?_⟩
  have:=h1.hi x hx;have:=h2.lo y hy;omega
 ·rw [zD] at hb
  rcases oI.1 hb with hb | hb
  ·exact h1.lo b hb
  ·have:=h2.lo b hb;omega
 ·rw [zD] at hb
  rcases oI.1 hb with hb | hb
  ·have:=h1.hi b hb;omega
  ·exact h2.hi b hb
theorem xT {N N':Nat} {d:D} (h:Own N N' d):OwnL N N' [d]:=⟨by simpa [zE] using h.nd,⟨h.fl,trivial⟩,by simpa [zE] using h.lo,by simpa [zE] using h.hi⟩
theorem yu {N N':Nat} {x:Value} {es:List D} (h:OwnL N N' es):OwnL N N' (.lit x::es):=⟨by simpa [zE,D.foot] using h.nd,⟨trivial,h.fl⟩,by simpa [zE,D.foot] using h.lo,by simpa [zE,D.foot] using h.hi⟩
theorem zEP {N N':Nat} {cs:List D} (h:OwnL N N' cs):Own N N' (.ag cs):=⟨by simpa only [D.foot] using h.nd,h.fl,by simpa only [D.foot] using h.lo,by simpa only [D.foot] using h.hi⟩
theorem zEN {N N1 N3:Nat} {a:Option Addr} {z c:Nat} {es ds:List D} (h:OwnL N N1 es) (hf:Fresh N N3 a (.ag es::ds)) (hN:N1<=N3):Own N N3 (.sl a z es c):=by
 cases a with
 | none=>exact ⟨by simpa only [D.foot] using h.nd,⟨by simp,h.fl⟩,by simpa only [D.foot] using h.lo,fun b hb=>by simp only [D.foot] at hb;have:=h.hi b hb;omega⟩
 | some ad=>
   have hap:=hf.ap ad rfl (.ag es) (by simp)
   simp only [D.foot] at hap
   have hsub:∀ b∈(D.sl (some ad) z es c).foot,b=ad.block\/b∈zE es:=fun b hb=>by
    simp only [D.foot] at hb
    split at hb
    ·simp at hb
    ·exact oG.1 hb
   refine ⟨?_,⟨fun ad' h'=>by cases h';exact hf.off ad rfl,h.fl⟩,fun b hb=>?_,fun b hb=>?_⟩
   ·simp only [D.foot]
    split
    ·exact mL
    ·exact nZ.2 ⟨hap,h.nd⟩
   ·rcases hsub b hb with rfl | hb
    ·exact hf.lo ad rfl
    ·exact h.lo b hb
   ·rcases hsub b hb with rfl | hb
    ·exact hf.hi ad rfl
    ·have:=h.hi b hb;omega
mutual
def Ty.cnt:Ty->Nat
 | .mk _ l=>1+zT l
def zT:List Ty->Nat
 | []=>0
 | t::ts=>t.cnt+zT ts
end
mutual
def zKl:Ty->Ty->Bool
 | .mk k l,.mk k' l'=>k==k'&&um l l'
def um:List Ty->List Ty->Bool
 | [],[]=>true
 | t::ts,u::us=>zKl t u&&um ts us
 | _,_=>false
end
mutual
theorem zJR:∀ (t u:Ty),zKl t u=true↔t=u
 | .mk k l,.mk k' l'=>by simp [zKl,zGi l l']
theorem zGi:∀ (l m:List Ty),um l m=true↔l=m
 | [],[]=>by simp [um]
 | t::ts,u::us=>by simp [um,zJR t u,zGi ts us]
 | [],u::us=>by simp [um]
 | t::ts,[]=>by simp [um]
end
theorem zCM:∀ {l m:List Ty},l.length≠m.length->um l m=false
 | [],[],h=>absurd rfl h
 | t::ts,u::us,h=>by simp only [um,zCM (l:=ts) (m:=us) (by simpa using h),mu]
 | [],u::us,_=>rfl
 | t::ts,[],_=>rfl
theorem zMY {A B:Prop}:Br true A B=A:=rfl
theorem zJC {A B:Prop}:Br false A B=B:=rfl
theorem Br.not {v:Bool} {A B:Prop} (ht:v=false->A) (hf:v=true->B):Br (!v) A B:=by
 cases v
 ·exact ht rfl
 ·exact hf rfl
theorem Br.dec {p:Prop} [Decidable p] {A B:Prop} (ht:p->A) (hf:¬p->B):Br (decide p) A B:=Br.of (fun h=>ht (mv h)) fun h=>hf (of_decide_eq_false h)
theorem Br.ndec {p:Prop} [Decidable p] {A B:Prop} (ht:¬p->A) (hf:p->B):Br (!(decide p)) A B:=Br.not (fun h=>ht (of_decide_eq_false h)) fun h=>hf (mv h)
theorem Br.beq {a b:Int} {A B:Prop} (ht:a=b->A) (hf:¬a=b->B):Br (a==b) A B:=Br.of (fun h=>ht (by simpa using h)) fun h=>hf (by simpa using h)
theorem Br.bne {a b:Int} {A B:Prop} (ht:¬a=b->A) (hf:a=b->B):Br (bne a b) A B:=Br.of (fun h=>ht (by simpa using h)) fun h=>hf (by simpa using h)
theorem zLv {s t:ByteArray} (h:s.toList=t.toList):s=t:=by
 rw [ByteArray.toList_eq,ByteArray.toList_eq] at h
 cases s;cases t
 simpa using h
theorem uA {s t:ByteArray}:(s.toList==t.toList)=decide (s=t):=by
 by_cases h:s=t
 ·simp [h]
 ·have:¬s.toList=t.toList:=fun hc=>h (zLv hc)
  simp [h,this]
theorem Br.str {s t:ByteArray} {A B:Prop} (ht:s=t->A) (hf:¬s=t->B):Br (s.toList==t.toList) A B:=by rw [uA];exact Br.dec ht hf
theorem Br.nstr {s t:ByteArray} {A B:Prop} (ht:¬s=t->A) (hf:s=t->B):Br (!(s.toList==t.toList)) A B:=by rw [uA];exact Br.ndec ht hf
/-- returns this truth value -/
def vK (f:FuncId) (args:List PV) (b:Bool):Prop:=∀ (N:Nat) (Q:QT [.bool]),(∀ N',N<=N'->Q b N')->ACalls prog f [.bool] args N Q
/-- returns this number -/
def zBW (f:FuncId) (args:List PV) (n:Int):Prop:=∀ (N:Nat) (Q:QT [.int .i64]),(∀ N',N<=N'->Q n N')->ACalls prog f [.int .i64] args N Q
theorem Qi {Q:QT [.int .i64]} {n m:Int} {N:Nat} (h:Q n N) (e:n=m):Q m N:=e ▸ h
theorem Qb {Q:QT [.bool]} {n m:Bool} {N:Nat} (h:Q n N) (e:n=m):Q m N:=e ▸ h
def All2 {α:Type} (R:α->D->Prop):List α->List D->Prop
 | [],es=>es=[]
 | t::ts,es=>∃ d ds,es=d::ds/\R t d/\All2 R ts ds
theorem All2.len {α:Type} {R:α->D->Prop}:∀ {l:List α} {es:List D},All2 R l es->es.length=l.length
 | [],es,h=>by cases h;rfl
 | t::ts,es,⟨d,ds,he,_,h⟩=>by subst he;simp [h.len]
theorem All2.get {α:Type} {R:α->D->Prop}:∀ {l:List α} {es:List D} {i:Nat} {x:α},All2 R l es->l[i]?=some x->R x (es.getD i default)
 | [],es,i,x,h,hx=>by simp at hx
 | t::ts,es,i,x,⟨d,ds,he,h1,h2⟩,hx=>by
   subst he
   cases i with
   | zero=>simp at hx;subst hx;simpa [oA] using h1
   | succ i=>simpa [oA] using h2.get (by simpa using hx)
theorem All2.snoc {α:Type} {R:α->D->Prop}:∀ {l:List α} {es:List D} {t:α} {d:D},All2 R l es->R t d->All2 R (l++[t]) (es++[d])
 | [],es,t,d,h,h2=>by cases h;exact ⟨d,[],rfl,h2,rfl⟩
 | u::ts,es,t,d,⟨x,ds,he,h3,h4⟩,h2=>by subst he;exact ⟨x,ds++[d],rfl,h3,h4.snoc h2⟩
theorem All2.mono {α:Type} {R S:α->D->Prop} (hRS:∀ x d,R x d->S x d):∀ {l:List α} {es:List D},All2 R l es->All2 S l es
 | [],es,h=>h
 | u::ts,es,⟨x,ds,he,h3,h4⟩=>⟨x,ds,he,hRS _ _ h3,h4.mono hRS⟩
/-- the loop stands at this one -/
structure At {α:Type} (R:α->D->Prop) (l:List α) (es:List D) (i:Nat) (x:α):Prop where
 lt:decide ((i:Int)<(es.length:Int))=true
 b:(0:Int)<=(i:Int)/\(i:Int)<(es.length:Int)
 w:IntKind.i64.wrap ((i:Int)+1)=((i+1:Nat):Int)
 r:R x (es.getD i default)
 m:x∈l
 g:l[i]?=some x
theorem up {α:Type} {R:α->D->Prop} {l:List α} {es:List D} (h:All2 R l es) (hlen:es.length<=4611686018427387904) (P:Nat->List α->Prop)
  (hnil:∀ n:Nat,decide ((n:Int)<(es.length:Int))=false->n=es.length->P n []) (hcons:∀ (i:Nat) x xs,At R l es i x->l.drop (i+1)=xs->P (i+1) xs->P i (x::xs)):P 0 l:=by
 have hl:=h.len
 have key:∀ (rest pre:List α),l=pre++rest->P pre.length rest:=by
  intro rest
  induction rest with
  | nil=>
    intro pre hp
    rw [nW] at hp
    subst hp
    exact hnil _ (by simp [hl]) hl.symm
  | cons x xs ih=>
    intro pre hp
    have hi:l[pre.length]?=some x:=by rw [hp];simp
    have hlt:pre.length<l.length:=(oC.1 hi).1
    have hx:=h.get hi
    refine hcons pre.length x xs ⟨mN (by omega),⟨by omega,by omega⟩,?_,hx,by rw [hp];simp,hi⟩ (by rw [hp];simp) ?_
    ·rw [i64_in _ (by omega)];simp
    ·have:=ih (pre++[x]) (by rw [hp];simp)
     simpa using this
 exact key l [] rfl
theorem zJi:∀ {l:List Ty} {es:List D},TysIs l es->All2 Ty.Is l es
 | [],es,h=>by simp only [TysIs] at h;exact h
 | t::ts,es,h=>by
   simp only [TysIs] at h
   obtain ⟨d,ds,h1,h2,h3⟩:=h
   exact ⟨d,ds,h1,h2,zJi h3⟩
theorem zJl:∀ {l:List Ty} {es:List D},All2 Ty.Is l es->TysIs l es
 | [],es,h=>by simp only [TysIs];exact h
 | t::ts,es,⟨d,ds,h1,h2,h3⟩=>by
   simp only [TysIs]
   exact ⟨d,ds,h1,h2,zJl h3⟩
def Ty.k:Ty->Int
 | .mk k _=>k
def Ty.as:Ty->List Ty
 | .mk _ l=>l
theorem Ty.is_mk {k:Int} {l:List Ty} {d:D}:(Ty.mk k l).Is d↔∃ a es c,d=.ag [.lit (.int .i64 k),.sl a 2 es c]/\es.length<=4611686018427387904/\All2 Ty.Is l es:=by
 simp only [Ty.Is]
 exact ⟨fun ⟨a,es,c,h1,h2,h3⟩=>⟨a,es,c,h1,h2,zJi h3⟩,fun ⟨a,es,c,h1,h2,h3⟩=>⟨a,es,c,h1,h2,zJl h3⟩⟩
theorem Ty.ind {P:Ty->Prop} (h:∀ k l,(∀ t∈l,P t)->P (.mk k l)):∀ t,P t:=fun t=>
 Ty.rec (motive_1:=P) (motive_2:=fun l=>∀ t∈l,P t) (fun k l ih=>h k l ih) (by simp) (fun t l h1 h2 u hu=>by
  rcases oG.1 hu with rfl | hu
  ·exact h1
  ·exact h2 u hu) t
/-- what a branch's test says -/
class Dv (v:Bool) (P Q:outParam Prop):Prop where
 t:v=true->P
 f:v=false->Q
instance (priority:=100) dv9 {v:Bool}:Dv v (v=true) (v=false):=⟨id,id⟩
instance (priority:=500) dv4 {v:Bool}:Dv (!v) (v=false) (v=true):=⟨by simp,by simp⟩
instance dv1 {p:Prop} [Decidable p]:Dv (!(decide p)) (¬p) p:=⟨by simp,by simp⟩
instance dv2 {s t:ByteArray}:Dv (!(s.toList==t.toList)) (¬s=t) (s=t):=⟨by rw [uA];simp,by rw [uA];simp⟩
instance dv3 {a b:Int}:Dv (!(a==b)) (¬a=b) (a=b):=⟨by simp,by simp⟩
instance dv5 {p:Prop} [Decidable p]:Dv (decide p) p (¬p):=⟨by simp,by simp⟩
instance dv6 {s t:ByteArray}:Dv (s.toList==t.toList) (s=t) (¬s=t):=⟨by rw [uA];simp,by rw [uA];simp⟩
instance dv7 {a b:Int}:Dv (a==b) (a=b) (¬a=b):=⟨by simp,by simp⟩
instance dv8 {a b:Int}:Dv (bne a b) (¬a=b) (a=b):=⟨by simp,by simp⟩
theorem X {v:Bool} {P Q A B:Prop} [h:Dv v P Q] (ht:P->A) (hf:Q->B):Br v A B:=Br.of (fun g=>ht (h.t g)) fun g=>hf (h.f g)
theorem Y1:(!true)=false:=rfl
theorem Y2:(!false)=true:=rfl
theorem Y3 {A B:Prop}:Br true A B=A:=rfl
theorem Y4 {A B:Prop}:Br false A B=B:=rfl
end Go.Proofs.YtkdjhkfiolhkiaaGreat
