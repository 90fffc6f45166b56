/- Data as plain trees, and what the laws' first look at them (their size) comes to. -/
import Derived.IntWalk
import Derived.Test.YtlaniepnglheoaaGreatKa
import Derived.Test.YtlaniepnglheoaaGreatJh
set_option linter.unusedVariables false
set_option linter.unusedSimpArgs false
namespace Go.Proofs.YtlaniepnglheoaaGreat
open Go Go.Proofs Go.Proofs.Tryz Go.IntWalk
variable {A B:Prop} {N N' N1 N2 c c1 i:Nat} {a a1:Option Addr} {b m n:Int} {d d0 r1 t0 t1 x:D} {es:List D} {nm ot s:ByteArray} {v:Bool}
inductive Ty where
 | mk (k:Int) (l:List Ty)
variable {re t ty:Ty}
mutual
def Ty.Is:Ty->D->Prop
 | .mk k l,d=>∃ a es c,d=.ag [.j k,.sl a 2 es c]/\es.length<=4611686018427387904/\TysIs l es
def TysIs:List Ty->List D->Prop
 | [],es=>es=[]
 | t::I,es=>∃ d ds,es=d::ds/\t.Is d/\TysIs I ds
end
theorem TysIs.len:∀ {I:List Ty}{es:List D},TysIs I es->es.length=I.length
 | [],es,h=>by simp[TysIs]at h;subst h;rfl
 | t::I,es,h=>by simp only[TysIs]at h;obtain⟨d,ds,rfl,_,h⟩:=h;simp[TysIs.len h]
theorem Br.of (I:v=true->A)(J:v=false->B):Br v A B:=by
 cases v
 ·exact J rfl
 ·exact I rfl
structure OwnL (N N':Nat) (es:List D):Prop where
 nd:(zF es).Nodup
 fl:xX es
 lo:∀ b∈zF es,N<=b
 hi:∀ b∈zF es,b<N'
structure Own (N N':Nat) (d:D):Prop where
 nd:d.foot.Nodup
 fl:d.Flat0
 lo:∀ b∈d.foot,N<=b
 hi:∀ b∈d.foot,b<N'
theorem Own.mono {J O:Nat}(h:Own N1 N2 d)(U:J<=N1)(Y:N2<=O):Own J O d:=⟨h.nd,h.fl,λb I=>oP U (h.lo b I),λb I=>nI (h.hi b I) Y⟩
theorem OwnL.mono {J O:Nat}(h:OwnL N1 N2 es)(U:J<=N1)(Y:N2<=O):OwnL J O es:=⟨h.nd,h.fl,λb I=>oP U (h.lo b I),λb I=>nI (h.hi b I) Y⟩
theorem Kp:OwnL N N' []:=⟨by simp[zF],trivial,by simp[zF],by simp[zF]⟩
theorem xE:∀ {a b:List D},xX a->xX b->xX (a++b)
 | [],b,_,h=>h
 | x::a,b,I,J=>⟨I.1,xE I.2 J⟩
theorem xJ {fs:List D}(I:OwnL N N1 es)(J:OwnL N1 N2 fs)(hN:N<=N1)(O:N1<=N2):OwnL N N2 (es++fs):=by
 refine⟨?_,xE I.fl J.fl,λb hb=>?_,λb hb=>?_⟩
 ·rw[zC,nN];refine⟨I.nd,J.nd,λx hx y U Y=>?_⟩
  have:=I.hi x hx;have:=J.lo y U;omega
 ·rw[zC]at hb;rcases oM.1 hb with hb | hb
  ·exact I.lo b hb
  ·have:=J.lo b hb;omega
 ·rw[zC]at hb;rcases oM.1 hb with hb | hb
  ·have:=I.hi b hb;omega
  ·exact J.hi b hb
theorem zl (h:Own N N' d):OwnL N N' [d]:=⟨by simpa [zF]using h.nd,⟨h.fl,trivial⟩,by simpa [zF]using h.lo,by simpa [zF]using h.hi⟩
theorem zH {x:Value}(h:OwnL N N' es):OwnL N N' (.lit x::es):=⟨by simpa [zF,D.foot]using h.nd,⟨trivial,h.fl⟩,by simpa [zF,D.foot]using h.lo,by simpa [zF,D.foot]using h.hi⟩
theorem tv {cs:List D}(h:OwnL N N' cs):Own N N' (.ag cs):=⟨by simpa only[D.foot]using h.nd,h.fl,by simpa only[D.foot]using h.lo,by simpa only[D.foot]using h.hi⟩
theorem AH {N3:Nat}{z:Nat}{ds:List D}(h:OwnL N N1 es)(O:Fresh N N3 a (.ag es::ds))(hN:N1<=N3):Own N N3 (.sl a z es c):=by
 cases a with
 | none=>exact⟨by simpa only[D.foot]using h.nd,⟨by simp,h.fl⟩,by simpa only[D.foot]using h.lo,λb hb=>by simp only[D.foot]at hb;have:=h.hi b hb;omega⟩
 | some ad=>
   have J:=O.ap ad rfl (.ag es) (by simp);simp only[D.foot]at J;have I:∀ b∈(D.sl (some ad) z es c).foot,b=ad.block\/b∈zF es:=λb hb=>by
    simp only[D.foot]at hb;split at hb
    ·simp at hb
    ·exact oH.1 hb
   refine⟨?_,⟨λU Y=>by cases Y;exact O.off ad rfl,h.fl⟩,λb hb=>?_,λb hb=>?_⟩
   ·simp only[D.foot];split
    ·exact mR
    ·exact na.2 ⟨J,h.nd⟩
   ·rcases I b hb with rfl | hb
    ·exact O.lo ad rfl
    ·exact h.lo b hb
   ·rcases I b hb with rfl | hb
    ·exact O.hi ad rfl
    ·have:=h.hi b hb;omega
mutual
def Ty.cnt:Ty->Nat
 | .mk _ l=>1+zN l
def zN:List Ty->Nat
 | []=>0
 | t::I=>t.cnt+zN I
end
theorem Bel.mono {M:Nat}(h:Bel N x)(I:N<=M):Bel M x:=λb J=>nI (h b J) I
mutual
def sB:Ty->Ty->Bool
 | .mk k l,.mk I l'=>k==I&&qT l l'
def qT:List Ty->List Ty->Bool
 | [],[]=>true
 | t::J,u::us=>sB t u&&qT J us
 | _,_=>false
end
mutual
theorem w6:∀(t u:Ty),sB t u=true↔t=u
 | .mk k l,.mk J l'=>by simp[sB,NV l l']
theorem NV:∀(l m:List Ty),qT l m=true↔l=m
 | [],[]=>by simp[qT]
 | t::I,u::us=>by simp[qT,w6 t u,NV I us]
 | [],u::us=>by simp[qT]
 | t::I,[]=>by simp[qT]
end
theorem HS:∀ {l m:List Ty},l.length≠m.length->qT l m=false
 | [],[],h=>absurd rfl h
 | t::I,u::us,h=>by simp only[qT,HS (l:=I) (m:=us) (by simpa using h),lT]
 | [],u::us,_=>rfl
 | t::I,[],_=>rfl
theorem Jo:Br true A B=A:=rfl
theorem Fn:Br false A B=B:=rfl
theorem Br.not (I:v=false->A)(J:v=true->B):Br (!v) A B:=by
 cases v
 ·exact I rfl
 ·exact J rfl
theorem Br.dec {p:Prop}[Decidable p](I:p->A)(J:¬p->B):Br (decide p) A B:=Br.of (λh=>I (lU h)) λh=>J (of_decide_eq_false h)
theorem Br.ndec {p:Prop}[Decidable p](I:¬p->A)(J:p->B):Br (!(decide p)) A B:=Br.not (λh=>I (of_decide_eq_false h)) λh=>J (lU h)
theorem Br.beq {a:Int}(I:a=b->A)(J:¬a=b->B):Br (a==b) A B:=Br.of (λh=>I (by simpa using h)) λh=>J (by simpa using h)
theorem Br.bne {a:Int}(I:¬a=b->A)(J:a=b->B):Br (bne a b) A B:=Br.of (λh=>I (by simpa using h)) λh=>J (by simpa using h)
theorem L7 {t:ByteArray}(h:s.toList=t.toList):s=t:=by rw[ByteArray.toList_eq,ByteArray.toList_eq]at h;cases s;cases t;simpa using h
theorem sR {t:ByteArray}:(s.toList==t.toList)=decide (s=t):=by
 by_cases h:s=t
 ·simp[h]
 ·have:¬s.toList=t.toList:=λhc=>h (L7 hc);simp[h,this]
theorem Br.str {t:ByteArray}(I:s=t->A)(J:¬s=t->B):Br (s.toList==t.toList) A B:=by rw[sR];exact Br.dec I J
theorem Br.nstr {t:ByteArray}(I:¬s=t->A)(J:s=t->B):Br (!(s.toList==t.toList)) A B:=by rw[sR];exact Br.ndec I J
def vM (f:FuncId)(args:List PV)(b:Bool):Prop:=∀(N:Nat) (Q:QT [.bool]),(∀ N',N<=N'->Q b N')->ACalls prog f [.bool] args N Q
def pI (f:FuncId)(args:List PV)(n:Int):Prop:=∀(N:Nat) (Q:QT [.i]),(∀ N',N<=N'->Q n N')->ACalls prog f [.i] args N Q
theorem Qi {Q:QT [.i]}(h:Q n N)(e:n=m):Q m N:=e ▸ h
theorem Qb {Q:QT [.bool]}{n m:Bool}(h:Q n N)(e:n=m):Q m N:=e ▸ h
def All2 {α:Type}(R:α->D->Prop):List α->List D->Prop
 | [],es=>es=[]
 | t::I,es=>∃ d ds,es=d::ds/\R t d/\All2 R I ds
theorem All2.len {α:Type}{R:α->D->Prop}:∀ {l:List α}{es:List D},All2 R l es->es.length=l.length
 | [],es,h=>by cases h;rfl
 | t::J,es,⟨d,ds,I,_,h⟩=>by subst I;simp[h.len]
theorem All2.get {α:Type}{R:α->D->Prop}:∀ {l:List α}{es:List D}{i:Nat}{x:α},All2 R l es->l[i]?=some x->R x (es.getD i default)
 | [],es,i,x,h,hx=>by simp at hx
 | t::U,es,i,x,⟨d,ds,I,J,O⟩,hx=>by
   subst I;cases i with
   | zero=>simp at hx;subst hx;simpa [oB]using J
   | succ i=>simpa [oB]using O.get (by simpa using hx)
theorem All2.snoc {α:Type}{R:α->D->Prop}:∀ {l:List α}{es:List D}{t:α}{d:D},All2 R l es->R t d->All2 R (l++[t]) (es++[d])
 | [],es,t,d,h,I=>by cases h;exact⟨d,[],rfl,I,rfl⟩
 | u::Y,es,t,d,⟨x,ds,J,O,U⟩,I=>by subst J;exact⟨x,ds++[d],rfl,O,U.snoc I⟩
theorem All2.app {α:Type}{R:α->D->Prop}:∀ {l m:List α}{es fs:List D},All2 R l es->All2 R m fs->All2 R (l++m) (es++fs)
 | [],m,es,fs,h,I=>by cases h;exact I
 | u::Y,m,es,fs,⟨x,ds,J,O,U⟩,I=>by subst J;exact⟨x,ds++fs,rfl,O,U.app I⟩
theorem All2.mono {α:Type}{R S:α->D->Prop}(I:∀ x d,R x d->S x d):∀ {l:List α}{es:List D},All2 R l es->All2 S l es
 | [],es,h=>h
 | u::Y,es,⟨x,ds,J,O,U⟩=>⟨x,ds,J,I _ _ O,U.mono I⟩
structure At {α:Type} (R:α->D->Prop) (l:List α) (es:List D) (i:Nat) (x:α):Prop where
 lt:decide ((i:Int)<(es.length:Int))=true
 b:(0:Int)<=(i:Int)/\(i:Int)<(es.length:Int)
 w:IntKind.i64.wrap ((i:Int)+1)=((i+1:Nat):Int)
 r:R x (es.getD i default)
 m:x∈l
 g:l[i]?=some x
theorem up {α:Type}{R:α->D->Prop}{l:List α}(h:All2 R l es)(U:es.length<=4611686018427387904)(P:Nat->List α->Prop)(O:∀ n:Nat,decide ((n:Int)<(es.length:Int))=false->n=es.length->P n [])(I:∀(i:Nat) x xs,At R l es i x->l.drop (i+1)=xs->P (i+1) xs->P i (x::xs)):P 0 l:=by
 have Y:=h.len;have key:∀(rest pre:List α),l=pre++rest->P pre.length rest:=by
  intro rest
  induction rest with
  | nil=>intro pre J;rw[ou]at J;subst J;exact O _ (by simp[Y]) Y.symm
  | cons x xs ih=>
    intro pre J;have hi:l[pre.length]?=some x:=by rw[J];simp
    have aa:pre.length<l.length:=(oC.1 hi).1;have hx:=h.get hi;refine I pre.length x xs ⟨mJ (by omega),⟨by omega,by omega⟩,?_,hx,by rw[J];simp,hi⟩ (by rw[J];simp) ?_
    ·rw[i64_in _ (by omega)];simp
    ·have:=ih (pre++[x]) (by rw[J];simp)
     simpa using this
 exact key l [] rfl
theorem QY:∀ {l:List Ty}{es:List D},TysIs l es->All2 Ty.Is l es
 | [],es,h=>by simp only[TysIs]at h;exact h
 | t::U,es,h=>by simp only[TysIs]at h;obtain⟨d,ds,I,J,O⟩:=h;exact⟨d,ds,I,J,QY O⟩
theorem PM:∀ {l:List Ty}{es:List D},All2 Ty.Is l es->TysIs l es
 | [],es,h=>by simp only[TysIs];exact h
 | t::U,es,⟨d,ds,I,J,O⟩=>by simp only[TysIs];exact⟨d,ds,I,J,PM O⟩
def Ty.k:Ty->Int
 | .mk k _=>k
def Ty.as:Ty->List Ty
 | .mk _ l=>l
theorem Ty.is_mk {k:Int}{l:List Ty}:(Ty.mk k l).Is d↔∃ a es c,d=.ag [.j k,.sl a 2 es c]/\es.length<=4611686018427387904/\All2 Ty.Is l es:=by simp only[Ty.Is];exact⟨λ⟨a,es,c,I,J,O⟩=>⟨a,es,c,I,J,QY O⟩,λ⟨a,es,c,I,J,O⟩=>⟨a,es,c,I,J,PM O⟩⟩
theorem Ty.ind {P:Ty->Prop}(h:∀ k l,(∀ t∈l,P t)->P (.mk k l)):∀ t,P t:=λt=>
 Ty.rec (motive_1:=P) (motive_2:=λl=>∀ t∈l,P t) (λk l I=>h k l I) (by simp) (λt l J O u hu=>by
  rcases oH.1 hu with rfl | hu
  ·exact J
  ·exact O u hu) t
class Dv (v:Bool) (P Q:outParam Prop):Prop where
 t:v=true->P
 f:v=false->Q
instance (priority:=100) dv9 {v:Bool}:Dv v (v=true) (v=false):=⟨id,id⟩
instance (priority:=500) dv4 {v:Bool}:Dv (!v) (v=false) (v=true):=⟨by simp,by simp⟩
instance dv1 {p:Prop} [Decidable p]:Dv (!(decide p)) (¬p) p:=⟨by simp,by simp⟩
instance dv2 {s t:ByteArray}:Dv (!(s.toList==t.toList)) (¬s=t) (s=t):=⟨by rw[sR];simp,by rw[sR];simp⟩
instance dv3 {a b:Int}:Dv (!(a==b)) (¬a=b) (a=b):=⟨by simp,by simp⟩
instance dv5 {p:Prop} [Decidable p]:Dv (decide p) p (¬p):=⟨by simp,by simp⟩
instance dv6 {s t:ByteArray}:Dv (s.toList==t.toList) (s=t) (¬s=t):=⟨by rw[sR];simp,by rw[sR];simp⟩
instance dv7 {a b:Int}:Dv (a==b) (a=b) (¬a=b):=⟨by simp,by simp⟩
instance dv8 {a b:Int}:Dv (bne a b) (¬a=b) (a=b):=⟨by simp,by simp⟩
theorem X {P Q:Prop}[h:Dv v P Q](I:P->A)(J:Q->B):Br v A B:=Br.of (λg=>I (h.t g)) λg=>J (h.f g)
theorem X0 (b:B)(a:A:=by first|omega|trivial|(show _=_;rfl)|(with_reducible constructor)<;>first|omega|trivial|rfl|(simp only[oJ];omega)):A/\B:=⟨a,b⟩
theorem Y1:(!true)=false/\(!false)=true/\(∀ A B:Prop,Br true A B=A)/\∀ A B:Prop,Br false A B=B:=⟨rfl,rfl,λ_ _=>rfl,λ_ _=>rfl⟩
def inB (n a b:Int):Bool:=decide (a<=n)&&decide (n<=b)
theorem xH (n a b:Int):vM 63 [.j n,.j a,.j b] (inB n a b):=λN Q I=>by
 refine PH N n a b Q ?_
 repeat' first|with_reducible intro _|simp only[Y1]|with_reducible refine X ?_ ?_|refine⟨_,_,_,rfl,?_⟩|refine⟨_,rfl,?_⟩|refine X0 ?_|fail
 all_goals simpa [inB, *]using I _ (by omega)
theorem Ei (a b:Int):pI 167 [.j a,.j b] (max a b):=λN Q I=>by
 refine Nn N a b Q ?_
 repeat' first|with_reducible intro _|simp only[Y1]|with_reducible refine X ?_ ?_|refine⟨_,_,_,rfl,?_⟩|refine⟨_,rfl,?_⟩|refine X0 ?_|fail
 ·have:=I _ (by assumption)
  rwa[Int.max_eq_left (by omega)]at this
 ·have:=I _ (by assumption)
  rwa[Int.max_eq_right (by omega)]at this
mutual
def Ty.dep:Ty->Nat
 | .mk _ l=>rq l+1
def rq:List Ty->Nat
 | []=>0
 | t::I=>max t.dep (rq I)
end
mutual
theorem Ty.dep_cnt:∀ t:Ty,t.dep<=t.cnt
 | .mk _ l=>by simp only[Ty.dep,Ty.cnt];have:=Ar l;omega
theorem Ar:∀ l:List Ty,rq l<=zN l
 | []=>oD _
 | t::I=>by simp only[rq,zN];have:=t.dep_cnt;have:=Ar I;omega
end
theorem vD:∀ {l:List Ty}{t:Ty},t∈l->t.cnt<=zN l
 | u::us,t,h=>by
   simp only[zN];rcases oH.1 h with rfl | h
   ·omega
   ·have:=vD h;omega
def s7 (k:Int)(n:Nat):Bool:=if k=1\/k=2 then(n:Int)==0 else if k=3 then(n:Int)==2 else if k=4 then(n:Int)==1 else false
mutual
def Ty.form:Ty->Bool
 | .mk k l=>uC l&&s7 k l.length
def uC:List Ty->Bool
 | []=>true
 | t::I=>t.form&&uC I
end
def Ty.valid (t:Ty):Bool:=decide (t.cnt<=30)&&decide (t.dep<=8)&&t.form
theorem Cc:∀(t:Ty)(d:D),t.Is d->∀ n:Int,0<=n->n<=1000->pI 172 [.dg 2 d,.j n] (if(t.cnt:Int)<=n then n - t.cnt else -1):=by
 refine Ty.ind λk l ih d hd n ae ah N Q hQ=>?_;obtain⟨a,es,c,rfl,U,Y⟩:=Ty.is_mk.1 hd;refine Lg N _ n Q λ_=>?_;have key:=up Y U (λi xs=>∀(m:Int) (N':Nat),N<=N' -> -1<=m->m<=1000->(∀ N'',N'<=N''->Q (if m<0 then -1 else if(zN xs:Int)<=m then m - zN xs else -1) N'') ->
  vZ Q N m i (.ag [.j k,.sl a 2 es c]) N') ?_ ?_
 ·rw[i64_in _ (by omega)];refine key (n - 1) N (oD _) (by omega) (by omega) λN' O=>Qi (hQ N' O) ?_;simp only[Ty.cnt]
  (repeat' split)<;>omega
 ·intro i aa _ m N' O h1 h2 J;refine p8 ?_
  repeat' first|with_reducible intro _|simp only[aa,Y1]|with_reducible refine X ?_ ?_|refine⟨_,_,_,rfl,?_⟩|refine⟨_,rfl,?_⟩|refine X0 ?_|fail
  refine Qi (J _ (by assumption)) ?_;simp only[zN]
  (repeat' split)<;>omega
 ·intro i x xs I _ ab m N' O h1 h2 J;have hb:=I.b;refine p8 ?_
  repeat' first|with_reducible intro _|simp only[I.lt,I.w,oI,Y1]|with_reducible refine X ?_ ?_|refine⟨_,_,_,rfl,?_⟩|refine⟨_,rfl,?_⟩|refine X0 ?_|refine(ih x I.m _ I.r m (by omega) (by omega)) _ _ ?_|fail
  ·refine ab _ _ (by omega) (by split<;>omega) (by split<;>omega) λN'' ac=>Qi (J N'' (by omega)) ?_;simp only[zN]
   (repeat' split)<;>omega
  ·refine Qi (J _ (by assumption)) ?_;rw[if_pos (by omega)];omega
theorem sT:∀(t:Ty)(d:D),t.Is d->t.cnt<=1073741824->pI 173 [.dg 2 d] t.dep:=by
 refine Ty.ind λk l ih d hd hc N Q hQ=>?_;obtain⟨a,es,c,rfl,J,U⟩:=Ty.is_mk.1 hd;refine DQ N _ Q λ_=>?_;simp only[Ty.cnt]at hc;have ab:=Ar l;have key:=up U J (λi xs=>∀(m:Nat) (N':Nat),N<=N'->max m (rq xs)=rq l->xN Q N (m:Int) i (.ag [.j k,.sl a 2 es c]) N') ?_ ?_
 ·exact key 0 N (oD _) (by omega)
 ·intro i Y _ m N' O hm;simp only[rq]at hm;refine u4 ?_
  repeat' first|with_reducible intro _|simp only[Y,Y1]|with_reducible refine X ?_ ?_|refine⟨_,_,_,rfl,?_⟩|refine⟨_,rfl,?_⟩|refine X0 ?_|fail
  rw[i64_in _ (by omega)];refine Qi (hQ _ (oP O (by assumption))) ?_;simp only[Ty.dep];omega
 ·intro i x xs I _ aa m N' O hm;have hb:=I.b;have ac:=vD I.m;simp only[rq]at hm;refine u4 ?_
  repeat' first|with_reducible intro _|simp only[I.lt,I.w,oI,Y1]|with_reducible refine X ?_ ?_|refine⟨_,_,_,rfl,?_⟩|refine⟨_,rfl,?_⟩|refine X0 ?_|refine(ih x I.m _ I.r (by omega)) _ _ ?_|refine(Ei _ _) _ _ ?_|fail
  have e:max (m:Int) (x.dep:Int)=((max m x.dep:Nat):Int):=by omega
  rw[e];exact aa _ _ (by omega) (by omega)
theorem Cb:∀(t:Ty)(d:D),t.Is d->vM 174 [.dg 2 d] t.form:=by
 refine Ty.ind λk l ih d hd N Q hQ=>?_;obtain⟨a,es,c,rfl,O,U⟩:=Ty.is_mk.1 hd;have hl:=U.len;refine Le N _ Q λ_=>?_;have key:=up U O (λi xs=>∀(N':Nat),N<=N'->(∀ N'',N'<=N''->Q (uC xs&&s7 k l.length) N'')->vY Q N i (.ag [.j k,.sl a 2 es c]) N') ?_ ?_
 ·exact key N (oD _) hQ
 ·intro i Y _ N' aa J;refine p7 ?_
  repeat' first|with_reducible intro _|simp only[Y,Y1]|with_reducible refine X ?_ ?_|refine⟨_,_,_,rfl,?_⟩|refine⟨_,rfl,?_⟩|refine X0 ?_|fail
  all_goals(refine Qb (J _ (by assumption)) ?_;simp[uC,s7, *])
 ·intro i x xs I _ ab N' aa J;have hb:=I.b;refine p7 ?_
  repeat' first|with_reducible intro _|simp only[I.lt,I.w,oI,Y1]|with_reducible refine X ?_ ?_|refine⟨_,_,_,rfl,?_⟩|refine⟨_,rfl,?_⟩|refine X0 ?_|refine(ih x I.m _ I.r) _ _ ?_|fail
  ·refine Qb (J _ (by omega)) ?_;simp[uC, *]
  ·exact ab _ (by omega) λN'' h=>Qb (J N'' (by omega)) (by simp[uC, *])
theorem wC (t:Ty)(d:D)(hd:t.Is d)(hc:t.cnt<=1073741824):vM 115 [.dg 2 d] t.valid:=λN Q I=>by
 refine DS N _ Q λ_=>?_;by_cases O:t.cnt<=30
 ·have J:((t.cnt:Int)<=30):=by omega
  repeat' first|with_reducible intro _|simp only[if_pos J,Y1]|with_reducible refine X ?_ ?_|refine⟨_,_,_,rfl,?_⟩|refine⟨_,rfl,?_⟩|refine X0 ?_|refine(Cc t d hd _ (by omega) (by omega)) _ _ ?_|refine(sT t d hd hc) _ _ ?_|refine(Cb t d hd) _ _ ?_|fail
  all_goals first | omega | skip
  ·have U:t.dep<=8:=by omega
   refine Qb (I _ (by omega)) ?_;simp[Ty.valid, *]
  ·have U:¬t.dep<=8:=by omega
   refine Qb (I _ (by omega)) ?_;simp[Ty.valid, *]
 ·have J:¬((t.cnt:Int)<=30):=by omega
  repeat' first|with_reducible intro _|simp only[if_neg J,Y1]|with_reducible refine X ?_ ?_|refine⟨_,_,_,rfl,?_⟩|refine⟨_,rfl,?_⟩|refine X0 ?_|refine(Cc t d hd _ (by omega) (by omega)) _ _ ?_|refine(sT t d hd hc) _ _ ?_|refine(Cb t d hd) _ _ ?_|fail
  all_goals first | omega | skip
  refine Qb (I _ (by omega)) ?_;simp[Ty.valid, *]
def E8 (f:FuncId)(args:List PV)(t:Ty):Prop:=∀(N:Nat) (Q:QT [.ag 2]),(∀ d' N',N<=N'->t.Is d'->Own N N' d'->Q d' N')->ACalls prog f [.ag 2] args N Q
def tInt:Ty:=.mk 1 []
def tBool:Ty:=.mk 2 []
def tZero:Ty:=.mk 0 []
def wD (a b:Ty):Ty:=.mk 3 [a,b]
def wM (a:Ty):Ty:=.mk 4 [a]
def Ty.base (t:Ty):Bool:=(t.k==1||t.k==2)&&(t.as.length:Int)==0
theorem xm (k:Int):(Ty.mk k []).Is (.ag [.j k,.sl none 2 [] 0]):=Ty.is_mk.2 ⟨_,_,_,rfl,by simp,rfl⟩
theorem yZ {x:Value}:Own N N' (.ag [.lit x,.sl none 2 [] 0]):=⟨by simp[D.foot,zF],⟨trivial,⟨by simp,trivial⟩,trivial⟩,by simp[D.foot,zF],by simp[D.foot,zF]⟩
theorem Bp:∀ l:List Ty,l.length<=zN l
 | []=>oD _
 | .mk k l::I=>by simp only[zN,Ty.cnt,oJ];have:=Bp I;omega
theorem yv:∀(t u:Ty)(d e:D),t.Is d->u.Is e->vM 26 [.dg 2 d,.dg 2 e] (sB t u):=by
 refine Ty.ind λk l ih u d e hd he N Q hQ=>?_;cases u with
 | mk k' l'=>
 obtain⟨a,es,c,rfl,U,Y⟩:=Ty.is_mk.1 hd;obtain⟨a',es',c',rfl,ac,O⟩:=Ty.is_mk.1 he;have hl:=Y.len;have ak:=O.len;simp only[sB]at hQ;have key:l.length=l'.length->∀(N':Nat),N<=N'->(∀ N'',N'<=N''->Q (qT l (l'.drop 0)) N'')->yy Q N (0:Nat) (.ag [.j k,.sl a 2 es c]) (.ag [.j k',.sl a' 2 es' c']) N':=by
  intro al;refine up Y U (λi xs=>∀(N':Nat),N<=N'->(∀ N'',N'<=N''->Q (qT xs (l'.drop i)) N'')->yy Q N i (.ag [.j k,.sl a 2 es c]) (.ag [.j k',.sl a' 2 es' c']) N') ?_ ?_
  ·intro i ae hi N' ah I;refine sa ?_
   repeat' first|with_reducible intro _|simp only[ae,Y1]|with_reducible refine X ?_ ?_|refine⟨_,_,_,rfl,?_⟩|refine⟨_,rfl,?_⟩|refine X0 ?_|fail
   refine Qb (I _ (by assumption)) ?_;rw[mg (by omega)];rfl
  ·intro i x xs J _ ai N' ah I;have hb:=J.b;have aa:i<l'.length:=by omega
   have hg:l'[i]?=some l'[i]:=oF aa;have aj:l'.drop i=l'[i]::l'.drop (i+1):=mW aa;refine sa ?_;rw[aj]at I
   repeat' first|with_reducible intro _|simp only[J.lt,J.w,oI,Y1]|with_reducible refine X ?_ ?_|refine⟨_,_,_,rfl,?_⟩|refine⟨_,rfl,?_⟩|refine X0 ?_|refine(ih x J.m _ _ _ J.r (O.get hg)) _ _ ?_|fail
   ·exact Qb (I _ (by omega)) (by simp[qT, *])
   ·exact ai _ (by omega) λN'' h=>Qb (I N'' (by omega)) (by simp[qT, *])
 refine FY N _ _ Q λ_ _=>?_
 repeat' first|with_reducible intro _|simp only[Y1]|with_reducible refine X ?_ ?_|refine⟨_,_,_,rfl,?_⟩|refine⟨_,rfl,?_⟩|refine X0 ?_|fail
 ·exact Qb (hQ _ (by assumption)) (by simp[*])
 ·exact Qb (hQ _ (by assumption)) (by rw[HS (by omega),lT])
 ·exact key (by omega) N (oD _) λN'' ab=>Qb (hQ _ ab) (by simp[*])
theorem qB (t:Ty)(d:D)(hd:t.Is d):vM 110 [.dg 2 d] t.base:=λN Q O=>by
 cases t with
 | mk k l=>
 obtain⟨a,es,c,rfl,J,I⟩:=Ty.is_mk.1 hd;have U:=I.len;refine LR N _ Q λ_=>?_
 repeat' first|with_reducible intro _|simp only[Y1]|with_reducible refine X ?_ ?_|refine⟨_,_,_,rfl,?_⟩|refine⟨_,rfl,?_⟩|refine X0 ?_|fail
 all_goals refine Qb (O _ (by assumption)) ?_
 all_goals simp[Ty.base,Ty.k,Ty.as,U, *]
theorem vF:E8 82 [] tInt:=λN Q J=>Nq N Q λN' I=>J _ _ I (xm _) yZ
theorem tC:E8 132 [] tBool:=λN Q J=>Lc N Q λN' I=>J _ _ I (xm _) yZ
theorem zX {α:Type}{l:List α}{x:α}(h:l[i]?=some x):l.take (i+1)=l.take i++[x]:=by rw[List.take_add_one,h];rfl
theorem zO:∀(t:Ty)(d:D),t.Is d->t.cnt<=1073741824->E8 42 [.dg 2 d] t:=by
 refine Ty.ind λk l ih d hd hc N Q hQ=>?_;obtain⟨a,es,c,rfl,U,Y⟩:=Ty.is_mk.1 hd;have hl:=Y.len;simp only[Ty.cnt]at hc;have ak:=Bp l;refine Ld N _ Q λ_=>⟨_,rfl,?_⟩
 have key:=up Y U (λi xs=>∀(N':Nat),N<=N'->(i=0->tT Q N i (.ag [.j k,.sl a 2 es c]) 0 none [] 0 k none [] 0 N')/\∀(m q:Nat) (r:List D),m=r.length->All2 Ty.Is (l.take i) r->OwnL N N' r ->
  xy Q N i (.ag [.j k,.sl a 2 es c]) 0 none [] 0 k m q r q N') ?_ ?_
 ·exact(key N (oD _)).1 rfl
 ·intro i aa hi N' ah;refine⟨λh0=>pz ?_,λm q r hm hr ho=>si ?_⟩
  ·repeat' first|with_reducible intro _|simp only[aa,Y1]|with_reducible refine X ?_ ?_|refine⟨_,_,_,rfl,?_⟩|refine⟨_,rfl,?_⟩|refine X0 ?_|fail
   have:l=[]:=oL (by omega);subst this;exact hQ _ _ (by omega) (xm _) yZ
  ·repeat' first|with_reducible intro _|simp only[aa,Y1]|with_reducible refine X ?_ ?_|refine⟨_,_,_,rfl,?_⟩|refine⟨_,rfl,?_⟩|refine X0 ?_|fail
   rename_i a' N3 J hf N4 ai;rw[oX (by omega)]at hr;exact hQ _ _ (by omega) (Ty.is_mk.2 ⟨_,_,_,rfl,by have:=hr.len;omega,hr⟩) (tv (zH (zl ((AH ho hf (by omega)).mono (oD _) ai))))
 ·intro i x xs I _ ab N' ah;have hb:=I.b;have al:=vD I.m;refine⟨λh0=>pz ?_,λm q r hm hr ho=>si ?_⟩
  ·repeat' first|with_reducible intro _|simp only[I.lt,I.w,oI,Y1]|with_reducible refine X ?_ ?_|refine⟨_,_,_,rfl,?_⟩|refine⟨_,rfl,?_⟩|refine X0 ?_|refine(ih x I.m _ I.r (by omega)) _ _ ?_|fail
   rename_i N2 ac d' N3 J hx O aj ae;subst h0;exact⟨by unfold zA;simp,λc2=>(ab _ (by omega)).2 _ _ _ rfl (by rw[zX I.g];exact⟨_,_,rfl,hx,rfl⟩) (zl (O.mono (by omega) (oD _)))⟩
  ·repeat' first|with_reducible intro _|simp only[I.lt,I.w,oI,Y1]|with_reducible refine X ?_ ?_|refine⟨_,_,_,rfl,?_⟩|refine⟨_,rfl,?_⟩|refine X0 ?_|refine(ih x I.m _ I.r (by omega)) _ _ ?_|fail
   rename_i N2 ac d' N3 J hx O aj ae;have am:=hr.len;have ao:(l.take i).length=i:=by rw[nC];omega
   refine⟨by unfold zA;simp only[oK,nc];omega,λc2=>?_⟩;exact(ab _ (by omega)).2 _ _ _ rfl (by rw[zX I.g];exact hr.snoc hx) (xJ (ho.mono (oD _) ac) (zl O) (by omega) J)
theorem pR (t u:Ty)(d e:D)(hd:t.Is d)(he:u.Is e)(I:t.cnt<=1073741824)(J:u.cnt<=1073741824):E8 139 [.dg 2 d,.dg 2 e] (wD t u):=λN Q hQ=>by
 refine Ez N _ _ Q λ_ _=>?_
 repeat' first|with_reducible intro _|simp only[Y1]|with_reducible refine X ?_ ?_|refine⟨_,_,_,rfl,?_⟩|refine⟨_,rfl,?_⟩|refine X0 ?_|refine(zO t d hd I) _ _ ?_|refine(zO u e he J) _ _ ?_|fail
 rename_i N1 O d1 N2 ab h1 o1 ac b1 N3 U d2 N4 Y h2 o2 ae b2 a' N5 ah hf N6 aa;exact hQ _ _ (by omega) (Ty.is_mk.2 ⟨_,_,_,rfl,by simp,_,_,rfl,h1,_,_,rfl,h2,rfl⟩)
  (tv (zH (zl ((AH (xJ ((zl o1).mono O U) (zl o2) (by omega) Y) hf (by omega)).mono (oD _) aa))))
theorem KH (t:Ty)(d:D)(hd:t.Is d)(I:t.cnt<=1073741824):E8 138 [.dg 2 d] (wM t):=λN Q U=>by
 refine DW N _ Q λ_=>?_
 repeat' first|with_reducible intro _|simp only[Y1]|with_reducible refine X ?_ ?_|refine⟨_,_,_,rfl,?_⟩|refine⟨_,rfl,?_⟩|refine X0 ?_|refine(zO t d hd I) _ _ ?_|fail
 rename_i N1 J d1 N2 Y h1 o1 aa b1 a' N5 ab hf N6 O;exact U _ _ (by omega) (Ty.is_mk.2 ⟨_,_,_,rfl,by simp,_,_,rfl,h1,rfl⟩)
  (tv (zH (zl ((AH ((zl o1).mono J (oD _)) hf (by omega)).mono (oD _) O))))
theorem upN {n:Nat}(hn:n<=4611686018427387904)(P:Nat->Prop)(hend:decide ((n:Int)<(n:Int))=false->P n)(hstep:∀ i:Nat,i<n->decide ((i:Int)<(n:Int))=true->IntKind.i64.wrap ((i:Int)+1)=((i+1:Nat):Int)->P (i+1)->P i):P 0:=by
 have key : ∀(m i:Nat),i+m=n->P i:=by
  intro m
  induction m with
  | zero => intro i h;have:i=n:=by omega
            subst this;exact hend (by simp)
  | succ m ih=>intro i h;exact hstep i (by omega) (mJ (by omega)) (by rw[i64_in _ (by omega)];simp) (ih (i+1) (by omega))
 exact key n 0 (by omega)
abbrev Eg (s:ByteArray)(i:Nat):Int:=((s.data.getD i (OfNat.ofNat 0)).toNat:Int)
def I4 (s:ByteArray)(i:Nat):Bool:=(decide (Eg s i≥97)&&decide (Eg s i<=122))||(!(decide ((i:Int)=0))&&(!(decide (Eg s i<48))&&!(decide (Eg s i>57))))
def sn (s:ByteArray)(i:Nat):Bool:=(List.range' i (s.size - i)).all (I4 s)
theorem C3 (h:i<s.size):sn s i=(I4 s i&&sn s (i+1)):=by unfold sn;rw[show s.size - i=(s.size - (i+1))+1 by omega,List.range'_succ];rfl
theorem Ep:sn s s.size=true:=by simp[sn]
def Jn (s:ByteArray):Bool:=inB s.size 1 4&&(!(decide (s=bytes [105,102]))&&(!(decide (s=bytes [108,101,116]))&&(!(decide (s=bytes [114,101,99]))&&(!(decide (s=bytes [114,117,110]))&&!(decide (s=bytes [108,105,102,116]))))))
def yk (s:ByteArray):Bool:=sn s 0&&Jn s
theorem qC (s:ByteArray)(hs:s.size<=4611686018427387904):vM 109 [.str s] (yk s):=λN Q Y=>by
 refine LS N s Q ?_;have key:=upN hs (λi=>∀ N',N<=N'->(∀ N'',N'<=N''->Q (sn s i&&Jn s) N'')->xP Q N s i N') ?_ ?_
 ·exact key N (oD _) Y
 ·intro J N' O I;refine pi ?_
  repeat' first|with_reducible intro _|simp only[J,Y1]|with_reducible refine X ?_ ?_|refine⟨_,_,_,rfl,?_⟩|refine⟨_,rfl,?_⟩|refine X0 ?_|refine(xH _ _ _) _ _ ?_|fail
  all_goals(refine Qb (I _ (by omega)) ?_;rw[Ep])
  all_goals simp[Jn,sR, *]
 ·intro i hi J hw U N' O I;refine pi ?_;rw[C3 hi]at I
  repeat' first|with_reducible intro _|simp only[J,hw,oI,Y1]|with_reducible refine X ?_ ?_|refine⟨_,_,_,rfl,?_⟩|refine⟨_,rfl,?_⟩|refine X0 ?_|fail
  all_goals first
   | (refine Qb (I _ (by omega)) ?_;unfold I4 Eg;simp only[*];simp;done)
   | (refine U _ (by omega) λN'' h=>Qb (I N'' (by omega)) ?_;unfold I4 Eg;simp only[*];simp;done)
inductive Tm where
 | mk (k:Int) (nm ot:ByteArray) (n:Int) (ty re:Ty) (l:List Tm)
variable {e e0:Tm} {l:List Tm}
def Tm.as:Tm->List Tm
 | .mk _ _ _ _ _ _ l=>l
structure Tm.Hd (nm ot:ByteArray) (ty re:Ty) (t0 t1 r0 r1:D):Prop where
 nm:nm.size<=4611686018427387904
 ot:ot.size<=4611686018427387904
 ty:ty.Is (.ag [t0,t1])
 re:re.Is (.ag [r0,r1])
mutual
def Tm.Is:Tm->D->Prop
 | .mk k nm ot n ty re l,d=>∃ t0 t1 r0 r1 a es c,d=.ag [.j k,.t nm,.t ot,.j n,t0,t1,r0,r1,.sl a 9 es c]/\Tm.Hd nm ot ty re t0 t1 r0 r1/\es.length<=4611686018427387904/\Rm l es
def Rm:List Tm->List D->Prop
 | [],es=>es=[]
 | t::I,es=>∃ d ds,es=d::ds/\t.Is d/\Rm I ds
end
theorem K4:∀ {l:List Tm}{es:List D},Rm l es↔All2 Tm.Is l es
 | [],es=>by simp only[Rm,All2]
 | t::U,es=>by simp only[Rm,All2];exact⟨λ⟨d,ds,I,J,O⟩=>⟨d,ds,I,J,K4.1 O⟩,λ⟨d,ds,I,J,O⟩=>⟨d,ds,I,J,K4.2 O⟩⟩
theorem Tm.is_mk {k:Int}:(Tm.mk k nm ot n ty re l).Is d ↔
  ∃ t0 t1 r0 r1 a es c,d=.ag [.j k,.t nm,.t ot,.j n,t0,t1,r0,r1,.sl a 9 es c]/\Tm.Hd nm ot ty re t0 t1 r0 r1/\es.length<=4611686018427387904/\All2 Tm.Is l es:=by
 simp only[Tm.Is,K4]
theorem Tm.ind {P:Tm->Prop}(h:∀ k nm ot n ty re l,(∀ t∈l,P t)->P (.mk k nm ot n ty re l)):∀ t,P t:=λt=>
 Tm.rec (motive_1:=P) (motive_2:=λl=>∀ t∈l,P t) (λk nm ot n ty re l I=>h k nm ot n ty re l I) (by simp) (λt l J O u hu=>by
  rcases oH.1 hu with rfl | hu
  ·exact J
  ·exact O u hu) t
mutual
def Tm.cnt:Tm->Nat
 | .mk _ _ _ _ ty re l=>1+ty.cnt+re.cnt+zG l
def zG:List Tm->Nat
 | []=>0
 | t::I=>t.cnt+zG I
end
theorem yJ:∀ {l:List Tm}{t:Tm},t∈l->t.cnt<=zG l
 | u::us,t,h=>by
   simp only[zG];rcases oH.1 h with rfl | h
   ·omega
   ·have:=yJ h;omega
theorem xh:∀ l:List Tm,l.length<=zG l
 | []=>oD _
 | .mk _ _ _ _ _ _ _::I=>by simp only[zG,Tm.cnt,oJ];have:=xh I;omega
mutual
def Tm.dp:Tm->Nat
 | .mk _ _ _ _ _ _ l=>ut l+1
def ut:List Tm->Nat
 | []=>0
 | t::I=>max t.dp (ut I)
end
mutual
theorem Tm.dp_cnt:∀ t:Tm,t.dp<=t.cnt
 | .mk _ _ _ _ ty re l=>by simp only[Tm.dp,Tm.cnt];have:=DE l;omega
theorem DE:∀ l:List Tm,ut l<=zG l
 | []=>oD _
 | t::I=>by simp only[ut,zG];have:=t.dp_cnt;have:=DE I;omega
end
theorem Tm.dp_pos (t:Tm):1<=t.dp:=by cases t;simp only[Tm.dp];omega
theorem tJ:∀ {l:List Tm}{t:Tm},t∈l->t.dp<=ut l
 | u::us,t,h=>by
   simp only[ut];rcases oH.1 h with rfl | h
   ·omega
   ·have:=tJ h;omega
mutual
def Tm.G:Tm->Prop
 | .mk _ _ _ _ ty re l=>ty.cnt<=1073741824/\re.cnt<=1073741824/\l.length<=1073741824/\QR l
def QR:List Tm->Prop
 | []=>True
 | t::I=>t.G/\QR I
end
theorem yb:∀ {l:List Tm}{x:Tm},QR l->x∈l->x.G
 | t::I,x,h,hx=>by
   rcases oH.1 hx with rfl | hx
   ·exact h.1
   ·exact yb h.2 hx
theorem HM:∀ {l:List Tm},(∀ x∈l,x.G)->QR l
 | [],_=>trivial
 | t::I,h=>⟨h t (by simp),HM λx hx=>h x (by simp[hx])⟩
mutual
theorem Tm.G_cnt:∀ t:Tm,t.cnt<=1073741824->t.G
 | .mk _ _ _ _ ty re l,h=>by
   simp only[Tm.cnt]at h
   have:=xh l
   exact⟨by omega,by omega,by omega,QS l (by omega)⟩
theorem QS:∀ l:List Tm,zG l<=1073741824->QR l
 | [],_=>trivial
 | t::I,h=>by
   simp only[zG]at h
   exact⟨Tm.G_cnt t (by omega),QS I (by omega)⟩
end
structure Tg where
 nm:ByteArray
 ty:Ty
 lv:Int
variable {g:List Tg}
def Tg.Is (g:Tg)(d:D):Prop:=∃ t0 t1,d=.ag [.t g.nm,t0,t1,.j g.lv]/\g.nm.size<=4611686018427387904/\g.ty.Is (.ag [t0,t1])
theorem Tg.is_mk {lv:Int}:(Tg.mk nm ty lv).Is d↔∃ t0 t1,d=.ag [.t nm,t0,t1,.j lv]/\nm.size<=4611686018427387904/\ty.Is (.ag [t0,t1]):=lO
def JO (s:ByteArray):Int:=if s=bytes [43]then 2 else if s=bytes [45]then 2 else if s=bytes [42]then 2 else if s=bytes [61]then 2 else if s=bytes [60]then 2 else if s=bytes [38]then 2 else if s=bytes [124]then 2 else if s=bytes [33]then 1 else 0
theorem BO (s:ByteArray):pI 183 [.str s] (JO s):=λN Q I=>by
 refine Ia N s Q ?_
 repeat' first|with_reducible intro _|simp only[Y1]|with_reducible refine X ?_ ?_|refine⟨_,_,_,rfl,?_⟩|refine⟨_,rfl,?_⟩|refine X0 ?_|fail
 all_goals(refine Qi (I _ (by assumption)) ?_;unfold JO;(repeat' split)<;>first | rfl | contradiction)
def Ty.zero (t:Ty):Bool:=t.k==0&&(t.as.length:Int)==0
theorem Ce (t:Ty)(d:D)(hd:t.Is d):vM 181 [.dg 2 d] t.zero:=λN Q O=>by
 cases t with
 | mk k l=>
 obtain⟨a,es,c,rfl,J,I⟩:=Ty.is_mk.1 hd;have U:=I.len;refine Lj N _ Q λ_=>?_
 repeat' first|with_reducible intro _|simp only[Y1]|with_reducible refine X ?_ ?_|refine⟨_,_,_,rfl,?_⟩|refine⟨_,rfl,?_⟩|refine X0 ?_|fail
 all_goals refine Qb (O _ (by assumption)) ?_
 all_goals simp[Ty.zero,Ty.k,Ty.as,U, *]
def xV (k:Int)(nm ot:ByteArray):Bool:=
 if k=4 then decide (JO nm>0)&&decide (ot=bytes [])else if k=1\/k=6\/k=8 then yk nm&&decide (ot=bytes [])else if k=9 then yk nm&&(yk ot&&!decide (nm=ot))else decide (nm=bytes [])&&decide (ot=bytes [])
theorem zAb (a b:Int):(a==b)=decide (a=b):=by rw[mG];simp
def rp (k:Int):Bool:=k==6||k==9
def zK (k:Int)(nm ot:ByteArray)(n:Int)(ty re:Ty):Bool:=
 (rp k==ty.valid)&&((rp k||ty.zero)&&(((k==9)==re.valid)&&((k==9||re.zero)&&(inB n 0 (if k=2 then 10006 else if k=3 then 1 else 0)&&xV k nm ot))))
def sA (k:Int)(nm:ByteArray):Int:=
 if k=1\/k=2\/k=3 then 0 else if k=4 then JO nm else if k=6\/k=9\/k=10\/k=11\/k=12\/k=13 then 1 else if k=7\/k=8 then 2 else if k=5 then 3 else -1
mutual
def Tm.ok:Tm->Bool
 | .mk k nm ot n ty re l=>AR l&&(zK k nm ot n ty re&&(l.length:Int)==sA k nm)
def AR:List Tm->Bool
 | []=>true
 | t::I=>t.ok&&AR I
end
theorem IF {k:Int}{r0:D}(h:Tm.Hd nm ot ty re t0 t1 r0 r1):vM 182 [.dg 9 (.ag [.j k,.t nm,.t ot,.j n,t0,t1,r0,r1,x])] (xV k nm ot):=λN Q I=>by
 refine Ip N _ Q λ_=>?_
 repeat' first|with_reducible intro _|simp only[Y1]|with_reducible refine X ?_ ?_|refine⟨_,_,_,rfl,?_⟩|refine⟨_,rfl,?_⟩|refine X0 ?_|refine(BO _) _ _ ?_|refine(qC _ h.nm) _ _ ?_|refine(qC _ h.ot) _ _ ?_|fail
 all_goals(refine Qb (I _ (by omega)) ?_;simp[xV,sR, *])
theorem GV {k:Int}{r0:D}(h:Tm.Hd nm ot ty re t0 t1 r0 r1)(hc:ty.cnt<=1073741824)(I:re.cnt<=1073741824):
  vM 130 [.dg 9 (.ag [.j k,.t nm,.t ot,.j n,t0,t1,r0,r1,x])] (zK k nm ot n ty re):=λN Q J=>by
 refine Hq N _ Q λ_=>?_
 repeat' first|with_reducible intro _|simp only[Y1]|with_reducible refine X ?_ ?_|refine⟨_,_,_,rfl,?_⟩|refine⟨_,rfl,?_⟩|refine X0 ?_|refine(wC _ _ h.ty hc) _ _ ?_|refine(wC _ _ h.re I) _ _ ?_|refine(Ce _ _ h.ty) _ _ ?_|refine(Ce _ _ h.re) _ _ ?_|refine(xH _ _ _) _ _ ?_|refine(IF h) _ _ ?_|fail
 all_goals first | (exfalso;omega) | (refine Qb (J _ (by omega)) ?_;simp[zK,rp, *];done) | (refine Qb (J _ (by omega)) ?_;simp_all[zK,rp];done) | (refine Qb (J _ (by omega)) ?_;simp_all only[zK,rp,zAb];simp_all;done)
theorem wc {k:Int}{r0:D}:pI 131 [.dg 9 (.ag [.j k,.t nm,.t ot,.j n,t0,t1,r0,r1,x])] (sA k nm):=λN Q I=>by
 refine Im N _ Q λ_=>?_
 repeat' first|with_reducible intro _|simp only[Y1]|with_reducible refine X ?_ ?_|refine⟨_,_,_,rfl,?_⟩|refine⟨_,rfl,?_⟩|refine X0 ?_|refine(BO _) _ _ ?_|fail
 all_goals(refine Qi (I _ (by omega)) ?_;simp[sA, *])
theorem BN:∀(t:Tm)(d:D),t.Is d->t.G->vM 79 [.dg 9 d] t.ok:=by
 refine Tm.ind λk nm ot n ty re l ih d hd hc N Q hQ=>?_;obtain⟨t0,t1,r0,r1,a,es,c,rfl,hh,O,U⟩:=Tm.is_mk.1 hd;have hl:=U.len;obtain⟨g1,g2,_,g4⟩:=hc;refine LT N _ Q λ_=>?_;have key:=up U O (λi xs=>∀(N':Nat),N<=N'->(∀ N'',N'<=N''->Q (AR xs&&(zK k nm ot n ty re&&(l.length:Int)==sA k nm)) N'')->vU Q N i (.ag [.j k,.t nm,.t ot,.j n,t0,t1,r0,r1,.sl a 9 es c]) N') ?_ ?_
 ·exact key N (oD _) hQ
 ·intro i Y _ N' aa J;refine pj ?_
  repeat' first|with_reducible intro _|simp only[Y,Y1]|with_reducible refine X ?_ ?_|refine⟨_,_,_,rfl,?_⟩|refine⟨_,rfl,?_⟩|refine X0 ?_|refine(GV hh (by omega) (by omega)) _ _ ?_|refine wc _ _ ?_|fail
  all_goals(refine Qb (J _ (by omega)) ?_;simp[AR, *])
 ·intro i x xs I _ ab N' aa J;have hb:=I.b;have ac:=yb g4 I.m;refine pj ?_
  repeat' first|with_reducible intro _|simp only[I.lt,I.w,oI,Y1]|with_reducible refine X ?_ ?_|refine⟨_,_,_,rfl,?_⟩|refine⟨_,rfl,?_⟩|refine X0 ?_|refine(ih x I.m _ I.r ac) _ _ ?_|fail
  ·refine Qb (J _ (by omega)) ?_;simp[AR, *]
  ·exact ab _ (by omega) λN'' h=>Qb (J N'' (by omega)) (by simp[AR, *])
theorem CY (t:Tm)(d:D)(h:t.Is d)(hc:t.cnt<=1073741824):vM 79 [.dg 9 d] t.ok:=BN t d h (Tm.G_cnt t hc)
theorem za {a:Int}:inB n a b=true↔a<=n/\n<=b:=by simp[inB]
def zP (k n:Int):Int:=if k=10 then n+1 else if k=11 then n - 1 else n
mutual
def Tm.lev:Tm->Int->Bool
 | .mk k _ _ _ _ _ l,n=>inB n 0 2&&ui l (zP k n)
def ui:List Tm->Int->Bool
 | [],_=>true
 | t::I,n=>t.lev n&&ui I n
end
theorem qE {k:Int}{c1 I J O U Y c8:D}(h:0<=m/\m<=2):pI 178 [.dg 9 (.ag [.j k,c1,I,.j n,J,O,U,Y,c8]),.j m] (zP k m):=λN Q hQ=>by
 refine DY N _ m Q λ_=>?_;rw[i64_in (m+1) (by omega),i64_in (m - 1) (by omega)]
 repeat' first|with_reducible intro _|simp only[Y1]|with_reducible refine X ?_ ?_|refine⟨_,_,_,rfl,?_⟩|refine⟨_,rfl,?_⟩|refine X0 ?_|fail
 all_goals(refine Qi (hQ _ (by omega)) ?_;simp[zP, *])
theorem GW:∀(t:Tm)(d:D),t.Is d->∀ m:Int,vM 123 [.dg 9 d,.j m] (t.lev m):=by
 refine Tm.ind λk nm ot n ty re l ih d hd m N Q hQ=>?_;obtain⟨t0,t1,r0,r1,a,es,c,rfl,hh,U,Y⟩:=Tm.is_mk.1 hd;have hl:=Y.len;refine PJ N _ m Q λ_=>?_;cases I:inB m 0 2 with
 | false=>
   repeat' first|with_reducible intro _|simp only[I,Y1]|with_reducible refine X ?_ ?_|refine⟨_,_,_,rfl,?_⟩|refine⟨_,rfl,?_⟩|refine X0 ?_|refine(xH _ _ _) _ _ ?_|fail
   exact Qb (hQ _ (by omega)) (by simp[Tm.lev,I])
 | true=>
   have hb:=za.1 I;have key:=up Y U (λi xs=>∀(N':Nat),N<=N'->(∀ N'',N'<=N''->Q (ui xs (zP k m)) N'')->tA Q N m i (.ag [.j k,.t nm,.t ot,.j n,t0,t1,r0,r1,.sl a 9 es c]) N') ?_ ?_
   ·repeat' first|with_reducible intro _|simp only[I,Y1]|with_reducible refine X ?_ ?_|refine⟨_,_,_,rfl,?_⟩|refine⟨_,rfl,?_⟩|refine X0 ?_|refine(xH _ _ _) _ _ ?_|fail
    exact key _ (by omega) λN'' h=>Qb (hQ N'' (by omega)) (by simp[Tm.lev,I])
   ·intro i aa _ N' ab O;refine Cy ?_
    repeat' first|with_reducible intro _|simp only[aa,Y1]|with_reducible refine X ?_ ?_|refine⟨_,_,_,rfl,?_⟩|refine⟨_,rfl,?_⟩|refine X0 ?_|fail
    exact Qb (O _ (by omega)) (by simp[ui])
   ·intro i x xs J _ ac N' ab O;have ae:=J.b;refine Cy ?_
    repeat' first|with_reducible intro _|simp only[J.lt,J.w,oI,Y1]|with_reducible refine X ?_ ?_|refine⟨_,_,_,rfl,?_⟩|refine⟨_,rfl,?_⟩|refine X0 ?_|refine(qE hb) _ _ ?_|refine(ih x J.m _ J.r _) _ _ ?_|fail
    ·refine Qb (O _ (by omega)) ?_;simp[ui, *]
    ·exact ac _ (by omega) λN'' h=>Qb (O N'' (by omega)) (by simp[ui, *])
def s9 (t:Tm)(n:Int):Bool:=t.ok&&t.lev n
theorem FF (t:Tm)(d:D)(hd:t.Is d)(hc:t.G)(m:Int):vM 75 [.dg 9 d,.j m] (s9 t m):=λN Q I=>by
 refine Hl N _ m Q λ_=>?_
 repeat' first|with_reducible intro _|simp only[Y1]|with_reducible refine X ?_ ?_|refine⟨_,_,_,rfl,?_⟩|refine⟨_,rfl,?_⟩|refine X0 ?_|refine(BN t d hd hc) _ _ ?_|refine(GW t d hd m) _ _ ?_|fail
 all_goals(refine Qb (I _ (by omega)) ?_;simp[s9, *])
theorem GU (t:Tm)(d:D)(hd:t.Is d)(hc:t.cnt<=1073741824)(m:Int):vM 75 [.dg 9 d,.j m] (s9 t m):=FF t d hd (Tm.G_cnt t hc) m
structure Ctx (g:List Tg) (es:List D):Prop where
 len:es.length<=4611686018427387904
 all:All2 Tg.Is g es
def Tg.ok (g:Tg):Bool:=yk g.nm&&(g.ty.valid&&inB g.lv 0 2)
def NJ:List Tg->Bool
 | []=>true
 | g::I=>g.ok&&NJ I
def IG (g:List Tg):Bool:=NJ g&&decide ((g.length:Int)<=12)
def tg0:Tg:=⟨bytes [],tZero,0⟩
def wZ (g:List Tg)(s:ByteArray):Nat->Int
 | 0 => -1
 | k+1=>if(g.getD k tg0).nm=s then k else wZ g s k
def zL (g:List Tg)(s:ByteArray):Int:=wZ g s g.length
theorem AE (g:List Tg)(s:ByteArray):∀ n:Nat,wZ g s n = -1\/(0<=wZ g s n/\wZ g s n<n)
 | 0=>.inl rfl
 | n+1=>by
   simp only[wZ];split
   ·exact .inr (by omega)
   ·rcases AE g s n with h | h
    ·exact .inl h
    ·exact .inr (by omega)
theorem zA1 {α:Type}{R:α->D->Prop}{l:List α}(h:All2 R l es)(I:es.length<=4611686018427387904)(P:Int->Prop)(O:P (-1))(hs:∀(i:Nat) x,At R l es i x->decide ((i:Int)≥0)=true->IntKind.i64.wrap ((i:Int) - 1)=(i:Int) - 1->P ((i:Int) - 1)->P i):P ((es.length:Int) - 1):=by
 have U:=h.len;have key:∀ n:Nat,n<=l.length->P ((n:Int) - 1):=by
  intro n
  induction n with
  | zero=>intro _;exact O
  | succ n Y=>
    intro hn;have J:l[n]?=some l[n]:=oF hn;have e:((n+1:Nat):Int) - 1=n:=by omega
    rw[e];exact hs n _ ⟨mJ (by omega),⟨by omega,by omega⟩,by rw[i64_in _ (by omega)];simp,h.get J,mM hn,J⟩ (mJ (by omega)) (i64_in _ (by omega)) (Y (by omega))
 rw[U];exact key _ (oD _)
theorem KZ {α:Type}{l:List α}{x d:α}(h:l[i]?=some x):l.getD i d=x:=by simp[oB,h]
theorem tD (h:Ctx g es)(a:Option Addr)(c:Nat)(s:ByteArray):pI 168 [.sv a 4 es c,.str s] (zL g s):=λN Q hQ=>by
 have hl:=h.all.len;have h1:=h.len;refine Lm N a es c s Q λ_=>?_;have key:=zA1 h.all h.len (λm=>∀(N':Nat),N<=N'->(∀ N'',N'<=N''->Q (wZ g s (m+1).toNat) N'')->vl Q N a es c s m N') ?_ ?_
 ·rw[i64_in _ (by omega)];exact key N (oD _) λN' J=>Qi (hQ N' J) (by rw[zL,<-hl];congr 1;omega)
 ·intro N' J I;refine AD ?_
  repeat' first|with_reducible intro _|simp only[Y1]|with_reducible refine X ?_ ?_|refine⟨_,_,_,rfl,?_⟩|refine⟨_,rfl,?_⟩|refine X0 ?_|fail
  ·omega
  ·exact I _ (by assumption)
 ·intro i x O U hw Y N' J I;have hb:=O.b;obtain⟨t0,t1,hd,hs,ht⟩:=O.r;have e1:((i:Int)+1).toNat=i+1:=by omega
  have e2:((i:Int) - 1+1).toNat=i:=by omega
  rw[e1]at I;simp only[wZ,KZ O.g]at I;rw[e2]at Y;refine AD ?_
  repeat' first|with_reducible intro _|simp only[U,hw,oI,hd,Y1]|with_reducible refine X ?_ ?_|refine⟨_,_,_,rfl,?_⟩|refine⟨_,rfl,?_⟩|refine X0 ?_|fail
  ·rename_i hx _ _;exact Qi (I _ (by omega)) (by rw[if_pos hx])
  ·rename_i hx;exact Y _ (by omega) λN'' h=>Qi (I N'' (by omega)) (by rw[if_neg hx])
theorem Ty.is_cells (h:t.Is d):t.Is (.ag [D.cell d 0,D.cell d 1]):=by
 cases t with
 | mk k l=>obtain⟨a,es,c,rfl,_,_⟩:=Ty.is_mk.1 h;exact h
def rj (g:List Tg)(n:Int)(x:Tg)(i:Nat):Bool:=x.ty.base&&(decide (x.lv<=n)&&decide (zL g x.nm=(i:Int)))
def vL (g:List Tg)(n:Int):List Tg->Nat->List Tg
 | [],_=>[]
 | x::xs,i=>if rj g n x i then x::vL g n xs (i+1)else vL g n xs (i+1)
def uE (g:List Tg)(n:Int):List Tg:=vL g n g 0
theorem EF (g:List Tg)(n:Int):∀(l:List Tg)(i:Nat),(∀ x∈vL g n l i,x∈l)/\(vL g n l i).length<=l.length
 | [],i=>by simp[vL]
 | x::xs,i=>by
   have h:=EF g n xs (i+1);simp only[vL];split
   ·refine⟨λy hy=>?_,by simp;exact h.2⟩;rcases oH.1 hy with rfl | hy
    ·exact nf
    ·exact nz _ (h.1 y hy)
   ·exact⟨λy hy=>nz _ (h.1 y hy),by have:=h.2;simp;omega⟩
theorem BP (h:Ctx g es)(hg:g.length<=1073741824)(hc:∀ x∈g,x.ty.cnt<=1073741824)(a:Option Addr)(c:Nat)(n:Int):
  ∀(N:Nat) (Q:QT [.sl 4]),(∀ a' es' c' N',N<=N'->Ctx (uE g n) es'->Q a' es' c' N')->ACalls prog 196 [.sl 4] [.sv a 4 es c,.j n] N Q:=λN Q hQ=>by
 have hl:=h.all.len;refine Ic N a es c n Q λ_=>?_;have key:=up h.all h.len (λi xs=>∀(r:List D) (m q:Nat) (N':Nat) (done:List Tg),N<=N'->m=r.length->All2 Tg.Is done r->done.length<=i->done++vL g n xs i=uE g n->yU Q N a es c n m q i r q N') ?_ ?_
 ·exact key [] 0 0 N [] (oD _) rfl rfl (oD _) rfl
 ·intro i O hi r m q N' done U hm hr Y hd;refine qq ?_
  repeat' first|with_reducible intro _|simp only[O,Y1]|with_reducible refine X ?_ ?_|refine⟨_,_,_,rfl,?_⟩|refine⟨_,rfl,?_⟩|refine X0 ?_|fail
  refine hQ _ _ _ _ (by omega) ⟨by have:=hr.len;omega,?_⟩;simp only[vL,ou]at hd;rwa[<-hd]
 ·intro i x xs I _ J r m q N' done U hm hr Y hd;have hb:=I.b;have ab:=hr.len;obtain⟨t0,t1,he,hs,ht⟩:=I.r;simp only[vL]at hd;refine qq ?_
  repeat' first|with_reducible intro _|simp only[I.lt,I.w,oI,he,Y1]|with_reducible refine X ?_ ?_|refine⟨_,_,_,rfl,?_⟩|refine⟨_,rfl,?_⟩|refine X0 ?_|refine(qB _ _ ht) _ _ ?_|refine(tD h a c _) _ _ ?_|refine(zO _ _ ht (hc x I.m)) _ _ ?_|fail
  ·rename_i N2 ac x' N3 ae hx ho _ _;have aa:rj g n x i=true:=by simp[rj, *]
   rw[if_pos aa]at hd;refine⟨by unfold zA;simp only[oK,nc];omega,λc2=>J _ _ _ _ (done++[x]) (by omega) rfl (hr.snoc ⟨_,_,rfl,hs,Ty.is_cells hx⟩) (by simp;omega) (by simpa using hd)⟩
  all_goals(refine J _ _ _ _ done (by omega) hm hr (by omega) ?_;rw[<-hd,if_neg (by simp[rj, *])])
theorem xD (h:Ctx g es)(hg:g.length<=1073741824)(a:Option Addr)(c:Nat)(hs:s.size<=4611686018427387904)(I:t.Is d)(n:Int):
  ∀(N:Nat) (Q:QT [.sl 4]),(∀ J es' O N',N<=N'->Ctx (g++[⟨s,t,n⟩]) es'->Q J es' O N')->ACalls prog 118 [.sl 4] [.sv a 4 es c,.str s,.dg 2 d,.j n] N Q:=λN Q U=>by
 have hl:=h.all.len;have Y:∀ x:D,zA ([]++es) [x] 56:=λx=>by unfold zA;simp only[oV,oK,nc];omega
 have aa:zA [] es 56:=by unfold zA;simp only[oV];omega
 refine Lp N a es c s d n Q λ_ _=>?_
 repeat' first|with_reducible intro _|simp only[Y1]|with_reducible refine X ?_ ?_|refine⟨_,_,_,rfl,?_⟩|refine⟨_,rfl,?_⟩|refine X0 ?_|fail
 refine⟨Y _,λc2=>?_⟩
 repeat' first|with_reducible intro _|simp only[Y1]|with_reducible refine X ?_ ?_|refine⟨_,_,_,rfl,?_⟩|refine⟨_,rfl,?_⟩|refine X0 ?_|fail
 refine U _ _ _ _ (by omega) ⟨by simp;omega,?_⟩;simp only[oV];exact h.all.snoc ⟨_,_,rfl,hs,Ty.is_cells I⟩
def Qg (o:Option Ty)(d:D)(b:Bool):Prop:=match o with
 | some t=>b=true/\t.Is d
 | none=>b=false
def G3 (s:ByteArray):Int:=if s=bytes [38]then 2 else if s=bytes [124]then 2 else if s=bytes [33]then 2 else 1
def rh (s:ByteArray):Ty:=if s=bytes [43]then tInt else if s=bytes [45]then tInt else if s=bytes [42]then tInt else tBool
def Qj (w:Int):List Ty->Bool
 | []=>true
 | t::I=>decide (t.k=w)&&Qj w I
def Ri (s:ByteArray)(I:List Ty):Option Ty:=if Qj (G3 s) I then some (rh s)else none
theorem OF {ts:List Ty}(h:All2 Ty.Is ts es)(hlen:es.length<=4611686018427387904)(a:Option Addr)(c:Nat)(s:ByteArray):
  ∀(N:Nat) (Q:QT [.ag 2,.bool]),(∀ d b N',N<=N'->Qg (Ri s ts) d b->(∀ x∈d.foot,N<=x)->Q d b N')->ACalls prog 197 [.ag 2,.bool] [.str s,.sv a 2 es c] N Q:=fun N Q hQ=>by
 refine PK N s a es c Q fun _=>?_;have key:xB Q N s a es c (G3 s) (0:Nat) 0 none [] 0 N:=by
  refine up h hlen (fun i xs=>∀(N':Nat),N<=N'->Qj (G3 s) xs=Qj (G3 s) ts->xB Q N s a es c (G3 s) i 0 none [] 0 N') ?_ ?_ N (oD _) rfl
  ·intro i hlt _ N' hN' hk;refine Cz ?_;have ho:Ri s ts=some (rh s):=by rw[Ri,<-hk];rfl
   rw[ho]at hQ
   repeat' first|with_reducible intro _|simp only[hlt,Y1]|with_reducible refine X ?_ ?_|refine⟨_,_,_,rfl,?_⟩|refine⟨_,rfl,?_⟩|refine X0 ?_|refine vF _ _ ?_|refine tC _ _ ?_|fail
   all_goals
    rename_i hx ho _ _ _ _;refine hQ _ _ _ (by omega) ⟨rfl,?_⟩ fun b hb=>by have:=ho.lo b hb;omega
    have e:rh s=tInt\/rh s=tBool:=by unfold rh;(repeat' split)<;>simp
    first
     | (have e:rh s=tInt:=by unfold rh;(repeat' split)<;>first | rfl | contradiction
        rw[e];exact hx)
     | (have e:rh s=tBool:=by unfold rh;(repeat' split)<;>first | rfl | contradiction
        rw[e];exact hx)
  ·intro i x xs hat _ ih2 N' hN' hk;have hb:=hat.b;cases x with
   | mk k l=>
   obtain⟨a1,es1,c1,he,_,_⟩:=Ty.is_mk.1 hat.r;refine Cz ?_
   repeat' first|with_reducible intro _|simp only[hat.lt,hat.w,oI,he,Y1]|with_reducible refine X ?_ ?_|refine⟨_,_,_,rfl,?_⟩|refine⟨_,rfl,?_⟩|refine X0 ?_|fail
   ·rename_i hne _ _;refine hQ _ _ _ (by omega) ?_ (by simp[D.foot,zF]);have:Qj (G3 s) ts=false:=by rw[<-hk];simp[Qj,Ty.k,hne]
    rw[Ri,this];rfl
   ·rename_i hne;exact ih2 _ hN' (by rw[<-hk];simp[Qj,Ty.k,hne])
 have e:G3 s=2\/G3 s=1:=by unfold G3;(repeat' split)<;>simp
 repeat' first|with_reducible intro _|simp only[Y1]|with_reducible refine X ?_ ?_|refine⟨_,_,_,rfl,?_⟩|refine⟨_,rfl,?_⟩|refine X0 ?_|fail
 all_goals
  first
   | (have e:G3 s=2:=by unfold G3;(repeat' split)<;>first | rfl | contradiction
      rw[e]at key;exact key)
   | (have e:G3 s=1:=by unfold G3;(repeat' split)<;>first | rfl | contradiction
      rw[e]at key;exact key)
def zm (k:Int)(s:ByteArray)(I:List Ty):Option Ty:=
 if k=4 then Ri s I
 else if k=5 then(if(I.getD 0 tZero).k=2/\sB (I.getD 1 tZero) (I.getD 2 tZero)then some (I.getD 1 tZero)else none)
 else if(I.getD 0 tZero).k=3/\sB ((I.getD 0 tZero).as.getD 0 tZero) (I.getD 1 tZero)then some ((I.getD 0 tZero).as.getD 1 tZero)else none
theorem Ty.form_len {k:Int}{l:List Ty}(h:(Ty.mk k l).valid=true):s7 k l.length=true:=by simp only[Ty.valid,Ty.form,oE]at h;exact h.2.2
theorem Ty.valid_cnt (h:t.valid=true):t.cnt<=30:=by simp only[Ty.valid,oE,oq]at h;exact h.1.1
theorem KJ {I:List Ty}(h:All2 Ty.Is I es)(Y:es.length<=4611686018427387904)(a:Option Addr)(c:Nat){k:Int}{c2 c4 c5 c6 c7 c8:D}(hv:∀ t∈I,t.valid=true)(hk:k=4\/k=5/\I.length=3\/k=7/\I.length=2):
  ∀(N:Nat) (Q:QT [.ag 2,.bool]),(∀ d b N',N<=N'->Qg (zm k s I) d b->(∀ x∈d.foot,x∈zF es\/N<=x)->Q d b N') ->
  ACalls prog 171 [.ag 2,.bool] [.dg 9 (.ag [.j k,.t s,c2,.j n,c4,c5,c6,c7,c8]),.sv a 2 es c] N Q:=λN Q hQ=>by
 refine Ll N _ a es c Q λ_ _=>?_;rcases hk with rfl | ⟨rfl,hl⟩ | ⟨rfl,hl⟩
 ·repeat' first|with_reducible intro _|simp only[Y1]|with_reducible refine X ?_ ?_|refine⟨_,_,_,rfl,?_⟩|refine⟨_,rfl,?_⟩|refine X0 ?_|refine(OF h Y a c s) _ _ ?_|fail
  ·rename_i N1 ac d b N2 ae ho ah _ _ N3 ai;exact hQ _ _ _ (by omega) (by simpa [zm]using ho) λx hx=>.inr (by have:=ah x hx;omega)
  all_goals(exfalso;omega)
 ·obtain⟨t0,t1,t2,rfl⟩:∃ t0 t1 t2,I=[t0,t1,t2]:=by
   match I,hl with
   | [t0,t1,t2],_=>exact⟨t0,t1,t2,rfl⟩
  obtain⟨d0,_,rfl,h0,d1,_,rfl,h1,d2,_,rfl,h2,rfl⟩:=h;cases t0 with
  | mk U J=>
  obtain⟨a0,aj,c0,rfl,ak,aa⟩:=Ty.is_mk.1 h0;have hq:∀(b:Bool) (N':Nat),N<=N'->(U=2/\sB t1 t2=b\/¬U=2/\b=false)->Q d1 b N':=λb N' O hb=>by
   refine hQ _ _ _ O ?_ λx hx=>.inl (by simp only[zF,oM];exact .inr (.inl hx));rcases hb with⟨e1,e2⟩ | ⟨e1,rfl⟩
   ·cases b<;>simp[zm,Ty.k,e1,e2,Qg,h1]
   ·simp[zm,Ty.k,e1,Qg]
  repeat' first|with_reducible intro _|simp only[oJ,oN,Y1]|with_reducible refine X ?_ ?_|refine⟨_,_,_,rfl,?_⟩|refine⟨_,rfl,?_⟩|refine X0 ?_|refine(yv _ _ _ _ h1 h2) _ _ ?_|fail
  all_goals first | (exfalso;omega) | skip
  ·exact hq _ _ (by omega) (.inl ⟨by assumption,rfl⟩)
  ·exact hq _ _ (by omega) (.inr ⟨by assumption,rfl⟩)
 ·obtain⟨t0,t1,rfl⟩:∃ t0 t1,I=[t0,t1]:=by
   match I,hl with
   | [t0,t1],_=>exact⟨t0,t1,rfl⟩
  obtain⟨d0,_,rfl,h0,d1,_,rfl,h1,rfl⟩:=h;cases t0 with
  | mk U J=>
  obtain⟨a0,aj,c0,rfl,ak,aa⟩:=Ty.is_mk.1 h0;have hf:=Ty.form_len (hv _ nf);have al:=Ty.valid_cnt (hv _ nf);have hz:∀ N',N<=N'->¬(U=3/\sB (J.getD 0 tZero) t1=true)->Q (.ag [.j 0,.sl none 2 [] 0]) false N':=λN' O hb=>by
   refine hQ _ _ _ O ?_ (by simp[D.foot,zF]);have:zm 7 s [.mk U J,t1]=none:=by simp only[zm];rw[if_neg (by omega),if_neg (by omega)];exact if_neg hb
   rw[this];rfl
  by_cases hk:U=3
  ·subst hk;have ab:(J.length:Int)=2:=by simpa [s7]using hf
   have ab:J.length=2:=by omega
   obtain⟨u0,u1,rfl⟩:∃ t0 t1,J=[t0,t1]:=by
    match J,ab with
    | [t0,t1],_=>exact⟨t0,t1,rfl⟩
   obtain⟨x0,_,rfl,am,x1,_,rfl,ao,rfl⟩:=aa;simp only[Ty.cnt,zN]at al
   repeat' first|with_reducible intro _|simp only[oJ,oN,Y1]|with_reducible refine X ?_ ?_|refine⟨_,_,_,rfl,?_⟩|refine⟨_,rfl,?_⟩|refine X0 ?_|refine(yv _ _ _ _ am h1) _ _ ?_|refine(zO _ _ ao (by omega)) _ _ ?_|fail
   all_goals first | (exfalso;omega) | skip
   ·rename_i he N1 ac d' N2 ae aq ho _ _ N3 ai;refine hQ _ _ _ (by omega) ?_ λx hx=>.inr (by have:=ho.lo x hx;omega);simp[zm,Ty.k,Ty.as,he,Qg,aq]
   ·rename_i he _ _;exact hz _ (by omega) (by simp[he])
  ·repeat' first|with_reducible intro _|simp only[oJ,oN,Y1]|with_reducible refine X ?_ ?_|refine⟨_,_,_,rfl,?_⟩|refine⟨_,rfl,?_⟩|refine X0 ?_|fail
   all_goals first | (exfalso;omega) | skip
   exact hz _ (by omega) λhc=>hk hc.1
def vld (o:Option Ty):Option Ty:=match o with
 | some t=>if t.valid then some t else none
 | none=>none
def z9 (k:Int)(t:Ty):Option Ty:=
 if k=10 then some (wM t)else if k=13 then(if t.base then some (wM t)else none)else if t.k=4 then some (t.as.getD 0 tZero)else none
def yF (g:List Tg)(s:ByteArray)(n:Int):Option Ty:=
 if zL g s<0 then none else if(g.getD (zL g s).toNat tg0).lv=n then some (g.getD (zL g s).toNat tg0).ty else none
mutual
def Tm.type:Tm->List Tg->Int->Option Ty
 | .mk k nm ot _ ty re l,g,n=>vld (
   if k=1 then yF g nm n
   else if k=2 then some tInt
   else if k=3 then some tBool
   else if k=6 then(match uo l 0 (g++[⟨nm,ty,n⟩]) n with | some b=>some (wD ty b) | none=>none)
   else if k=8 then(match uo l 0 g n with | some a=>uo l 1 (g++[⟨nm,a,n⟩]) n | none=>none)
   else if k=9 then(match uo l 0 ((g++[⟨nm,wD ty re,n⟩])++[⟨ot,ty,n⟩]) n with | some b=>if sB b re then some (wD ty re)else none | none=>none)
   else if k=10\/k=11\/k=12\/k=13 then(match uo l 0 (if k=12 then uE g n else g) (zP k n)with | some t=>z9 k t | none=>none)
   else(match zS l g n with | some I=>zm k nm I | none=>none))
def uo:List Tm->Nat->List Tg->Int->Option Ty
 | [],_,_,_=>none
 | t::_,0,g,n=>t.type g n
 | _::I,i+1,g,n=>uo I i g n
def zS:List Tm->List Tg->Int->Option (List Ty)
 | [],_,_=>some []
 | t::I,g,n=>match t.type g n with
   | some u=>(match zS I g n with | some us=>some (u::us) | none=>none)
   | none=>none
end
theorem Au {o:Option Ty}(h:vld o=some t):o=some t/\t.valid=true:=by
 cases o with
 | none=>cases h
 | some u=>
   simp only[vld]at h;split at h
   ·cases h;exact⟨rfl,by assumption⟩
   ·cases h
theorem Tm.type_valid (h:e.type g n=some t):t.valid=true:=by
 cases e with
 | mk k nm ot m ty re l=>simp only[Tm.type]at h;exact(Au h).2
theorem Iw:∀ {l:List Tm}{g:List Tg}{n:Int}{I:List Ty},zS l g n=some I->I.length=l.length/\∀ t∈I,t.valid=true
 | [],g,n,I,h=>by simp[zS]at h;subst h;simp
 | e :: es,g,n,I,h=>by
   simp only[zS]at h;split at h
   ·rename_i u O;split at h
    ·rename_i us J;cases h
     have:=Iw J
     refine⟨by simp[this.1],λt ht=>?_⟩;rcases oH.1 ht with rfl | ht
     ·exact Tm.type_valid O
     ·exact this.2 t ht
    ·cases h
   ·cases h
structure Pre (g:List Tg) (e:Tm) (n:Int):Prop where
 ok:e.ok=true
 lev:e.lev n=true
 len:g.length+2*e.dp<=1073741824
 ty:∀ x∈g,x.ty.cnt<=64
structure Node (k:Int) (nm ot:ByteArray) (n:Int) (ty re:Ty) (l:List Tm):Prop where
 f:zK k nm ot n ty re=true
 ar:(l.length:Int)=sA k nm
 sub:∀ x∈l,x.ok=true
theorem NQ:∀ {l:List Tm}{x:Tm},AR l=true->x∈l->x.ok=true
 | t::I,x,h,hx=>by
   simp only[AR,oE]at h;rcases oH.1 hx with rfl | hx
   ·exact h.1
   ·exact NQ h.2 hx
theorem EJ:∀ {l:List Tm}{n:Int}{x:Tm},ui l n=true->x∈l->x.lev n=true
 | t::I,n,x,h,hx=>by
   simp only[ui,oE]at h;rcases oH.1 hx with rfl | hx
   ·exact h.1
   ·exact EJ h.2 hx
theorem zT {k:Int}(h:(Tm.mk k nm ot n ty re l).ok=true):Node k nm ot n ty re l:=by simp only[Tm.ok,oE]at h;exact⟨h.2.1,by simpa using h.2.2,λx hx=>NQ h.1 hx⟩
theorem Node.vt {k:Int}(h:Node k nm ot n ty re l)(hk:k=6\/k=9):ty.valid=true:=by
 have:=h.f
 have e:rp k=true:=by rcases hk with rfl | rfl<;>rfl
 simp only[zK,oE,e]at this;simpa using this.1
theorem Node.vr {k:Int}(h:Node k nm ot n ty re l)(hk:k=9):re.valid=true:=by
 have:=h.f
 subst hk;simp only[zK,oE]at this;simpa using this.2.2.1
theorem GA {k:Int}(h:0<=sA k nm):k=1\/k=2\/k=3\/k=4\/k=5\/k=6\/k=7\/k=8\/k=9\/k=10\/k=11\/k=12\/k=13:=by
 unfold sA at h
 (repeat' split at h)<;>omega
theorem Ty.cnt_pos (t:Ty):1<=t.cnt:=by cases t;simp only[Ty.cnt];omega
theorem Pre.sub {g':List Tg}{k:Int}{x:Tm}(h:Pre g (.mk k nm ot m ty re l) n)(hx:x∈l)(O:g'.length<=g.length+2)(I:∀ y∈g',y.ty.cnt<=64):Pre g' x (zP k n):=by
 have J:=h.len;have U:=tJ hx;simp only[Tm.dp]at J;refine⟨(zT h.ok).sub x hx,?_,by omega,I⟩
 have:=h.lev
 simp only[Tm.lev,oE]at this;exact EJ this.2 hx
theorem tV (k:Int)(nm:ByteArray):sA k nm<=3:=by
 unfold sA
 (repeat' split)<;>first | omega | (unfold JO;(repeat' split)<;>omega)
theorem Pre.len1 (h:Pre g e n):g.length+2<=1073741824:=by have I:=h.len;have J:=Tm.dp_pos e;omega
theorem Pre.lv (h:Pre g e n):0<=n/\n<=2:=by
 have:=h.lev
 cases e;simp only[Tm.lev,oE]at this;exact za.1 this.1
theorem qR (h:∀ y∈g,y.ty.cnt<=64){x:Tg}(hx:x.ty.cnt<=64):∀ y∈g++[x],y.ty.cnt<=64:=λy hy=>by
 rcases oM.1 hy with hy | hy
 ·exact h y hy
 ·rw[oW]at hy;subst hy;exact hx
theorem K8 (e:Tm)(g:List Tg)(n:Int):((e.type g n).getD tZero).cnt<=30:=by
 cases h:e.type g n with
 | none=>simp[tZero,Ty.cnt,zN]
 | some t=>simpa using Ty.valid_cnt (Tm.type_valid h)
def Yg (f:FuncId)(args:List PV)(o:Option Ty):Prop:=∀(N:Nat) (Q:QT [.ag 2,.bool]),(∀ d N',N<=N'->(o.getD tZero).Is d->Q d o.isSome N')->ACalls prog f [.ag 2,.bool] args N Q
def Yf (f:FuncId)(args:List PV)(o:Option Ty):Prop:=∀(N:Nat) (Q:QT [.ag 2,.bool]),(∀ d N',N<=N'->(∀ t,o=some t->t.Is d)->Q d o.isSome N')->ACalls prog f [.ag 2,.bool] args N Q
def IH (l:List Tm):Prop:=∀ x∈l,∀ d,x.Is d->∀ g es a c n,Pre g x n->Ctx g es->Yg 62 [.sv a 4 es c,.dg 9 d,.j n] (x.type g n)
theorem W7 {r0:D}(ih:IH [e0])(O:Tm.Hd nm ot ty re t0 t1 r0 r1)(h0:e0.Is d0)(pre:Pre g (.mk 6 nm ot m ty re [e0]) n)(U:Ctx g es):
  Yf 169 [.sv a 4 es c,.dg 9 (.ag [.j 6,.t nm,.t ot,.j m,t0,t1,r0,r1,.sl a1 9 [d0] c1]),.j n] (match e0.type (g++[⟨nm,ty,n⟩]) n with | some b=>some (wD ty b) | none=>none):=λN Q J=>by
 have Y:=pre.len1;have hv:=Ty.valid_cnt ((zT pre.ok).vt (.inl rfl));have hp:Pre (g++[⟨nm,ty,n⟩]) e0 n:=by simpa [zP]using pre.sub (x:=e0) (by simp) (g':=g++[⟨nm,ty,n⟩]) (by simp) (qR pre.ty (show ty.cnt<=64 by omega))
 have hc:=K8 e0 (g++[⟨nm,ty,n⟩]) n;refine qZ N a es c _ n Q λ_ _=>?_
 repeat' first|with_reducible intro _|simp only[oJ,oN,Y1]|with_reducible refine X ?_ ?_|refine⟨_,_,_,rfl,?_⟩|refine⟨_,rfl,?_⟩|refine X0 ?_|refine(xD U (by omega) a c O.nm O.ty n) _ _ ?_|refine(ih e0 nf d0 h0 (g++[⟨nm,ty,n⟩]) _ _ _ n hp (by assumption)) _ _ ?_|refine(pR ty ((e0.type (g++[⟨nm,ty,n⟩]) n).getD tZero) _ _ O.ty (by assumption) (by omega) (by omega)) _ _ ?_|fail
 all_goals first | (exfalso;omega) | skip
 rename_i x1 N6 aa I ho _ _ N7 ab;cases h:e0.type (g++[⟨nm,ty,n⟩]) n with
 | none=>rw[h]at J;exact J _ _ (by omega) (by simp)
 | some b=>rw[h]at J I;exact J _ _ (by omega) (by simpa using I)
theorem W8 {e1:Tm}{r0 d1:D}(Y:IH [e0,e1])(hh:Tm.Hd nm ot ty re t0 t1 r0 r1)(h0:e0.Is d0)(h1:e1.Is d1)(pre:Pre g (.mk 8 nm ot m ty re [e0,e1]) n)(J:Ctx g es):
  Yf 169 [.sv a 4 es c,.dg 9 (.ag [.j 8,.t nm,.t ot,.j m,t0,t1,r0,r1,.sl a1 9 [d0,d1] c1]),.j n] (match e0.type g n with | some b=>e1.type (g++[⟨nm,b,n⟩]) n | none=>none):=λN Q O=>by
 have aa:=pre.len1;have hp:Pre g e0 n:=by simpa [zP]using pre.sub (x:=e0) (by simp) (g':=g) (by simp) pre.ty
 have hc:=K8 e0 g n;have I:=Y e0 nf d0 h0 g es a c n hp J;refine qZ N a es c _ n Q λ_ _=>?_;cases h:e0.type g n with
 | none=>
   rw[h]at O I
   repeat' first|with_reducible intro _|simp only[oJ,oN,ml,Y1]|with_reducible refine X ?_ ?_|refine⟨_,_,_,rfl,?_⟩|refine⟨_,rfl,?_⟩|refine X0 ?_|refine I _ _ ?_|fail
   all_goals first | (exfalso;omega) | skip
   exact O _ _ (by omega) (by simp)
 | some b=>
   rw[h]at O hc I;dsimp only at O;have U:Pre (g++[⟨nm,b,n⟩]) e1 n:=by simpa [zP]using pre.sub (x:=e1) (by simp) (g':=g++[⟨nm,b,n⟩]) (by simp) (qR pre.ty (by simpa using oP hc (by omega)))
   repeat' first|with_reducible intro _|simp only[oJ,oN,mo,Y1]|with_reducible refine X ?_ ?_|refine⟨_,_,_,rfl,?_⟩|refine⟨_,rfl,?_⟩|refine X0 ?_|refine I _ _ ?_|refine(xD J (by omega) a c hh.nm (t:=b) (by assumption) n) _ _ ?_|refine(Y e1 (by simp) d1 h1 (g++[⟨nm,b,n⟩]) _ _ _ n U (by assumption)) _ _ ?_|fail
   all_goals first | (exfalso;omega) | skip
   rename_i hx _ _ _ _;refine O _ _ (by omega) λt ht=>?_;rw[ht]at hx;exact hx
theorem W9 {r0:D}(ih:IH [e0])(I:Tm.Hd nm ot ty re t0 t1 r0 r1)(h0:e0.Is d0)(pre:Pre g (.mk 9 nm ot m ty re [e0]) n)(U:Ctx g es):
  Yf 169 [.sv a 4 es c,.dg 9 (.ag [.j 9,.t nm,.t ot,.j m,t0,t1,r0,r1,.sl a1 9 [d0] c1]),.j n]
   (match e0.type ((g++[⟨nm,wD ty re,n⟩])++[⟨ot,ty,n⟩]) n with | some b=>if sB b re then some (wD ty re)else none | none=>none):=λN Q J=>by
 have ab:=pre.len1;have hv:=Ty.valid_cnt ((zT pre.ok).vt (.inr rfl));have hr:=Ty.valid_cnt ((zT pre.ok).vr rfl);have aa:=qR (x:=⟨nm,wD ty re,n⟩) pre.ty (show(wD ty re).cnt<=64 by simp only[wD,Ty.cnt,zN];omega);have hp:=pre.sub (x:=e0) (by simp) (g':=(g++[⟨nm,wD ty re,n⟩])++[⟨ot,ty,n⟩]) (by simp) (qR aa (show ty.cnt<=64 by omega));rw[show zP 9 n=n by simp[zP]]at hp;have ac:1<=(Tm.mk 9 nm ot m ty re [e0]).cnt:=by simp only[Tm.cnt];omega
 have Y:(g++[⟨nm,wD ty re,n⟩]:List Tg).length<=1073741824:=by rw[oK,nc];omega
 have O:∀ es a c,Ctx ((g++[⟨nm,wD ty re,n⟩])++[⟨ot,ty,n⟩]) es->Yg 62 [.sv a 4 es c,.dg 9 d0,.j n] (e0.type ((g++[⟨nm,wD ty re,n⟩])++[⟨ot,ty,n⟩]) n):=λes a c hc=>ih e0 nf d0 h0 _ es a c n hp hc;refine qZ N a es c _ n Q λ_ _=>?_;cases h:e0.type ((g++[⟨nm,wD ty re,n⟩])++[⟨ot,ty,n⟩]) n with
 | none=>
   rw[h]at J O;dsimp only at J
   repeat' first|with_reducible intro _|simp only[oJ,oN,ml,Y1]|with_reducible refine X ?_ ?_|refine⟨_,_,_,rfl,?_⟩|refine⟨_,rfl,?_⟩|refine X0 ?_|refine(pR ty re _ _ I.ty I.re (by omega) (by omega)) _ _ ?_|refine(xD U (by omega) a c I.nm (t:=wD ty re) (by assumption) n) _ _ ?_|refine(xD (g:=g++[⟨nm,wD ty re,n⟩]) (by assumption) Y _ _ I.ot I.ty n) _ _ ?_|refine(O _ _ _ (by assumption)) _ _ ?_|fail
   all_goals first | (exfalso;omega) | skip
   exact J _ _ (by omega) (by simp)
 | some b=>
   rw[h]at J O;dsimp only at J
   repeat' first|with_reducible intro _|simp only[oJ,oN,mo,Y1]|with_reducible refine X ?_ ?_|refine⟨_,_,_,rfl,?_⟩|refine⟨_,rfl,?_⟩|refine X0 ?_|refine(pR ty re _ _ I.ty I.re (by omega) (by omega)) _ _ ?_|refine(xD U (by omega) a c I.nm (t:=wD ty re) (by assumption) n) _ _ ?_|refine(xD (g:=g++[⟨nm,wD ty re,n⟩]) (by assumption) Y _ _ I.ot I.ty n) _ _ ?_|refine(O _ _ _ (by assumption)) _ _ ?_|refine(yv b re _ _ (by assumption) I.re) _ _ ?_|fail
   all_goals first | (exfalso;omega) | skip
   cases he:sB b re with
   | false=>rw[he]at J;exact J _ _ (by omega) (by simp)
   | true=>rw[he]at J;exact J _ _ (by omega) λt ht=>by cases ht;assumption
theorem XE {k:Int}{r0:D}(hk:k=10\/k=11\/k=12\/k=13)(ih:IH [e0])(h0:e0.Is d0)(pre:Pre g (.mk k nm ot m ty re [e0]) n)(ah:Ctx g es):
  Yf 170 [.sv a 4 es c,.dg 9 (.ag [.j k,.t nm,.t ot,.j m,t0,t1,r0,r1,.sl a1 9 [d0] c1]),.j n]
   (match e0.type (if k=12 then uE g n else g) (zP k n)with | some t=>z9 k t | none=>none):=λN Q I=>by
 have ao:=pre.len1;have ai:=EF g n g 0;have hp:=pre.sub (x:=e0) (by simp) (g':=if k=12 then uE g n else g) (by split<;>simp[uE];omega) (by split;exact λy hy=>pre.ty y (ai.1 y hy);exact pre.ty);have aa:∀ es a c,Ctx (if k=12 then uE g n else g) es->Yg 62 [.sv a 4 es c,.dg 9 d0,.j (zP k n)] (e0.type (if k=12 then uE g n else g) (zP k n)):=λes a c hc=>ih e0 nf d0 h0 _ es a c _ hp hc;have aj:∀ x∈g,x.ty.cnt<=1073741824:=λx hx=>oP (pre.ty x hx) (by omega);refine It N a es c _ n Q λ_ _=>?_;cases h:e0.type (if k=12 then uE g n else g) (zP k n)with
 | none=>
   rw[h]at I aa;dsimp only at I
   repeat' first|with_reducible intro _|simp only[oJ,oN,ml,Y1]|with_reducible refine X ?_ ?_|refine⟨_,_,_,rfl,?_⟩|refine⟨_,rfl,?_⟩|refine X0 ?_|refine(BP ah (by omega) aj a c n) _ _ ?_|refine(qE pre.lv) _ _ ?_|refine(aa _ _ _ (by first | (rw[if_pos (by assumption)];assumption) | (rw[if_neg (by assumption)];assumption))) _ _ ?_|fail
   all_goals first | (exfalso;omega) | skip
   all_goals exact I _ _ (by omega) (by simp)
 | some t=>
   have hv:=Tm.type_valid h;rw[h]at I aa;dsimp only at I;cases t with
   | mk O J=>
   have hf:=Ty.form_len hv;have ak:=Ty.valid_cnt hv
   repeat' first|with_reducible intro _|simp only[oJ,oN,mo,Y1]|with_reducible refine X ?_ ?_|refine⟨_,_,_,rfl,?_⟩|refine⟨_,rfl,?_⟩|refine X0 ?_|refine(BP ah (by omega) aj a c n) _ _ ?_|refine(qE pre.lv) _ _ ?_|refine(aa _ _ _ (by first | (rw[if_pos (by assumption)];assumption) | (rw[if_neg (by assumption)];assumption))) _ _ ?_|refine(KH (.mk O J) _ (by assumption) (by omega)) _ _ ?_|refine(qB (.mk O J) _ (by assumption)) _ _ ?_|fail
   all_goals first | (exfalso;omega) | skip
   ·rename_i hd _ _ U Y;obtain⟨a2,al,c2,rfl,am,ab⟩:=Ty.is_mk.1 hd;by_cases h4:O=4
    ·subst h4;have ac:(J.length:Int)=1:=by simpa [s7]using hf
     obtain⟨u,rfl⟩:∃ u,J=[u]:=by
      match J,ac with
      | [u],_=>exact⟨u,rfl⟩
      | [],h=>simp at h
      | _::_::_,h=>simp at h;omega
     obtain⟨x0,_,rfl,ae,rfl⟩:=ab;simp only[Ty.cnt,zN]at ak;have hs:z9 k (.mk 4 [u])=some u:=by simp[z9,U,Y,Ty.k,Ty.as]
     rw[hs]at I
     repeat' first|with_reducible intro _|simp only[oJ,oN,Y1]|with_reducible refine X ?_ ?_|refine⟨_,_,_,rfl,?_⟩|refine⟨_,rfl,?_⟩|refine X0 ?_|refine(zO u _ ae (by omega)) _ _ ?_|fail
     all_goals first | (exfalso;omega) | skip
     exact I _ _ (by omega) λt ht=>by cases ht;assumption
    ·have hs:z9 k (.mk O J)=none:=by simp[z9,U,Y,Ty.k,h4]
     rw[hs]at I
     repeat' first|with_reducible intro _|simp only[oJ,oN,Y1]|with_reducible refine X ?_ ?_|refine⟨_,_,_,rfl,?_⟩|refine⟨_,rfl,?_⟩|refine X0 ?_|fail
     all_goals first | (exfalso;omega) | skip
     exact I _ _ (by omega) (by simp)
   ·have hs:z9 k (.mk O J)=some (wM (.mk O J)):=by rw[z9,if_pos (by assumption)]
    rw[hs]at I;exact I _ _ (by omega) λt ht=>by cases ht;assumption
   ·have hs:z9 k (.mk O J)=if(Ty.mk O J).base then some (wM (.mk O J))else none:=by rw[z9,if_neg (by assumption),if_pos (by assumption)]
    rw[hs]at I;cases hb:(Ty.mk O J).base with
    | false=>rw[hb]at I;exact I _ _ (by omega) (by simp)
    | true=>rw[hb]at I;exact I _ _ (by omega) λt ht=>by cases ht;assumption
   ·rename_i hd _ _ U Y;obtain⟨a2,al,c2,rfl,am,ab⟩:=Ty.is_mk.1 hd;by_cases h4:O=4
    ·subst h4;have ac:(J.length:Int)=1:=by simpa [s7]using hf
     obtain⟨u,rfl⟩:∃ u,J=[u]:=by
      match J,ac with
      | [u],_=>exact⟨u,rfl⟩
      | [],h=>simp at h
      | _::_::_,h=>simp at h;omega
     obtain⟨x0,_,rfl,ae,rfl⟩:=ab;simp only[Ty.cnt,zN]at ak;have hs:z9 k (.mk 4 [u])=some u:=by simp[z9,U,Y,Ty.k,Ty.as]
     rw[hs]at I
     repeat' first|with_reducible intro _|simp only[oJ,oN,Y1]|with_reducible refine X ?_ ?_|refine⟨_,_,_,rfl,?_⟩|refine⟨_,rfl,?_⟩|refine X0 ?_|refine(zO u _ ae (by omega)) _ _ ?_|fail
     all_goals first | (exfalso;omega) | skip
     exact I _ _ (by omega) λt ht=>by cases ht;assumption
    ·have hs:z9 k (.mk O J)=none:=by simp[z9,U,Y,Ty.k,h4]
     rw[hs]at I
     repeat' first|with_reducible intro _|simp only[oJ,oN,Y1]|with_reducible refine X ?_ ?_|refine⟨_,_,_,rfl,?_⟩|refine⟨_,rfl,?_⟩|refine X0 ?_|fail
     all_goals first | (exfalso;omega) | skip
     exact I _ _ (by omega) (by simp)
def Tm.raw:Tm->List Tg->Int->Option Ty
 | .mk k nm ot _ ty re l,g,n=>
   if k=1 then yF g nm n
   else if k=2 then some tInt
   else if k=3 then some tBool
   else if k=6 then(match uo l 0 (g++[⟨nm,ty,n⟩]) n with | some b=>some (wD ty b) | none=>none)
   else if k=8 then(match uo l 0 g n with | some a=>uo l 1 (g++[⟨nm,a,n⟩]) n | none=>none)
   else if k=9 then(match uo l 0 ((g++[⟨nm,wD ty re,n⟩])++[⟨ot,ty,n⟩]) n with | some b=>if sB b re then some (wD ty re)else none | none=>none)
   else if k=10\/k=11\/k=12\/k=13 then(match uo l 0 (if k=12 then uE g n else g) (zP k n)with | some t=>z9 k t | none=>none)
   else(match zS l g n with | some I=>zm k nm I | none=>none)
theorem Tm.type_eq (e:Tm)(g:List Tg)(n:Int):e.type g n=vld (e.raw g n):=by cases e;simp only[Tm.type,Tm.raw]<;>rfl
theorem Wg {r:List D}(ha:ApA a r)(hb:wm N [a])(h:∀ x∈d.foot,x∈zF r\/N<=x):Off [a] d:=by
 intro a' I ad J O;rw[oW]at I;subst I;rcases h _ O with h | h
 ·have:∀ r:List D,ad.block∈zF r->∃ d∈r,ad.block∈d.foot:=by
   intro r
   induction r with
   | nil=>intro h;simp[zF]at h
   | cons x r ih=>
     intro h;simp only[zF,oM]at h;rcases h with h | h
     ·exact⟨x,by simp,h⟩
     ·obtain⟨d,hd,O⟩:=ih h;exact⟨d,by simp[hd],O⟩
  obtain⟨d',U,Y⟩:=this r h;exact ha ad J d' U Y
 ·have:=hb a' (by simp) ad J
  omega
theorem R9 {k: Int}{r0:D}{es1:List D}(hk:k=4\/k=5\/k=7)(ih:IH l)(h0:All2 Tm.Is l es1)(hl1:es1.length<=4611686018427387904)(pre:Pre g (.mk k nm ot m ty re l) n)(ctx:Ctx g es)(N:Nat)(Q:QT [.ag 2,.bool])(hQ:∀ d N',N<=N'->(∀ t,Tm.raw (.mk k nm ot m ty re l) g n=some t->t.Is d)->Q d (Tm.raw (.mk k nm ot m ty re l) g n).isSome N'):
  xk Q N a es c n 0 0 (0:Nat) (.ag [.j k,.t nm,.t ot,.j m,t0,t1,r0,r1,.sl a1 9 es1 c1]) 0 none [] 0 [] 0 N:=by
 have hlen:=pre.len1;have hln:=h0.len;have nd:=zT pre.ok;have har:=nd.ar;have har2:=tV k nm;have hraw:Tm.raw (.mk k nm ot m ty re l) g n=(match zS l g n with | some ts=>zm k nm ts | none=>none):=by simp only[Tm.raw];rw[if_neg (by omega),if_neg (by omega),if_neg (by omega),if_neg (by omega),if_neg (by omega),if_neg (by omega),if_neg (by omega)]
 rw[hraw]at hQ;refine up h0 hl1 (fun i xs=>∀(r:List D) (q p:Nat) (N':Nat) (ts:List Ty),N<=N'->p=r.length->All2 Ty.Is ts r->ts.length=i->(∀ t∈ts,t.valid=true) ->
  zS l g n=(match zS xs g n with | some us=>some (ts++us) | none=>none) ->
  xk Q N a es c n p q i (.ag [.j k,.t nm,.t ot,.j m,t0,t1,r0,r1,.sl a1 9 es1 c1]) 0 none [] 0 r q N') ?_ ?_ [] 0 0 N [] (oD _) rfl rfl rfl (by simp) ?_
 ·intro i hlt hi r q p N' ts hN' hp hr hti hv hargs;have hrl:=hr.len;simp only[zS,ou]at hargs;rw[hargs]at hQ;dsimp only at hQ;have hk2:k=4\/k=5/\ts.length=3\/k=7/\ts.length=2:=by
   have:=nd.ar
   rcases hk with rfl | rfl | rfl
   ·exact .inl rfl
   ·exact .inr (.inl ⟨rfl, by have:(l.length:Int)=3:=this
                              omega⟩)
   ·exact .inr (.inr ⟨rfl, by have:(l.length:Int)=2:=this
                              omega⟩)
  refine q9 ?_
  repeat' first|with_reducible intro _|simp only[hlt,Y1]|with_reducible refine X ?_ ?_|refine⟨_,_,_,rfl,?_⟩|refine⟨_,rfl,?_⟩|refine X0 ?_|refine(KJ hr (by omega) _ _ hv hk2) _ _ ?_|fail
  rename_i a2 hap hoff N4 hN4 hba d b N5 hN5 ho hfo _;refine⟨Wg hap hba hfo,fun _ N6 hN6=>?_⟩;cases h:zm k nm ts with
  | none=>rw[h]at ho hQ;simp only[Qg]at ho;subst ho;exact hQ _ _ (by omega) (by simp)
  | some t=>rw[h]at ho hQ;obtain⟨rfl,ho⟩:=ho;exact hQ _ _ (by omega) fun t ht=>by cases ht;exact ho
 ·intro i x xs hat _ ih2 r q p N' ts hN' hp hr hti hv hargs;have hb:=hat.b;have hrl:=hr.len;have hpx:=pre.sub hat.m (g':=g) (by omega) pre.ty;rw[show zP k n=n by simp only[zP];rw[if_neg (by omega),if_neg (by omega)]]at hpx;have ih0:=ih x hat.m _ hat.r g es a c n hpx ctx;simp only[zS]at hargs;refine q9 ?_;cases h:x.type g n with
  | none=>
    rw[h]at ih0 hargs;dsimp only at hargs;rw[hargs]at hQ
    repeat' first|with_reducible intro _|simp only[hat.lt,hat.w,oI,ml,Y1]|with_reducible refine X ?_ ?_|refine⟨_,_,_,rfl,?_⟩|refine⟨_,rfl,?_⟩|refine X0 ?_|refine ih0 _ _ ?_|fail
    all_goals first | (exfalso;omega) | skip
    exact hQ _ _ (by omega) (by simp)
  | some t=>
    have hvt:=Tm.type_valid h;rw[h]at ih0 hargs;dsimp only at hargs
    repeat' first|with_reducible intro _|simp only[hat.lt,hat.w,oI,mo,Y1]|with_reducible refine X ?_ ?_|refine⟨_,_,_,rfl,?_⟩|refine⟨_,rfl,?_⟩|refine X0 ?_|refine ih0 _ _ ?_|fail
    all_goals first | (exfalso;omega) | skip
    rename_i N2 hN2 d N3 hN3 hd _ _;refine⟨by unfold zA;simp only[oK,nc];omega,fun c2=>ih2 _ _ _ _ (ts++[t]) (by omega) rfl (hr.snoc hd) (by simp[hti]) (fun u hu=>?_) ?_⟩
    ·rcases oM.1 hu with hu | hu
     ·exact hv u hu
     ·rw[oW]at hu;subst hu;exact hvt
    ·rw[hargs];cases zS xs g n<;>simp
 ·cases zS l g n<;>simp
theorem Er {α:Type}{l:List α}(h:l.length=1):∃ a,l=[a]:=by
 match l,h with
 | [a],_=>exact⟨a,rfl⟩
theorem QW {α:Type}{l:List α}(h:l.length=2):∃ a b,l=[a,b]:=by
 match l,h with
 | [a,b],_=>exact⟨a,b,rfl⟩
theorem KK (he:e.Is d)(ih:match e with | .mk _ _ _ _ _ _ l=>IH l)(pre:Pre g e n)(ctx:Ctx g es):
  Yf 114 [.sv a 4 es c,.dg 9 d,.j n] (e.raw g n):=fun N Q hQ=>by
 cases e with
 | mk k nm ot m ty re l=>
 dsimp only at ih;obtain⟨t0,t1,r0,r1,a1,es1,c1,rfl,hh,hlen1,hes1⟩:=Tm.is_mk.1 he;have hl:=hes1.len;have hl2:=ctx.all.len;have nd:=zT pre.ok;have har:=nd.ar;have hkk:=GA (k:=k) (nm:=nm) (by omega);refine Ln N a es c _ n Q fun _ _=>?_;rcases hkk with rfl | rfl | rfl | h | h | rfl | h | rfl | rfl | h | h | h | h
 ·-- a variable
  have hraw:Tm.raw (.mk 1 nm ot m ty re l) g n=yF g nm n:=by simp[Tm.raw]
  rw[hraw]at hQ;rcases AE g nm g.length with hlx | hlx
  ·have hlx:zL g nm = -1:=hlx;have:yF g nm n=none:=by simp[yF,hlx]
   rw[this]at hQ
   repeat' first|with_reducible intro _|simp only[hlx,Y1]|with_reducible refine X ?_ ?_|refine⟨_,_,_,rfl,?_⟩|refine⟨_,rfl,?_⟩|refine X0 ?_|refine(tD ctx a c nm) _ _ ?_|fail
   all_goals first | (exfalso;omega) | skip
   exact hQ _ _ (by omega) (by simp)
  ·have hlx:0<=zL g nm/\zL g nm<g.length:=hlx;have hg:g[(zL g nm).toNat]?=some g[(zL g nm).toNat]:=oF (by omega);have hx:=ctx.all.get hg;have hgd:g.getD (zL g nm).toNat tg0=g[(zL g nm).toNat]:=KZ hg;obtain⟨u0,u1,hd,hs,ht⟩:=hx;have hm:g[(zL g nm).toNat]∈g:=mM _;have hcn:=pre.ty _ hm;have:yF g nm n=if g[(zL g nm).toNat].lv=n then some g[(zL g nm).toNat].ty else none:=by rw[yF,if_neg (by omega),hgd]
   rw[this]at hQ;generalize g[(zL g nm).toNat]=x at *
   repeat' first|with_reducible intro _|simp only[hd,Y1]|with_reducible refine X ?_ ?_|refine⟨_,_,_,rfl,?_⟩|refine⟨_,rfl,?_⟩|refine X0 ?_|refine(tD ctx a c nm) _ _ ?_|refine(zO _ _ ht (by omega)) _ _ ?_|fail
   all_goals first | (exfalso;omega) | skip
   ·rw[if_neg (by assumption)]at hQ;exact hQ _ _ (by omega) (by simp)
   ·rw[if_pos (by assumption)]at hQ;exact hQ _ _ (by omega) fun t ht=>by cases ht;assumption
 ·have hraw:Tm.raw (.mk 2 nm ot m ty re l) g n=some tInt:=by simp[Tm.raw]
  rw[hraw]at hQ
  repeat' first|with_reducible intro _|simp only[Y1]|with_reducible refine X ?_ ?_|refine⟨_,_,_,rfl,?_⟩|refine⟨_,rfl,?_⟩|refine X0 ?_|refine vF _ _ ?_|fail
  all_goals first | (exfalso;omega) | skip
  exact hQ _ _ (by omega) fun t ht=>by cases ht;assumption
 ·have hraw:Tm.raw (.mk 3 nm ot m ty re l) g n=some tBool:=by simp[Tm.raw]
  rw[hraw]at hQ
  repeat' first|with_reducible intro _|simp only[Y1]|with_reducible refine X ?_ ?_|refine⟨_,_,_,rfl,?_⟩|refine⟨_,rfl,?_⟩|refine X0 ?_|refine tC _ _ ?_|fail
  all_goals first | (exfalso;omega) | skip
  exact hQ _ _ (by omega) fun t ht=>by cases ht;assumption
 ·have hk:k=4\/k=5\/k=7:=by omega
  have:=R9 hk ih hes1 hlen1 pre ctx (a:=a) (c:=c) (t0:=t0) (t1:=t1) (r0:=r0) (r1:=r1) (a1:=a1) (c1:=c1) N Q hQ
  repeat' first|with_reducible intro _|simp only[Y1]|with_reducible refine X ?_ ?_|refine⟨_,_,_,rfl,?_⟩|refine⟨_,rfl,?_⟩|refine X0 ?_|fail
  all_goals first | (exfalso;omega) | exact this
 ·have hk:k=4\/k=5\/k=7:=by omega
  have:=R9 hk ih hes1 hlen1 pre ctx (a:=a) (c:=c) (t0:=t0) (t1:=t1) (r0:=r0) (r1:=r1) (a1:=a1) (c1:=c1) N Q hQ
  repeat' first|with_reducible intro _|simp only[Y1]|with_reducible refine X ?_ ?_|refine⟨_,_,_,rfl,?_⟩|refine⟨_,rfl,?_⟩|refine X0 ?_|fail
  all_goals first | (exfalso;omega) | exact this
 ·have h1 : l.length = 1 := by have:(l.length:Int)=1:=har
                               omega
  obtain⟨e0,rfl⟩:=Er h1;obtain⟨d0,_,rfl,h0,rfl⟩:=hes1;have hraw:Tm.raw (.mk 6 nm ot m ty re [e0]) g n=(match e0.type (g++[⟨nm,ty,n⟩]) n with | some b=>some (wD ty b) | none=>none):=by simp[Tm.raw,uo]
  rw[hraw]at hQ
  repeat' first|with_reducible intro _|simp only[Y1]|with_reducible refine X ?_ ?_|refine⟨_,_,_,rfl,?_⟩|refine⟨_,rfl,?_⟩|refine X0 ?_|refine(W7 ih hh h0 pre ctx) _ _ ?_|fail
  all_goals first | (exfalso;omega) | skip
  exact hQ _ _ (by omega) (by assumption)
 ·have hk:k=4\/k=5\/k=7:=by omega
  have:=R9 hk ih hes1 hlen1 pre ctx (a:=a) (c:=c) (t0:=t0) (t1:=t1) (r0:=r0) (r1:=r1) (a1:=a1) (c1:=c1) N Q hQ
  repeat' first|with_reducible intro _|simp only[Y1]|with_reducible refine X ?_ ?_|refine⟨_,_,_,rfl,?_⟩|refine⟨_,rfl,?_⟩|refine X0 ?_|fail
  all_goals first | (exfalso;omega) | exact this
 ·have h1 : l.length = 2 := by have:(l.length:Int)=2:=har
                               omega
  obtain⟨e0,e1,rfl⟩:=QW h1;obtain⟨d0,_,rfl,h0,d1,_,rfl,h1,rfl⟩:=hes1;have hraw:Tm.raw (.mk 8 nm ot m ty re [e0,e1]) g n=(match e0.type g n with | some b=>e1.type (g++[⟨nm,b,n⟩]) n | none=>none):=by simp[Tm.raw,uo]
  rw[hraw]at hQ
  repeat' first|with_reducible intro _|simp only[Y1]|with_reducible refine X ?_ ?_|refine⟨_,_,_,rfl,?_⟩|refine⟨_,rfl,?_⟩|refine X0 ?_|refine(W8 ih hh h0 h1 pre ctx) _ _ ?_|fail
  all_goals first | (exfalso;omega) | skip
  exact hQ _ _ (by omega) (by assumption)
 ·have h1 : l.length = 1 := by have:(l.length:Int)=1:=har
                               omega
  obtain⟨e0,rfl⟩:=Er h1;obtain⟨d0,_,rfl,h0,rfl⟩:=hes1;have hraw:Tm.raw (.mk 9 nm ot m ty re [e0]) g n=(match e0.type ((g++[⟨nm,wD ty re,n⟩])++[⟨ot,ty,n⟩]) n with | some b=>if sB b re then some (wD ty re)else none | none=>none):=by simp only[Tm.raw,uo];rfl
  rw[hraw]at hQ
  repeat' first|with_reducible intro _|simp only[Y1]|with_reducible refine X ?_ ?_|refine⟨_,_,_,rfl,?_⟩|refine⟨_,rfl,?_⟩|refine X0 ?_|refine(W9 ih hh h0 pre ctx) _ _ ?_|fail
  all_goals first | (exfalso;omega) | skip
  exact hQ _ _ (by omega) (by assumption)
 all_goals
  have h1:l.length=1:=by
   have hk:k=10\/k=11\/k=12\/k=13:=by omega
   have:(l.length:Int)=1:=by rw[har];rcases hk with rfl | rfl | rfl | rfl<;>rfl
   omega
  obtain⟨e0,rfl⟩:=Er h1;obtain⟨d0,_,rfl,h0,rfl⟩:=hes1;have hk:k=10\/k=11\/k=12\/k=13:=by omega
  have hraw:Tm.raw (.mk k nm ot m ty re [e0]) g n=(match e0.type (if k=12 then uE g n else g) (zP k n)with | some t=>z9 k t | none=>none):=by simp only[Tm.raw,uo];rw[if_neg (by omega),if_neg (by omega),if_neg (by omega),if_neg (by omega),if_neg (by omega),if_neg (by omega),if_pos hk]
  rw[hraw]at hQ
  repeat' first|with_reducible intro _|simp only[Y1]|with_reducible refine X ?_ ?_|refine⟨_,_,_,rfl,?_⟩|refine⟨_,rfl,?_⟩|refine X0 ?_|refine(XE hk ih h0 pre ctx) _ _ ?_|fail
  all_goals first | (exfalso;omega) | skip
  exact hQ _ _ (by omega) (by assumption)
theorem r7:∀ {l:List Tm}{i:Nat}{g:List Tg}{n:Int}{t:Ty},uo l i g n=some t->t.valid=true
 | [],i,g,n,t,h=>by simp[uo]at h
 | e::es,0,g,n,t,h=>by simp only[uo]at h;exact Tm.type_valid h
 | e::es,i+1,g,n,t,h=>by simp only[uo]at h;exact r7 h
theorem KX {l:List Ty}{m:Nat}(h:∀ t∈l,t.cnt<=m)(I:1<=m)(i:Nat):(l.getD i tZero).cnt<=m:=by
 rw[oB];cases hi:l[i]? with
 | none=>simpa [tZero,Ty.cnt,zN]using I
 | some t=>exact h t (oA hi)
theorem WI (t:Ty)(i:Nat):(t.as.getD i tZero).cnt<=t.cnt:=by
 cases t with
 | mk k l=>exact KX (l:=l) (λu I=>by have:=vD (l:=l) I;simp only[Ty.cnt];omega) (by simp only[Ty.cnt];omega) i
theorem X8 {m:Nat}(h:∀ x∈g,x.ty.cnt<=m)(I:1<=m)(i:Nat):(g.getD i tg0).ty.cnt<=m:=by
 rw[oB];cases hi:g[i]? with
 | none=>simpa [tg0,tZero,Ty.cnt,zN]using I
 | some t=>exact h t (oA hi)
theorem Q5 {k:Int}{I:List Ty}(hv:∀ t∈I,t.cnt<=64)(h:zm k s I=some t):t.cnt<=64:=by
 simp only[zm]at h;split at h
 ·simp only[Ri]at h;split at h
  ·cases h;unfold rh;(repeat' split)<;>simp[tInt,tBool,Ty.cnt,zN]
  ·cases h
 ·split at h
  ·split at h
   ·cases h;exact KX hv (by omega) _
   ·cases h
  ·split at h
   ·cases h;exact oP (WI _ _) (KX hv (by omega) _)
   ·cases h
theorem O5 {k:Int}{u:Ty}(hv:u.cnt<=30)(h:z9 k u=some t):t.cnt<=64:=by
 have I:(wM u).cnt<=64:=by simp only[wM,Ty.cnt,zN];omega
 have J:=WI u 0;simp only[z9]at h
 (repeat' split at h)<;>cases h<;>first | exact I | omega
theorem TW (pre:Pre g e n)(h:e.raw g n=some t):t.cnt<=64:=by
 cases e with
 | mk k nm ot m ty re l=>
 have nd:=zT pre.ok;simp only[Tm.raw]at h;split at h
 ·simp only[yF]at h
  (repeat' split at h)<;>cases h
  exact X8 pre.ty (by omega) _
 split at h
 ·cases h;simp[tInt,Ty.cnt,zN]
 split at h
 ·cases h;simp[tBool,Ty.cnt,zN]
 split at h
 ·rename_i U;have hv:=Ty.valid_cnt (nd.vt (.inl U));split at h
  ·rename_i b I
   have:=Ty.valid_cnt (r7 I)
   cases h;simp only[wD,Ty.cnt,zN];omega
  ·cases h
 split at h
 ·split at h
  ·have:=Ty.valid_cnt (r7 h);omega
  ·cases h
 split at h
 ·rename_i O;have hv:=Ty.valid_cnt (nd.vt (.inr O));have hr:=Ty.valid_cnt (nd.vr O);split at h
  ·split at h
   ·cases h;simp only[wD,Ty.cnt,zN];omega
   ·cases h
  ·cases h
 split at h
 ·split at h
  ·rename_i b I;exact O5 (Ty.valid_cnt (r7 I)) h
  ·cases h
 ·split at h
  ·rename_i ts J;exact Q5 (λu Y=>oP (Ty.valid_cnt ((Iw J).2 u Y)) (by omega)) h
  ·cases h
theorem xi:tZero.Is (.ag [.j 0,.sl none 2 [] 0]):=xm 0
theorem qF:∀(e:Tm),∀ d,e.Is d->∀ g es a c n,Pre g e n->Ctx g es->Yg 62 [.sv a 4 es c,.dg 9 d,.j n] (e.type g n):=by
 refine Tm.ind λk nm ot m ty re l O d hd g es a c n pre J N Q I=>?_;have hs:=KK (a:=a) (c:=c) hd O pre J;rw[Tm.type_eq]at I;refine Lo N a es c _ n Q λ_ _=>?_;cases h:Tm.raw (.mk k nm ot m ty re l) g n with
 | none=>
   rw[h]at hs I
   repeat' first|with_reducible intro _|simp only[ml,Y1]|with_reducible refine X ?_ ?_|refine⟨_,_,_,rfl,?_⟩|refine⟨_,rfl,?_⟩|refine X0 ?_|refine hs _ _ ?_|fail
   all_goals first | (exfalso;omega) | skip
   exact I _ _ (by omega) xi
 | some t=>
   have hc:=TW pre h;rw[h]at hs I;simp only[vld]at I;cases hv:t.valid with
   | false=>
     rw[hv]at I
     repeat' first|with_reducible intro _|simp only[mo,hv,Y1]|with_reducible refine X ?_ ?_|refine⟨_,_,_,rfl,?_⟩|refine⟨_,rfl,?_⟩|refine X0 ?_|refine hs _ _ ?_|refine(wC t _ (by rename_i h _ _ _ _;exact h t rfl) (by omega)) _ _ ?_|fail
     all_goals first | (exfalso;omega) | skip
     exact I _ _ (by omega) xi
   | true=>
     rw[hv]at I
     repeat' first|with_reducible intro _|simp only[mo,hv,Y1]|with_reducible refine X ?_ ?_|refine⟨_,_,_,rfl,?_⟩|refine⟨_,rfl,?_⟩|refine X0 ?_|refine hs _ _ ?_|refine(wC t _ (by rename_i h _ _ _ _;exact h t rfl) (by omega)) _ _ ?_|fail
     all_goals first | (exfalso;omega) | skip
     rename_i hx _ _ _ _ _ _ _ _ _;exact I _ _ (by omega) (hx t rfl)
def Jj (g:List Tg)(e:Tm)(n:Int):Option Ty:=if IG g/\s9 e n then e.type g n else none
theorem MO:∀ {g:List Tg},NJ g=true->∀ x∈g,x.ty.valid=true
 | y::ys,h,x,hx=>by
   simp only[NJ,Tg.ok,oE]at h;rcases oH.1 hx with rfl | hx
   ·exact h.1.2.1
   ·exact MO h.2 x hx
theorem Xs (J:IG g=true)(I:s9 e n=true)(hc:e.dp<=1048576000 / 2):Pre g e n:=by simp only[IG,oE,oq]at J;simp only[s9,oE]at I;exact⟨I.1,I.2,by omega,λx hx=>oP (Ty.valid_cnt (MO J.1 x hx)) (by omega)⟩
theorem ZW (I:IG g=true)(J:s9 e n=true)(hc:e.cnt<=1048576000 / 2):Pre g e n:=Xs I J (oP e.dp_cnt hc)
theorem ue (h:t.Is d)(I:Own N N' d):OwnL N N' [D.cell d 0,D.cell d 1]:=by
 cases t with
 | mk k l=>obtain⟨a,es,c,rfl,_,_⟩:=Ty.is_mk.1 h;show OwnL N N' [.j k,.sl a 2 es c];exact⟨by simpa only[D.foot]using I.nd,I.fl,by simpa only[D.foot]using I.lo,by simpa only[D.foot]using I.hi⟩
def Cop (f:FuncId)(z:Nat)(args:List PV)(P:D->Prop):Prop:=∀(N:Nat) (Q:QT [.ag z]),(∀ d' N',N<=N'->P d'->Own N N' d'->Q d' N')->ACalls prog f [.ag z] args N Q
end Go.Proofs.YtlaniepnglheoaaGreat
