/- Data as plain trees, and what the laws' first look at them (their size) comes to. -/
import Derived.IntWalk
import Derived.Test.YtligajflgjpdnaaGreatDoorKa
import Derived.Test.YtligajflgjpdnaaGreatDoorJh
set_option linter.unusedVariables false
set_option linter.unusedSimpArgs false
namespace Go.Proofs.YtligajflgjpdnaaGreatDoor
open Go Go.Proofs Go.Proofs.Tryz Go.IntWalk
inductive Ty where
 | mk (k:Int) (l:List Ty)
mutual
def Ty.Is:Ty->D->Prop
 | .mk k l,d=>∃ a es c,d=.ag [.j k,.sl a 2 es c]/\es.length<=4611686018427387904/\TysIs l es
def TysIs:List Ty->List D->Prop
 | [],es=>es=[]
 | t::I,es=>∃ d ds,es=d::ds/\t.Is d/\TysIs I ds
end
theorem TysIs.len:∀ {I:List Ty}{es:List D},TysIs I es->es.length=I.length
 | [],es,h=>by simp[TysIs]at h;subst h;rfl
 | t::I,es,h=>by simp only[TysIs]at h;obtain⟨d,ds,rfl,_,h⟩:=h;simp[TysIs.len h]
theorem Br.of {v:Bool}{A B:Prop}(I:v=true->A)(J:v=false->B):Br v A B:=by
 cases v
 ·exact J rfl
 ·exact I rfl
structure OwnL (N N':Nat) (es:List D):Prop where
 nd:(zI es).Nodup
 fl:wW es
 lo:∀ b∈zI es,N<=b
 hi:∀ b∈zI es,b<N'
structure Own (N N':Nat) (d:D):Prop where
 nd:d.foot.Nodup
 fl:d.Flat0
 lo:∀ b∈d.foot,N<=b
 hi:∀ b∈d.foot,b<N'
theorem Own.mono {N1 N2 J O:Nat}{d:D}(h:Own N1 N2 d)(U:J<=N1)(Y:N2<=O):Own J O d:=⟨h.nd,h.fl,λb I=>oL U (h.lo b I),λb I=>nN (h.hi b I) Y⟩
theorem OwnL.mono {N1 N2 J O:Nat}{es:List D}(h:OwnL N1 N2 es)(U:J<=N1)(Y:N2<=O):OwnL J O es:=⟨h.nd,h.fl,λb I=>oL U (h.lo b I),λb I=>nN (h.hi b I) Y⟩
theorem JG {N N':Nat}:OwnL N N' []:=⟨by simp[zI],trivial,by simp[zI],by simp[zI]⟩
theorem xL:∀ {a b:List D},wW a->wW b->wW (a++b)
 | [],b,_,h=>h
 | x::a,b,I,J=>⟨I.1,xL I.2 J⟩
theorem wo {N N1 N2:Nat}{es fs:List D}(I:OwnL N N1 es)(J:OwnL N1 N2 fs)(hN:N<=N1)(O:N1<=N2):OwnL N N2 (es++fs):=by
 refine⟨?_,xL I.fl J.fl,λb hb=>?_,λb hb=>?_⟩
 ·rw[zJ,nX];refine⟨I.nd,J.nd,λx U y Y aa=>?_⟩
  have:=I.hi x U;have:=J.lo y Y;omega
 ·rw[zJ]at hb;rcases oK.1 hb with hb | hb
  ·exact I.lo b hb
  ·have:=J.lo b hb;omega
 ·rw[zJ]at hb;rcases oK.1 hb with hb | hb
  ·have:=I.hi b hb;omega
  ·exact J.hi b hb
theorem wD {N N':Nat}{d:D}(h:Own N N' d):OwnL N N' [d]:=⟨by simpa [zI]using h.nd,⟨h.fl,trivial⟩,by simpa [zI]using h.lo,by simpa [zI]using h.hi⟩
theorem xa {N N':Nat}{x:Value}{es:List D}(h:OwnL N N' es):OwnL N N' (.lit x::es):=⟨by simpa [zI,D.foot]using h.nd,⟨trivial,h.fl⟩,by simpa [zI,D.foot]using h.lo,by simpa [zI,D.foot]using h.hi⟩
theorem IW {N N':Nat}{cs:List D}(h:OwnL N N' cs):Own N N' (.ag cs):=⟨by simpa only[D.foot]using h.nd,h.fl,by simpa only[D.foot]using h.lo,by simpa only[D.foot]using h.hi⟩
theorem Hk {N N1 U:Nat}{a:Option Addr}{z c:Nat}{es ds:List D}(h:OwnL N N1 es)(O:Fresh N U a (.ag es::ds))(hN:N1<=U):Own N U (.sl a z es c):=by
 cases a with
 | none=>exact⟨by simpa only[D.foot]using h.nd,⟨by simp,h.fl⟩,by simpa only[D.foot]using h.lo,λb hb=>by simp only[D.foot]at hb;have:=h.hi b hb;omega⟩
 | some ad=>
   have J:=O.ap ad rfl (.ag es) (by simp);simp only[D.foot]at J;have I:∀ b∈(D.sl (some ad) z es c).foot,b=ad.block\/b∈zI es:=λb hb=>by
    simp only[D.foot]at hb;split at hb
    ·simp at hb
    ·exact oF.1 hb
   refine⟨?_,⟨λY h'=>by cases h';exact O.off ad rfl,h.fl⟩,λb hb=>?_,λb hb=>?_⟩
   ·simp only[D.foot];split
    ·exact mN
    ·exact mA.2 ⟨J,h.nd⟩
   ·rcases I b hb with rfl | hb
    ·exact O.lo ad rfl
    ·exact h.lo b hb
   ·rcases I b hb with rfl | hb
    ·exact O.hi ad rfl
    ·have:=h.hi b hb;omega
mutual
def Ty.cnt:Ty->Nat
 | .mk _ l=>1+zL l
def zL:List Ty->Nat
 | []=>0
 | t::I=>t.cnt+zL I
end
mutual
def DH:Ty->Ty->Bool
 | .mk k l,.mk I l'=>k==I&&rm l l'
def rm:List Ty->List Ty->Bool
 | [],[]=>true
 | t::J,u::us=>DH t u&&rm J us
 | _,_=>false
end
mutual
theorem sc:∀(t u:Ty),DH t u=true↔t=u
 | .mk k l,.mk J l'=>by simp[DH,LX l l']
theorem LX:∀(l m:List Ty),rm l m=true↔l=m
 | [],[]=>by simp[rm]
 | t::I,u::us=>by simp[rm,sc t u,LX I us]
 | [],u::us=>by simp[rm]
 | t::I,[]=>by simp[rm]
end
theorem E0:∀ {l m:List Ty},l.length≠m.length->rm l m=false
 | [],[],h=>absurd rfl h
 | t::I,u::us,h=>by simp only[rm,E0 (l:=I) (m:=us) (by simpa using h),Bool.and_false]
 | [],u::us,_=>rfl
 | t::I,[],_=>rfl
theorem KC {A B:Prop}:Br true A B=A:=rfl
theorem Eo {A B:Prop}:Br false A B=B:=rfl
theorem Br.not {v:Bool}{A B:Prop}(I:v=false->A)(J:v=true->B):Br (!v) A B:=by
 cases v
 ·exact I rfl
 ·exact J rfl
theorem Br.dec {p:Prop} [Decidable p]{A B:Prop}(I:p->A)(J:¬p->B):Br (decide p) A B:=Br.of (λh=>I (mi h)) λh=>J (of_decide_eq_false h)
theorem Br.ndec {p:Prop} [Decidable p]{A B:Prop}(I:¬p->A)(J:p->B):Br (!(decide p)) A B:=Br.not (λh=>I (of_decide_eq_false h)) λh=>J (mi h)
theorem Br.beq {a b:Int}{A B:Prop}(I:a=b->A)(J:¬a=b->B):Br (a==b) A B:=Br.of (λh=>I (by simpa using h)) λh=>J (by simpa using h)
theorem Br.bne {a b:Int}{A B:Prop}(I:¬a=b->A)(J:a=b->B):Br (bne a b) A B:=Br.of (λh=>I (by simpa using h)) λh=>J (by simpa using h)
theorem R7 {s t:ByteArray}(h:s.toList=t.toList):s=t:=by rw[ByteArray.toList_eq,ByteArray.toList_eq]at h;cases s;cases t;simpa using h
theorem uI {s t:ByteArray}:(s.toList==t.toList)=decide (s=t):=by
 by_cases h:s=t
 ·simp[h]
 ·have:¬s.toList=t.toList:=λhc=>h (R7 hc);simp[h,this]
theorem Br.str {s t:ByteArray}{A B:Prop}(I:s=t->A)(J:¬s=t->B):Br (s.toList==t.toList) A B:=by rw[uI];exact Br.dec I J
theorem Br.nstr {s t:ByteArray}{A B:Prop}(I:¬s=t->A)(J:s=t->B):Br (!(s.toList==t.toList)) A B:=by rw[uI];exact Br.ndec I J
def ws (f:FuncId)(args:List PV)(b:Bool):Prop:=∀(N:Nat) (Q:QT [.bool]),(∀ N',N<=N'->Q b N')->ACalls prog f [.bool] args N Q
def Dx (f:FuncId)(args:List PV)(n:Int):Prop:=∀(N:Nat) (Q:QT [.i]),(∀ N',N<=N'->Q n N')->ACalls prog f [.i] args N Q
theorem Qi {Q:QT [.i]}{n m:Int}{N:Nat}(h:Q n N)(e:n=m):Q m N:=e ▸ h
theorem Qb {Q:QT [.bool]}{n m:Bool}{N:Nat}(h:Q n N)(e:n=m):Q m N:=e ▸ h
def All2 {α:Type}(R:α->D->Prop):List α->List D->Prop
 | [],es=>es=[]
 | t::I,es=>∃ d ds,es=d::ds/\R t d/\All2 R I ds
theorem All2.len {α:Type}{R:α->D->Prop}:∀ {l:List α}{es:List D},All2 R l es->es.length=l.length
 | [],es,h=>by cases h;rfl
 | t::J,es,⟨d,ds,I,_,h⟩=>by subst I;simp[h.len]
theorem All2.get {α:Type}{R:α->D->Prop}:∀ {l:List α}{es:List D}{i:Nat}{x:α},All2 R l es->l[i]?=some x->R x (es.getD i default)
 | [],es,i,x,h,I=>by simp at I
 | t::Y,es,i,x,⟨d,ds,J,O,U⟩,I=>by
   subst J;cases i with
   | zero=>simp at I;subst I;simpa [oA]using O
   | succ i=>simpa [oA]using U.get (by simpa using I)
theorem All2.snoc {α:Type}{R:α->D->Prop}:∀ {l:List α}{es:List D}{t:α}{d:D},All2 R l es->R t d->All2 R (l++[t]) (es++[d])
 | [],es,t,d,h,I=>by cases h;exact⟨d,[],rfl,I,rfl⟩
 | u::Y,es,t,d,⟨x,ds,J,O,U⟩,I=>by subst J;exact⟨x,ds++[d],rfl,O,U.snoc I⟩
theorem All2.mono {α:Type}{R S:α->D->Prop}(I:∀ x d,R x d->S x d):∀ {l:List α}{es:List D},All2 R l es->All2 S l es
 | [],es,h=>h
 | u::Y,es,⟨x,ds,J,O,U⟩=>⟨x,ds,J,I _ _ O,U.mono I⟩
structure At {α:Type} (R:α->D->Prop) (l:List α) (es:List D) (i:Nat) (x:α):Prop where
 lt:decide ((i:Int)<(es.length:Int))=true
 b:(0:Int)<=(i:Int)/\(i:Int)<(es.length:Int)
 w:IntKind.i64.wrap ((i:Int)+1)=((i+1:Nat):Int)
 r:R x (es.getD i default)
 m:x∈l
 g:l[i]?=some x
theorem up {α:Type} {R:α->D->Prop} {l:List α} {es:List D} (h:All2 R l es) (U:es.length<=4611686018427387904) (P:Nat->List α->Prop)
  (O:∀ n:Nat,decide ((n:Int)<(es.length:Int))=false->n=es.length->P n []) (I:∀(i:Nat) x xs,At R l es i x->l.drop (i+1)=xs->P (i+1) xs->P i (x::xs)):P 0 l:=by
 have Y:=h.len;have key:∀(rest pre:List α),l=pre++rest->P pre.length rest:=by
  intro rest
  induction rest with
  | nil=>intro pre J;rw[nH]at J;subst J;exact O _ (by simp[Y]) Y.symm
  | cons x xs ih=>
    intro pre J;have hi:l[pre.length]?=some x:=by rw[J];simp
    have aa:pre.length<l.length:=(oD.1 hi).1;have hx:=h.get hi;refine I pre.length x xs ⟨mI (by omega),⟨by omega,by omega⟩,?_,hx,by rw[J];simp,hi⟩ (by rw[J];simp) ?_
    ·rw[i64_in _ (by omega)];simp
    ·have:=ih (pre++[x]) (by rw[J];simp)
     simpa using this
 exact key l [] rfl
theorem Ny:∀ {l:List Ty}{es:List D},TysIs l es->All2 Ty.Is l es
 | [],es,h=>by simp only[TysIs]at h;exact h
 | t::U,es,h=>by simp only[TysIs]at h;obtain⟨d,ds,I,J,O⟩:=h;exact⟨d,ds,I,J,Ny O⟩
theorem OD:∀ {l:List Ty}{es:List D},All2 Ty.Is l es->TysIs l es
 | [],es,h=>by simp only[TysIs];exact h
 | t::U,es,⟨d,ds,I,J,O⟩=>by simp only[TysIs];exact⟨d,ds,I,J,OD O⟩
def Ty.k:Ty->Int
 | .mk k _=>k
def Ty.as:Ty->List Ty
 | .mk _ l=>l
theorem Ty.is_mk {k:Int}{l:List Ty}{d:D}:(Ty.mk k l).Is d↔∃ a es c,d=.ag [.j k,.sl a 2 es c]/\es.length<=4611686018427387904/\All2 Ty.Is l es:=by simp only[Ty.Is];exact⟨λ⟨a,es,c,I,J,O⟩=>⟨a,es,c,I,J,Ny O⟩,λ⟨a,es,c,I,J,O⟩=>⟨a,es,c,I,J,OD O⟩⟩
theorem Ty.ind {P:Ty->Prop}(h:∀ k l,(∀ t∈l,P t)->P (.mk k l)):∀ t,P t:=λt=>
 Ty.rec (motive_1:=P) (motive_2:=λl=>∀ t∈l,P t) (λk l I=>h k l I) (by simp) (λt l J O u hu=>by
  rcases oF.1 hu with rfl | hu
  ·exact J
  ·exact O u hu) t
class Dv (v:Bool) (P Q:outParam Prop):Prop where
 t:v=true->P
 f:v=false->Q
instance (priority:=100) dv9 {v:Bool}:Dv v (v=true) (v=false):=⟨id,id⟩
instance (priority:=500) dv4 {v:Bool}:Dv (!v) (v=false) (v=true):=⟨by simp,by simp⟩
instance dv1 {p:Prop} [Decidable p]:Dv (!(decide p)) (¬p) p:=⟨by simp,by simp⟩
instance dv2 {s t:ByteArray}:Dv (!(s.toList==t.toList)) (¬s=t) (s=t):=⟨by rw[uI];simp,by rw[uI];simp⟩
instance dv3 {a b:Int}:Dv (!(a==b)) (¬a=b) (a=b):=⟨by simp,by simp⟩
instance dv5 {p:Prop} [Decidable p]:Dv (decide p) p (¬p):=⟨by simp,by simp⟩
instance dv6 {s t:ByteArray}:Dv (s.toList==t.toList) (s=t) (¬s=t):=⟨by rw[uI];simp,by rw[uI];simp⟩
instance dv7 {a b:Int}:Dv (a==b) (a=b) (¬a=b):=⟨by simp,by simp⟩
instance dv8 {a b:Int}:Dv (bne a b) (¬a=b) (a=b):=⟨by simp,by simp⟩
theorem X {v:Bool}{P Q A B:Prop}[h:Dv v P Q](I:P->A)(J:Q->B):Br v A B:=Br.of (λg=>I (h.t g)) λg=>J (h.f g)
theorem X0 {A B:Prop}(b:B)(a:A:=by first|omega|trivial|(show _=_;rfl)|(with_reducible constructor)<;>first|omega|trivial|rfl):A/\B:=⟨a,b⟩
theorem Y1:(!true)=false:=rfl
theorem Y2:(!false)=true:=rfl
theorem Y3 {A B:Prop}:Br true A B=A:=rfl
theorem Y4 {A B:Prop}:Br false A B=B:=rfl
def inB (n a b:Int):Bool:=decide (a<=n)&&decide (n<=b)
theorem yx (n a b:Int):ws 31 [.j n,.j a,.j b] (inB n a b):=λN Q I=>by
 refine NL N n a b Q ?_
 repeat' first|with_reducible intro _|simp only[Y1,Y2,Y3,Y4]|with_reducible refine X ?_ ?_|refine⟨_,_,_,rfl,?_⟩|refine⟨_,rfl,?_⟩|refine X0 ?_|fail
 all_goals simpa [inB, *]using I _ (by omega)
theorem Kd (a b:Int):Dx 146 [.j a,.j b] (max a b):=λN Q I=>by
 refine Kr N a b Q ?_
 repeat' first|with_reducible intro _|simp only[Y1,Y2,Y3,Y4]|with_reducible refine X ?_ ?_|refine⟨_,_,_,rfl,?_⟩|refine⟨_,rfl,?_⟩|refine X0 ?_|fail
 ·have:=I _ (by assumption)
  rwa[Int.max_eq_left (by omega)]at this
 ·have:=I _ (by assumption)
  rwa[Int.max_eq_right (by omega)]at this
mutual
def Ty.dep:Ty->Nat
 | .mk _ l=>uv l+1
def uv:List Ty->Nat
 | []=>0
 | t::I=>max t.dep (uv I)
end
mutual
theorem Ty.dep_cnt:∀ t:Ty,t.dep<=t.cnt
 | .mk _ l=>by simp only[Ty.dep,Ty.cnt];have:=pw l;omega
theorem pw:∀ l:List Ty,uv l<=zL l
 | []=>oC _
 | t::I=>by simp only[uv,zL];have:=t.dep_cnt;have:=pw I;omega
end
theorem xl:∀ {l:List Ty}{t:Ty},t∈l->t.cnt<=zL l
 | u::us,t,h=>by
   simp only[zL];rcases oF.1 h with rfl | h
   ·omega
   ·have:=xl h;omega
def pV (k:Int)(n:Nat):Bool:=if k=1\/k=2 then(n:Int)==0 else if k=3 then(n:Int)==2 else if k=4 then(n:Int)==1 else false
mutual
def Ty.form:Ty->Bool
 | .mk k l=>wL l&&pV k l.length
def wL:List Ty->Bool
 | []=>true
 | t::I=>t.form&&wL I
end
def Ty.valid (t:Ty):Bool:=decide (t.cnt<=30)&&decide (t.dep<=8)&&t.form
theorem BW:∀(t:Ty)(d:D),t.Is d->∀ n:Int,0<=n->n<=1000->Dx 101 [.dg 2 d,.j n] (if(t.cnt:Int)<=n then n - t.cnt else -1):=by
 refine Ty.ind λk l ih d hd n ae ah N Q hQ=>?_;obtain⟨a,es,c,rfl,U,Y⟩:=Ty.is_mk.1 hd;refine J0 N _ n Q λ_=>?_;have key:=up Y U (λi xs=>∀(m:Int) (N':Nat),N<=N' -> -1<=m->m<=1000->(∀ N'',N'<=N''->Q (if m<0 then -1 else if(zL xs:Int)<=m then m - zL xs else -1) N'') ->
  vF Q N m i (.ag [.j k,.sl a 2 es c]) N') ?_ ?_
 ·rw[i64_in _ (by omega)];refine key (n - 1) N (oC _) (by omega) (by omega) λN' O=>Qi (hQ N' O) ?_;simp only[Ty.cnt]
  (repeat' split)<;>omega
 ·intro i aa _ m N' O h1 h2 J;refine qt ?_
  repeat' first|with_reducible intro _|simp only[aa,Y1,Y2,Y3,Y4]|with_reducible refine X ?_ ?_|refine⟨_,_,_,rfl,?_⟩|refine⟨_,rfl,?_⟩|refine X0 ?_|fail
  refine Qi (J _ (by assumption)) ?_;simp only[zL]
  (repeat' split)<;>omega
 ·intro i x xs I _ ab m N' O h1 h2 J;have hb:=I.b;refine qt ?_
  repeat' first|with_reducible intro _|simp only[I.lt,I.w,oH,Y1,Y2,Y3,Y4]|with_reducible refine X ?_ ?_|refine⟨_,_,_,rfl,?_⟩|refine⟨_,rfl,?_⟩|refine X0 ?_|refine(ih x I.m _ I.r m (by omega) (by omega)) _ _ ?_|fail
  ·refine ab _ _ (by omega) (by split<;>omega) (by split<;>omega) λN'' ac=>Qi (J N'' (by omega)) ?_;simp only[zL]
   (repeat' split)<;>omega
  ·refine Qi (J _ (by assumption)) ?_;rw[if_pos (by omega)];omega
theorem sO:∀(t:Ty)(d:D),t.Is d->t.cnt<=1073741824->Dx 102 [.dg 2 d] t.dep:=by
 refine Ty.ind λk l ih d hd hc N Q hQ=>?_;obtain⟨a,es,c,rfl,J,U⟩:=Ty.is_mk.1 hd;refine Cm N _ Q λ_=>?_;simp only[Ty.cnt]at hc;have ab:=pw l;have key:=up U J (λi xs=>∀(m:Nat) (N':Nat),N<=N'->max m (uv xs)=uv l->y9 Q N (m:Int) i (.ag [.j k,.sl a 2 es c]) N') ?_ ?_
 ·exact key 0 N (oC _) (by omega)
 ·intro i Y _ m N' O hm;simp only[uv]at hm;refine uy ?_
  repeat' first|with_reducible intro _|simp only[Y,Y1,Y2,Y3,Y4]|with_reducible refine X ?_ ?_|refine⟨_,_,_,rfl,?_⟩|refine⟨_,rfl,?_⟩|refine X0 ?_|fail
  rw[i64_in _ (by omega)];refine Qi (hQ _ (oL O (by assumption))) ?_;simp only[Ty.dep];omega
 ·intro i x xs I _ aa m N' O hm;have hb:=I.b;have ac:=xl I.m;simp only[uv]at hm;refine uy ?_
  repeat' first|with_reducible intro _|simp only[I.lt,I.w,oH,Y1,Y2,Y3,Y4]|with_reducible refine X ?_ ?_|refine⟨_,_,_,rfl,?_⟩|refine⟨_,rfl,?_⟩|refine X0 ?_|refine(ih x I.m _ I.r (by omega)) _ _ ?_|refine(Kd _ _) _ _ ?_|fail
  have e:max (m:Int) (x.dep:Int)=((max m x.dep:Nat):Int):=by omega
  rw[e];exact aa _ _ (by omega) (by omega)
theorem B5:∀(t:Ty)(d:D),t.Is d->ws 103 [.dg 2 d] t.form:=by
 refine Ty.ind λk l ih d hd N Q hQ=>?_;obtain⟨a,es,c,rfl,O,U⟩:=Ty.is_mk.1 hd;have hl:=U.len;refine JJ N _ Q λ_=>?_;have key:=up U O (λi xs=>∀(N':Nat),N<=N'->(∀ N'',N'<=N''->Q (wL xs&&pV k l.length) N'')->vg Q N i (.ag [.j k,.sl a 2 es c]) N') ?_ ?_
 ·exact key N (oC _) hQ
 ·intro i Y _ N' aa J;refine q9 ?_
  repeat' first|with_reducible intro _|simp only[Y,Y1,Y2,Y3,Y4]|with_reducible refine X ?_ ?_|refine⟨_,_,_,rfl,?_⟩|refine⟨_,rfl,?_⟩|refine X0 ?_|fail
  all_goals(refine Qb (J _ (by assumption)) ?_;simp[wL,pV, *])
 ·intro i x xs I _ ab N' aa J;have hb:=I.b;refine q9 ?_
  repeat' first|with_reducible intro _|simp only[I.lt,I.w,oH,Y1,Y2,Y3,Y4]|with_reducible refine X ?_ ?_|refine⟨_,_,_,rfl,?_⟩|refine⟨_,rfl,?_⟩|refine X0 ?_|refine(ih x I.m _ I.r) _ _ ?_|fail
  ·refine Qb (J _ (by omega)) ?_;simp[wL, *]
  ·exact ab _ (by omega) λN'' h=>Qb (J N'' (by omega)) (by simp[wL, *])
theorem yg (t:Ty)(d:D)(hd:t.Is d)(hc:t.cnt<=1073741824):ws 59 [.dg 2 d] t.valid:=λN Q I=>by
 refine BP N _ Q λ_=>?_;by_cases O:t.cnt<=30
 ·have J:((t.cnt:Int)<=30):=by omega
  repeat' first|with_reducible intro _|simp only[if_pos J,Y1,Y2,Y3,Y4]|with_reducible refine X ?_ ?_|refine⟨_,_,_,rfl,?_⟩|refine⟨_,rfl,?_⟩|refine X0 ?_|refine(BW t d hd _ (by omega) (by omega)) _ _ ?_|refine(sO t d hd hc) _ _ ?_|refine(B5 t d hd) _ _ ?_|fail
  all_goals first | omega | skip
  ·have U:t.dep<=8:=by omega
   refine Qb (I _ (by omega)) ?_;simp[Ty.valid, *]
  ·have U:¬t.dep<=8:=by omega
   refine Qb (I _ (by omega)) ?_;simp[Ty.valid, *]
 ·have J:¬((t.cnt:Int)<=30):=by omega
  repeat' first|with_reducible intro _|simp only[if_neg J,Y1,Y2,Y3,Y4]|with_reducible refine X ?_ ?_|refine⟨_,_,_,rfl,?_⟩|refine⟨_,rfl,?_⟩|refine X0 ?_|refine(BW t d hd _ (by omega) (by omega)) _ _ ?_|refine(sO t d hd hc) _ _ ?_|refine(B5 t d hd) _ _ ?_|fail
  all_goals first | omega | skip
  refine Qb (I _ (by omega)) ?_;simp[Ty.valid, *]
def Wk (f:FuncId)(args:List PV)(t:Ty):Prop:=∀(N:Nat) (Q:QT [.ag 2]),(∀ d' N',N<=N'->t.Is d'->Own N N' d'->Q d' N')->ACalls prog f [.ag 2] args N Q
def tInt:Ty:=.mk 1 []
def tBool:Ty:=.mk 2 []
def tZero:Ty:=.mk 0 []
def vV (a b:Ty):Ty:=.mk 3 [a,b]
def xZ (a:Ty):Ty:=.mk 4 [a]
def Ty.base (t:Ty):Bool:=(t.k==1||t.k==2)&&(t.as.length:Int)==0
theorem tS (k:Int):(Ty.mk k []).Is (.ag [.j k,.sl none 2 [] 0]):=Ty.is_mk.2 ⟨_,_,_,rfl,by simp,rfl⟩
theorem J6 {N N':Nat}{x:Value}:Own N N' (.ag [.lit x,.sl none 2 [] 0]):=⟨by simp[D.foot,zI],⟨trivial,⟨by simp,trivial⟩,trivial⟩,by simp[D.foot,zI],by simp[D.foot,zI]⟩
theorem r6:∀ l:List Ty,l.length<=zL l
 | []=>oC _
 | .mk k l::I=>by simp only[zL,Ty.cnt,oO];have:=r6 I;omega
theorem yN:∀(t u:Ty)(d e:D),t.Is d->u.Is e->ws 16 [.dg 2 d,.dg 2 e] (DH t u):=by
 refine Ty.ind λk l ih u d e hd he N Q hQ=>?_;cases u with
 | mk k' l'=>
 obtain⟨a,es,c,rfl,U,Y⟩:=Ty.is_mk.1 hd;obtain⟨a',aa,c',rfl,ae,O⟩:=Ty.is_mk.1 he;have hl:=Y.len;have al:=O.len;simp only[DH]at hQ;have key:l.length=l'.length->∀(N':Nat),N<=N'->(∀ N'',N'<=N''->Q (rm l (l'.drop 0)) N'')->yv Q N (0:Nat) (.ag [.j k,.sl a 2 es c]) (.ag [.j k',.sl a' 2 aa c']) N':=by
  intro am;refine up Y U (λi xs=>∀(N':Nat),N<=N'->(∀ N'',N'<=N''->Q (rm xs (l'.drop i)) N'')->yv Q N i (.ag [.j k,.sl a 2 es c]) (.ag [.j k',.sl a' 2 aa c']) N') ?_ ?_
  ·intro i ah hi N' ai I;refine sK ?_
   repeat' first|with_reducible intro _|simp only[ah,Y1,Y2,Y3,Y4]|with_reducible refine X ?_ ?_|refine⟨_,_,_,rfl,?_⟩|refine⟨_,rfl,?_⟩|refine X0 ?_|fail
   refine Qb (I _ (by assumption)) ?_;rw[mG (by omega)];rfl
  ·intro i x xs J _ aj N' ai I;have hb:=J.b;have ab:i<l'.length:=by omega
   have hg:l'[i]?=some l'[i]:=oI ab;have ak:l'.drop i=l'[i]::l'.drop (i+1):=mf ab;refine sK ?_;rw[ak]at I
   repeat' first|with_reducible intro _|simp only[J.lt,J.w,oH,Y1,Y2,Y3,Y4]|with_reducible refine X ?_ ?_|refine⟨_,_,_,rfl,?_⟩|refine⟨_,rfl,?_⟩|refine X0 ?_|refine(ih x J.m _ _ _ J.r (O.get hg)) _ _ ?_|fail
   ·exact Qb (I _ (by omega)) (by simp[rm, *])
   ·exact aj _ (by omega) λN'' h=>Qb (I N'' (by omega)) (by simp[rm, *])
 refine Ec N _ _ Q λ_ _=>?_
 repeat' first|with_reducible intro _|simp only[Y1,Y2,Y3,Y4]|with_reducible refine X ?_ ?_|refine⟨_,_,_,rfl,?_⟩|refine⟨_,rfl,?_⟩|refine X0 ?_|fail
 ·exact Qb (hQ _ (by assumption)) (by simp[*])
 ·exact Qb (hQ _ (by assumption)) (by rw[E0 (by omega),Bool.and_false])
 ·exact key (by omega) N (oC _) λN'' ac=>Qb (hQ _ ac) (by simp[*])
theorem qB (t:Ty)(d:D)(hd:t.Is d):ws 81 [.dg 2 d] t.base:=λN Q O=>by
 cases t with
 | mk k l=>
 obtain⟨a,es,c,rfl,J,I⟩:=Ty.is_mk.1 hd;have U:=I.len;refine Jd N _ Q λ_=>?_
 repeat' first|with_reducible intro _|simp only[Y1,Y2,Y3,Y4]|with_reducible refine X ?_ ?_|refine⟨_,_,_,rfl,?_⟩|refine⟨_,rfl,?_⟩|refine X0 ?_|fail
 all_goals refine Qb (O _ (by assumption)) ?_
 all_goals simp[Ty.base,Ty.k,Ty.as,U, *]
theorem ww:Wk 45 [] tInt:=λN Q J=>Ln N Q λN' I=>J _ _ I (tS _) J6
theorem u6:Wk 106 [] tBool:=λN Q J=>I0 N Q λN' I=>J _ _ I (tS _) J6
theorem wj {α:Type}{l:List α}{i:Nat}{x:α}(h:l[i]?=some x):l.take (i+1)=l.take i++[x]:=by rw[List.take_add_one,h];rfl
theorem zP:∀(t:Ty)(d:D),t.Is d->t.cnt<=1073741824->Wk 55 [.dg 2 d] t:=by
 refine Ty.ind λk l ih d hd hc N Q hQ=>?_;obtain⟨a,es,c,rfl,Y,aa⟩:=Ty.is_mk.1 hd;have hl:=aa.len;simp only[Ty.cnt]at hc;have al:=r6 l;refine JO N _ Q λ_=>⟨_,rfl,?_⟩
 have key:=up aa Y (λi xs=>∀(N':Nat),N<=N'->(i=0->tZ Q N i (.ag [.j k,.sl a 2 es c]) 0 none [] 0 k none [] 0 N')/\∀(m q:Nat) (r:List D),m=r.length->All2 Ty.Is (l.take i) r->OwnL N N' r ->
  xh Q N i (.ag [.j k,.sl a 2 es c]) 0 none [] 0 k m q r q N') ?_ ?_
 ·exact(key N (oC _)).1 rfl
 ·intro i ab hi N' ai;refine⟨λh0=>qo ?_,λm q r hm U ho=>sL ?_⟩
  ·repeat' first|with_reducible intro _|simp only[ab,Y1,Y2,Y3,Y4]|with_reducible refine X ?_ ?_|refine⟨_,_,_,rfl,?_⟩|refine⟨_,rfl,?_⟩|refine X0 ?_|fail
   have:l=[]:=oM (by omega);subst this;exact hQ _ _ (by omega) (tS _) J6
  ·repeat' first|with_reducible intro _|simp only[ab,Y1,Y2,Y3,Y4]|with_reducible refine X ?_ ?_|refine⟨_,_,_,rfl,?_⟩|refine⟨_,rfl,?_⟩|refine X0 ?_|fail
   rename_i a' N3 J hf N4 aj;rw[ou (by omega)]at U;exact hQ _ _ (by omega) (Ty.is_mk.2 ⟨_,_,_,rfl,by have:=U.len;omega,U⟩) (IW (xa (wD ((Hk ho hf (by omega)).mono (oC _) aj))))
 ·intro i x xs I _ ac N' ai;have hb:=I.b;have am:=xl I.m;refine⟨λh0=>qo ?_,λm q r hm U ho=>sL ?_⟩
  ·repeat' first|with_reducible intro _|simp only[I.lt,I.w,oH,Y1,Y2,Y3,Y4]|with_reducible refine X ?_ ?_|refine⟨_,_,_,rfl,?_⟩|refine⟨_,rfl,?_⟩|refine X0 ?_|refine(ih x I.m _ I.r (by omega)) _ _ ?_|fail
   rename_i N2 ae d' N3 J hx O ak ah;subst h0;exact⟨by unfold zC;simp,λc2=>(ac _ (by omega)).2 _ _ _ rfl (by rw[wj I.g];exact⟨_,_,rfl,hx,rfl⟩) (wD (O.mono (by omega) (oC _)))⟩
  ·repeat' first|with_reducible intro _|simp only[I.lt,I.w,oH,Y1,Y2,Y3,Y4]|with_reducible refine X ?_ ?_|refine⟨_,_,_,rfl,?_⟩|refine⟨_,rfl,?_⟩|refine X0 ?_|refine(ih x I.m _ I.r (by omega)) _ _ ?_|fail
   rename_i N2 ae d' N3 J hx O ak ah;have ao:=U.len;have aq:(l.take i).length=i:=by rw[nF];omega
   refine⟨by unfold zC;simp only[oJ,nZ];omega,λc2=>?_⟩;exact(ac _ (by omega)).2 _ _ _ rfl (by rw[wj I.g];exact U.snoc hx) (wo (ho.mono (oC _) ae) (wD O) (by omega) J)
theorem uW (t u:Ty)(d e:D)(hd:t.Is d)(he:u.Is e)(I:t.cnt<=1073741824)(J:u.cnt<=1073741824):Wk 73 [.dg 2 d,.dg 2 e] (vV t u):=λN Q hQ=>by
 refine Dt N _ _ Q λ_ _=>?_
 repeat' first|with_reducible intro _|simp only[Y1,Y2,Y3,Y4]|with_reducible refine X ?_ ?_|refine⟨_,_,_,rfl,?_⟩|refine⟨_,rfl,?_⟩|refine X0 ?_|refine(zP t d hd I) _ _ ?_|refine(zP u e he J) _ _ ?_|fail
 rename_i N1 O d1 N2 ab h1 o1 ac b1 N3 U d2 N4 Y h2 o2 ae b2 a' N5 ah hf N6 aa;exact hQ _ _ (by omega) (Ty.is_mk.2 ⟨_,_,_,rfl,by simp,_,_,rfl,h1,_,_,rfl,h2,rfl⟩)
  (IW (xa (wD ((Hk (wo ((wD o1).mono O U) (wD o2) (by omega) Y) hf (by omega)).mono (oC _) aa))))
theorem ve (t:Ty)(d:D)(hd:t.Is d)(I:t.cnt<=1073741824):Wk 72 [.dg 2 d] (xZ t):=λN Q U=>by
 refine BS N _ Q λ_=>?_
 repeat' first|with_reducible intro _|simp only[Y1,Y2,Y3,Y4]|with_reducible refine X ?_ ?_|refine⟨_,_,_,rfl,?_⟩|refine⟨_,rfl,?_⟩|refine X0 ?_|refine(zP t d hd I) _ _ ?_|fail
 rename_i N1 J d1 N2 Y h1 o1 aa b1 a' N5 ab hf N6 O;exact U _ _ (by omega) (Ty.is_mk.2 ⟨_,_,_,rfl,by simp,_,_,rfl,h1,rfl⟩)
  (IW (xa (wD ((Hk ((wD o1).mono J (oC _)) hf (by omega)).mono (oC _) O))))
theorem upN {n:Nat} (hn:n<=4611686018427387904) (P:Nat->Prop) (hend:decide ((n:Int)<(n:Int))=false->P n)
  (hstep:∀ i:Nat,i<n->decide ((i:Int)<(n:Int))=true->IntKind.i64.wrap ((i:Int)+1)=((i+1:Nat):Int)->P (i+1)->P i):P 0:=by
 have key : ∀(m i:Nat),i+m=n->P i:=by
  intro m
  induction m with
  | zero => intro i h;have:i=n:=by omega
            subst this;exact hend (by simp)
  | succ m ih=>intro i h;exact hstep i (by omega) (mI (by omega)) (by rw[i64_in _ (by omega)];simp) (ih (i+1) (by omega))
 exact key n 0 (by omega)
abbrev Dw (s:ByteArray)(i:Nat):Int:=((s.data.getD i (OfNat.ofNat 0)).toNat:Int)
def IV (s:ByteArray)(i:Nat):Bool:=(decide (Dw s i≥97)&&decide (Dw s i<=122))||(!(decide ((i:Int)=0))&&(!(decide (Dw s i<48))&&!(decide (Dw s i>57))))
def sf (s:ByteArray)(i:Nat):Bool:=(List.range' i (s.size - i)).all (IV s)
theorem CK {s:ByteArray}{i:Nat}(h:i<s.size):sf s i=(IV s i&&sf s (i+1)):=by unfold sf;rw[show s.size - i=(s.size - (i+1))+1 by omega,List.range'_succ];rfl
theorem Dk {s:ByteArray}:sf s s.size=true:=by simp[sf]
def Ib (s:ByteArray):Bool:=inB s.size 1 4&&(!(decide (s=bytes [105,102]))&&(!(decide (s=bytes [108,101,116]))&&(!(decide (s=bytes [114,101,99]))&&(!(decide (s=bytes [114,117,110]))&&!(decide (s=bytes [108,105,102,116]))))))
def yW (s:ByteArray):Bool:=sf s 0&&Ib s
theorem rt (s:ByteArray)(hs:s.size<=4611686018427387904):ws 58 [.str s] (yW s):=λN Q Y=>by
 refine Ix N s Q ?_;have key:=upN hs (λi=>∀ N',N<=N'->(∀ N'',N'<=N''->Q (sf s i&&Ib s) N'')->xE Q N s i N') ?_ ?_
 ·exact key N (oC _) Y
 ·intro J N' O I;refine pA ?_
  repeat' first|with_reducible intro _|simp only[J,Y1,Y2,Y3,Y4]|with_reducible refine X ?_ ?_|refine⟨_,_,_,rfl,?_⟩|refine⟨_,rfl,?_⟩|refine X0 ?_|refine(yx _ _ _) _ _ ?_|fail
  all_goals(refine Qb (I _ (by omega)) ?_;rw[Dk])
  all_goals simp[Ib,uI, *]
 ·intro i hi J hw U N' O I;refine pA ?_;rw[CK hi]at I
  repeat' first|with_reducible intro _|simp only[J,hw,oH,Y1,Y2,Y3,Y4]|with_reducible refine X ?_ ?_|refine⟨_,_,_,rfl,?_⟩|refine⟨_,rfl,?_⟩|refine X0 ?_|fail
  all_goals first
   | (refine Qb (I _ (by omega)) ?_;unfold IV Dw;simp only[*];simp;done)
   | (refine U _ (by omega) λN'' h=>Qb (I N'' (by omega)) ?_;unfold IV Dw;simp only[*];simp;done)
inductive Tm where
 | mk (k:Int) (nm ot:ByteArray) (n:Int) (ty re:Ty) (l:List Tm)
def Tm.as:Tm->List Tm
 | .mk _ _ _ _ _ _ l=>l
structure Tm.Hd (nm ot:ByteArray) (ty re:Ty) (t0 t1 r0 r1:D):Prop where
 nm:nm.size<=4611686018427387904
 ot:ot.size<=4611686018427387904
 ty:ty.Is (.ag [t0,t1])
 re:re.Is (.ag [r0,r1])
mutual
def Tm.Is:Tm->D->Prop
 | .mk k nm ot n ty re l,d=>∃ t0 t1 r0 r1 a es c,d=.ag [.j k,.t nm,.t ot,.j n,t0,t1,r0,r1,.sl a 9 es c]/\Tm.Hd nm ot ty re t0 t1 r0 r1/\es.length<=4611686018427387904/\Qq l es
def Qq:List Tm->List D->Prop
 | [],es=>es=[]
 | t::I,es=>∃ d ds,es=d::ds/\t.Is d/\Qq I ds
end
theorem Jv:∀ {l:List Tm}{es:List D},Qq l es↔All2 Tm.Is l es
 | [],es=>by simp only[Qq,All2]
 | t::U,es=>by simp only[Qq,All2];exact⟨λ⟨d,ds,I,J,O⟩=>⟨d,ds,I,J,Jv.1 O⟩,λ⟨d,ds,I,J,O⟩=>⟨d,ds,I,J,Jv.2 O⟩⟩
theorem Tm.is_mk {k:Int} {nm ot:ByteArray} {n:Int} {ty re:Ty} {l:List Tm} {d:D}:(Tm.mk k nm ot n ty re l).Is d ↔
  ∃ t0 t1 r0 r1 a es c,d=.ag [.j k,.t nm,.t ot,.j n,t0,t1,r0,r1,.sl a 9 es c]/\Tm.Hd nm ot ty re t0 t1 r0 r1/\es.length<=4611686018427387904/\All2 Tm.Is l es:=by
 simp only[Tm.Is,Jv]
theorem Tm.ind {P:Tm->Prop}(h:∀ k nm ot n ty re l,(∀ t∈l,P t)->P (.mk k nm ot n ty re l)):∀ t,P t:=λt=>
 Tm.rec (motive_1:=P) (motive_2:=λl=>∀ t∈l,P t) (λk nm ot n ty re l I=>h k nm ot n ty re l I) (by simp) (λt l J O u hu=>by
  rcases oF.1 hu with rfl | hu
  ·exact J
  ·exact O u hu) t
mutual
def Tm.cnt:Tm->Nat
 | .mk _ _ _ _ ty re l=>1+ty.cnt+re.cnt+zj l
def zj:List Tm->Nat
 | []=>0
 | t::I=>t.cnt+zj I
end
theorem xz:∀ {l:List Tm}{t:Tm},t∈l->t.cnt<=zj l
 | u::us,t,h=>by
   simp only[zj];rcases oF.1 h with rfl | h
   ·omega
   ·have:=xz h;omega
theorem v7:∀ l:List Tm,l.length<=zj l
 | []=>oC _
 | .mk _ _ _ _ _ _ _::I=>by simp only[zj,Tm.cnt,oO];have:=v7 I;omega
mutual
def Tm.dp:Tm->Nat
 | .mk _ _ _ _ _ _ l=>r8 l+1
def r8:List Tm->Nat
 | []=>0
 | t::I=>max t.dp (r8 I)
end
mutual
theorem Tm.dp_cnt:∀ t:Tm,t.dp<=t.cnt
 | .mk _ _ _ _ ty re l=>by simp only[Tm.dp,Tm.cnt];have:=LL l;omega
theorem LL:∀ l:List Tm,r8 l<=zj l
 | []=>oC _
 | t::I=>by simp only[r8,zj];have:=t.dp_cnt;have:=LL I;omega
end
theorem Tm.dp_pos (t:Tm):1<=t.dp:=by cases t;simp only[Tm.dp];omega
theorem tG:∀ {l:List Tm}{t:Tm},t∈l->t.dp<=r8 l
 | u::us,t,h=>by
   simp only[r8];rcases oF.1 h with rfl | h
   ·omega
   ·have:=tG h;omega
mutual
def Tm.G:Tm->Prop
 | .mk _ _ _ _ ty re l=>ty.cnt<=1073741824/\re.cnt<=1073741824/\l.length<=1073741824/\OW l
def OW:List Tm->Prop
 | []=>True
 | t::I=>t.G/\OW I
end
theorem zh:∀ {l:List Tm}{x:Tm},OW l->x∈l->x.G
 | t::I,x,h,hx=>by
   rcases oF.1 hx with rfl | hx
   ·exact h.1
   ·exact zh h.2 hx
theorem DF:∀ {l:List Tm},(∀ x∈l,x.G)->OW l
 | [],_=>trivial
 | t::J,h=>⟨h t (by simp),DF λx I=>h x (by simp[I])⟩
mutual
theorem Tm.G_cnt:∀ t:Tm,t.cnt<=1073741824->t.G
 | .mk _ _ _ _ ty re l,h=>by
   simp only[Tm.cnt]at h
   have:=v7 l
   exact⟨by omega,by omega,by omega,NS l (by omega)⟩
theorem NS:∀ l:List Tm,zj l<=1073741824->OW l
 | [],_=>trivial
 | t::I,h=>by
   simp only[zj]at h
   exact⟨Tm.G_cnt t (by omega),NS I (by omega)⟩
end
structure Tg where
 nm:ByteArray
 ty:Ty
 lv:Int
def Tg.Is (g:Tg)(d:D):Prop:=∃ t0 t1,d=.ag [.t g.nm,t0,t1,.j g.lv]/\g.nm.size<=4611686018427387904/\g.ty.Is (.ag [t0,t1])
theorem Tg.is_mk {nm:ByteArray}{ty:Ty}{lv:Int}{d:D}:(Tg.mk nm ty lv).Is d↔∃ t0 t1,d=.ag [.t nm,t0,t1,.j lv]/\nm.size<=4611686018427387904/\ty.Is (.ag [t0,t1]):=lG
def rU (s:ByteArray):Int:=if s=bytes [43]then 2 else if s=bytes [45]then 2 else if s=bytes [42]then 2 else if s=bytes [61]then 2 else if s=bytes [60]then 2 else if s=bytes [38]then 2 else if s=bytes [124]then 2 else if s=bytes [33]then 1 else 0
theorem Ak (s:ByteArray):Dx 114 [.str s] (rU s):=λN Q I=>by
 refine HS N s Q ?_
 repeat' first|with_reducible intro _|simp only[Y1,Y2,Y3,Y4]|with_reducible refine X ?_ ?_|refine⟨_,_,_,rfl,?_⟩|refine⟨_,rfl,?_⟩|refine X0 ?_|fail
 all_goals(refine Qi (I _ (by assumption)) ?_;unfold rU;(repeat' split)<;>first | rfl | contradiction)
def Ty.zero (t:Ty):Bool:=t.k==0&&(t.as.length:Int)==0
theorem CA (t:Ty)(d:D)(hd:t.Is d):ws 139 [.dg 2 d] t.zero:=λN Q O=>by
 cases t with
 | mk k l=>
 obtain⟨a,es,c,rfl,J,I⟩:=Ty.is_mk.1 hd;have U:=I.len;refine Iv N _ Q λ_=>?_
 repeat' first|with_reducible intro _|simp only[Y1,Y2,Y3,Y4]|with_reducible refine X ?_ ?_|refine⟨_,_,_,rfl,?_⟩|refine⟨_,rfl,?_⟩|refine X0 ?_|fail
 all_goals refine Qb (O _ (by assumption)) ?_
 all_goals simp[Ty.zero,Ty.k,Ty.as,U, *]
def xY (k:Int)(nm ot:ByteArray):Bool:=
 if k=4 then decide (rU nm>0)&&decide (ot=bytes [])else if k=1\/k=6\/k=8 then yW nm&&decide (ot=bytes [])else if k=9 then yW nm&&(yW ot&&!decide (nm=ot))else decide (nm=bytes [])&&decide (ot=bytes [])
theorem Zc (a b:Int):(a==b)=decide (a=b):=by rw[nj];simp
def sB (k:Int):Bool:=k==6||k==9
def zK (k:Int)(nm ot:ByteArray)(n:Int)(ty re:Ty):Bool:=
 (sB k==ty.valid)&&((sB k||ty.zero)&&(((k==9)==re.valid)&&((k==9||re.zero)&&(inB n 0 (if k=2 then 10006 else if k=3 then 1 else 0)&&xY k nm ot))))
def Cw (k:Int)(nm:ByteArray):Int:=
 if k=1\/k=2\/k=3 then 0 else if k=4 then rU nm else if k=6\/k=9\/k=10\/k=11\/k=12\/k=13 then 1 else if k=7\/k=8 then 2 else if k=5 then 3 else -1
mutual
def Tm.ok:Tm->Bool
 | .mk k nm ot n ty re l=>qv l&&(zK k nm ot n ty re&&(l.length:Int)==Cw k nm)
def qv:List Tm->Bool
 | []=>true
 | t::I=>t.ok&&qv I
end
theorem HJ {k n:Int}{nm ot:ByteArray}{ty re:Ty}{t0 t1 r0 r1 x:D}(h:Tm.Hd nm ot ty re t0 t1 r0 r1):ws 140 [.dg 9 (.ag [.j k,.t nm,.t ot,.j n,t0,t1,r0,r1,x])] (xY k nm ot):=λN Q I=>by
 refine HK N _ Q λ_=>?_
 repeat' first|with_reducible intro _|simp only[Y1,Y2,Y3,Y4]|with_reducible refine X ?_ ?_|refine⟨_,_,_,rfl,?_⟩|refine⟨_,rfl,?_⟩|refine X0 ?_|refine(Ak _) _ _ ?_|refine(rt _ h.nm) _ _ ?_|refine(rt _ h.ot) _ _ ?_|fail
 all_goals(refine Qb (I _ (by omega)) ?_;simp[xY,uI, *])
theorem FZ {k n:Int} {nm ot:ByteArray} {ty re:Ty} {t0 t1 r0 r1 x:D} (h:Tm.Hd nm ot ty re t0 t1 r0 r1) (hc:ty.cnt<=1073741824) (I:re.cnt<=1073741824) :
  ws 95 [.dg 9 (.ag [.j k,.t nm,.t ot,.j n,t0,t1,r0,r1,x])] (zK k nm ot n ty re):=λN Q J=>by
 refine Fw N _ Q λ_=>?_
 repeat' first|with_reducible intro _|simp only[Y1,Y2,Y3,Y4]|with_reducible refine X ?_ ?_|refine⟨_,_,_,rfl,?_⟩|refine⟨_,rfl,?_⟩|refine X0 ?_|refine(yg _ _ h.ty hc) _ _ ?_|refine(yg _ _ h.re I) _ _ ?_|refine(CA _ _ h.ty) _ _ ?_|refine(CA _ _ h.re) _ _ ?_|refine(yx _ _ _) _ _ ?_|refine(HJ h) _ _ ?_|fail
 all_goals first | (exfalso;omega) | (refine Qb (J _ (by omega)) ?_;simp[zK,sB, *];done) | (refine Qb (J _ (by omega)) ?_;simp_all[zK,sB];done) | (refine Qb (J _ (by omega)) ?_;simp_all only[zK,sB,Zc];simp_all;done)
theorem wN {k n:Int}{nm ot:ByteArray}{t0 t1 r0 r1 x:D}:Dx 71 [.dg 9 (.ag [.j k,.t nm,.t ot,.j n,t0,t1,r0,r1,x])] (Cw k nm):=λN Q I=>by
 refine Ha N _ Q λ_=>?_
 repeat' first|with_reducible intro _|simp only[Y1,Y2,Y3,Y4]|with_reducible refine X ?_ ?_|refine⟨_,_,_,rfl,?_⟩|refine⟨_,rfl,?_⟩|refine X0 ?_|refine(Ak _) _ _ ?_|fail
 all_goals(refine Qi (I _ (by omega)) ?_;simp[Cw, *])
theorem Aa:∀(t:Tm)(d:D),t.Is d->t.G->ws 53 [.dg 9 d] t.ok:=by
 refine Tm.ind λk nm ot n ty re l ih d hd hc N Q hQ=>?_;obtain⟨t0,t1,r0,r1,a,es,c,rfl,hh,O,U⟩:=Tm.is_mk.1 hd;have hl:=U.len;obtain⟨g1,g2,_,g4⟩:=hc;refine I2 N _ Q λ_=>?_;have key:=up U O (λi xs=>∀(N':Nat),N<=N'->(∀ N'',N'<=N''->Q (qv xs&&(zK k nm ot n ty re&&(l.length:Int)==Cw k nm)) N'')->vi Q N i (.ag [.j k,.t nm,.t ot,.j n,t0,t1,r0,r1,.sl a 9 es c]) N') ?_ ?_
 ·exact key N (oC _) hQ
 ·intro i Y _ N' aa J;refine pW ?_
  repeat' first|with_reducible intro _|simp only[Y,Y1,Y2,Y3,Y4]|with_reducible refine X ?_ ?_|refine⟨_,_,_,rfl,?_⟩|refine⟨_,rfl,?_⟩|refine X0 ?_|refine(FZ hh (by omega) (by omega)) _ _ ?_|refine wN _ _ ?_|fail
  all_goals(refine Qb (J _ (by omega)) ?_;simp[qv, *])
 ·intro i x xs I _ ab N' aa J;have hb:=I.b;have ac:=zh g4 I.m;refine pW ?_
  repeat' first|with_reducible intro _|simp only[I.lt,I.w,oH,Y1,Y2,Y3,Y4]|with_reducible refine X ?_ ?_|refine⟨_,_,_,rfl,?_⟩|refine⟨_,rfl,?_⟩|refine X0 ?_|refine(ih x I.m _ I.r ac) _ _ ?_|fail
  ·refine Qb (J _ (by omega)) ?_;simp[qv, *]
  ·exact ab _ (by omega) λN'' h=>Qb (J N'' (by omega)) (by simp[qv, *])
theorem JH (t:Tm)(d:D)(h:t.Is d)(hc:t.cnt<=1073741824):ws 53 [.dg 9 d] t.ok:=Aa t d h (Tm.G_cnt t hc)
theorem zw {n a b:Int}:inB n a b=true↔a<=n/\n<=b:=by simp[inB]
def zf (k n:Int):Int:=if k=10 then n+1 else if k=11 then n - 1 else n
mutual
def Tm.lev:Tm->Int->Bool
 | .mk k _ _ _ _ _ l,n=>inB n 0 2&&rG l (zf k n)
def rG:List Tm->Int->Bool
 | [],_=>true
 | t::I,n=>t.lev n&&rG I n
end
theorem rq {k n m:Int}{c1 I J O U Y c8:D}(h:0<=m/\m<=2):Dx 104 [.dg 9 (.ag [.j k,c1,I,.j n,J,O,U,Y,c8]),.j m] (zf k m):=λN Q hQ=>by
 refine BX N _ m Q λ_=>?_;rw[i64_in (m+1) (by omega),i64_in (m - 1) (by omega)]
 repeat' first|with_reducible intro _|simp only[Y1,Y2,Y3,Y4]|with_reducible refine X ?_ ?_|refine⟨_,_,_,rfl,?_⟩|refine⟨_,rfl,?_⟩|refine X0 ?_|fail
 all_goals(refine Qi (hQ _ (by omega)) ?_;simp[zf, *])
theorem FY:∀(t:Tm)(d:D),t.Is d->∀ m:Int,ws 60 [.dg 9 d,.j m] (t.lev m):=by
 refine Tm.ind λk nm ot n ty re l ih d hd m N Q hQ=>?_;obtain⟨t0,t1,r0,r1,a,es,c,rfl,hh,U,Y⟩:=Tm.is_mk.1 hd;have hl:=Y.len;refine MJ N _ m Q λ_=>?_;cases I:inB m 0 2 with
 | false=>
   repeat' first|with_reducible intro _|simp only[I,Y1,Y2,Y3,Y4]|with_reducible refine X ?_ ?_|refine⟨_,_,_,rfl,?_⟩|refine⟨_,rfl,?_⟩|refine X0 ?_|refine(yx _ _ _) _ _ ?_|fail
   exact Qb (hQ _ (by omega)) (by simp[Tm.lev,I])
 | true=>
   have hb:=zw.1 I;have key:=up Y U (λi xs=>∀(N':Nat),N<=N'->(∀ N'',N'<=N''->Q (rG xs (zf k m)) N'')->tA Q N m i (.ag [.j k,.t nm,.t ot,.j n,t0,t1,r0,r1,.sl a 9 es c]) N') ?_ ?_
   ·repeat' first|with_reducible intro _|simp only[I,Y1,Y2,Y3,Y4]|with_reducible refine X ?_ ?_|refine⟨_,_,_,rfl,?_⟩|refine⟨_,rfl,?_⟩|refine X0 ?_|refine(yx _ _ _) _ _ ?_|fail
    exact key _ (by omega) λN'' h=>Qb (hQ N'' (by omega)) (by simp[Tm.lev,I])
   ·intro i aa _ N' ab O;refine Bm ?_
    repeat' first|with_reducible intro _|simp only[aa,Y1,Y2,Y3,Y4]|with_reducible refine X ?_ ?_|refine⟨_,_,_,rfl,?_⟩|refine⟨_,rfl,?_⟩|refine X0 ?_|fail
    exact Qb (O _ (by omega)) (by simp[rG])
   ·intro i x xs J _ ac N' ab O;have ae:=J.b;refine Bm ?_
    repeat' first|with_reducible intro _|simp only[J.lt,J.w,oH,Y1,Y2,Y3,Y4]|with_reducible refine X ?_ ?_|refine⟨_,_,_,rfl,?_⟩|refine⟨_,rfl,?_⟩|refine X0 ?_|refine(rq hb) _ _ ?_|refine(ih x J.m _ J.r _) _ _ ?_|fail
    ·refine Qb (O _ (by omega)) ?_;simp[rG, *]
    ·exact ac _ (by omega) λN'' h=>Qb (O N'' (by omega)) (by simp[rG, *])
def BF (t:Tm)(n:Int):Bool:=t.ok&&t.lev n
theorem ur (t:Tm)(d:D)(hd:t.Is d)(hc:t.G)(m:Int):ws 33 [.dg 9 d,.j m] (BF t m):=λN Q I=>by
 refine Gj N _ m Q λ_=>?_
 repeat' first|with_reducible intro _|simp only[Y1,Y2,Y3,Y4]|with_reducible refine X ?_ ?_|refine⟨_,_,_,rfl,?_⟩|refine⟨_,rfl,?_⟩|refine X0 ?_|refine(Aa t d hd hc) _ _ ?_|refine(FY t d hd m) _ _ ?_|fail
 all_goals(refine Qb (I _ (by omega)) ?_;simp[BF, *])
theorem GH (t:Tm)(d:D)(hd:t.Is d)(hc:t.cnt<=1073741824)(m:Int):ws 33 [.dg 9 d,.j m] (BF t m):=ur t d hd (Tm.G_cnt t hc) m
structure Ctx (g:List Tg) (es:List D):Prop where
 len:es.length<=4611686018427387904
 all:All2 Tg.Is g es
def Tg.ok (g:Tg):Bool:=yW g.nm&&(g.ty.valid&&inB g.lv 0 2)
def Kj:List Tg->Bool
 | []=>true
 | g::I=>g.ok&&Kj I
def O2 (g:List Tg):Bool:=Kj g&&decide ((g.length:Int)<=12)
theorem qh {g:List Tg}{es:List D}(h:Ctx g es)(hc:∀ x∈g,x.ty.cnt<=1073741824)(a:Option Addr)(c:Nat):ws 32 [.sv a 4 es c] (O2 g):=λN Q hQ=>by
 have hl:=h.all.len;refine Lr N a es c Q λ_=>?_;have key:=up h.all h.len (λi xs=>∀(N':Nat),N<=N'->(∀ N'',N'<=N''->Q (Kj xs&&decide ((g.length:Int)<=12)) N'')->uN Q N a es c i N') ?_ ?_
 ·exact key N (oC _) hQ
 ·intro i O _ N' U J;refine Ae ?_
  repeat' first|with_reducible intro _|simp only[O,Y1,Y2,Y3,Y4]|with_reducible refine X ?_ ?_|refine⟨_,_,_,rfl,?_⟩|refine⟨_,rfl,?_⟩|refine X0 ?_|fail
  refine Qb (J _ (by omega)) ?_;simp[Kj,hl]
 ·intro i x xs I _ Y N' U J;have hb:=I.b;obtain⟨t0,t1,hd,hs,ht⟩:=I.r;refine Ae ?_
  repeat' first|with_reducible intro _|simp only[I.lt,I.w,oH,hd,Y1,Y2,Y3,Y4]|with_reducible refine X ?_ ?_|refine⟨_,_,_,rfl,?_⟩|refine⟨_,rfl,?_⟩|refine X0 ?_|refine(rt _ hs) _ _ ?_|refine(yg _ _ ht (hc x I.m)) _ _ ?_|refine(yx _ _ _) _ _ ?_|fail
  all_goals first
   | (refine Y _ (by omega) λN'' h=>Qb (J N'' (by omega)) ?_;simp[Kj,Tg.ok, *];done)
   | (refine Qb (J _ (by omega)) ?_;simp[Kj,Tg.ok, *];done)
def tg0:Tg:=⟨bytes [],tZero,0⟩
def tT (g:List Tg)(s:ByteArray):Nat->Int
 | 0 => -1
 | k+1=>if(g.getD k tg0).nm=s then k else tT g s k
def zV (g:List Tg)(s:ByteArray):Int:=tT g s g.length
theorem Cf (g:List Tg)(s:ByteArray):∀ n:Nat,tT g s n = -1\/(0<=tT g s n/\tT g s n<n)
 | 0=>.inl rfl
 | n+1=>by
   simp only[tT];split
   ·exact .inr (by omega)
   ·rcases Cf g s n with h | h
    ·exact .inl h
    ·exact .inr (by omega)
theorem Zz {α:Type} {R:α->D->Prop} {l:List α} {es:List D} (h:All2 R l es) (I:es.length<=4611686018427387904) (P:Int->Prop) (U:P (-1))
  (hs:∀(i:Nat) x,At R l es i x->decide ((i:Int)≥0)=true->IntKind.i64.wrap ((i:Int) - 1)=(i:Int) - 1->P ((i:Int) - 1)->P i):P ((es.length:Int) - 1):=by
 have Y:=h.len;have key:∀ n:Nat,n<=l.length->P ((n:Int) - 1):=by
  intro n
  induction n with
  | zero=>intro _;exact U
  | succ n ih=>
    intro J;have O:l[n]?=some l[n]:=oI J;have e:((n+1:Nat):Int) - 1=n:=by omega
    rw[e];exact hs n _ ⟨mI (by omega),⟨by omega,by omega⟩,by rw[i64_in _ (by omega)];simp,h.get O,mS J,O⟩ (mI (by omega)) (i64_in _ (by omega)) (ih (by omega))
 rw[Y];exact key _ (oC _)
theorem Ru {α:Type}{l:List α}{i:Nat}{x d:α}(h:l[i]?=some x):l.getD i d=x:=by simp[oA,h]
theorem u9 {g:List Tg}{es:List D}(h:Ctx g es)(a:Option Addr)(c:Nat)(s:ByteArray):Dx 105 [.sv a 4 es c,.str s] (zV g s):=λN Q hQ=>by
 have hl:=h.all.len;have h1:=h.len;refine JN N a es c s Q λ_=>?_;have key:=Zz h.all h.len (λm=>∀(N':Nat),N<=N'->(∀ N'',N'<=N''->Q (tT g s (m+1).toNat) N'')->vQ Q N a es c s m N') ?_ ?_
 ·rw[i64_in _ (by omega)];exact key N (oC _) λN' J=>Qi (hQ N' J) (by rw[zV,<-hl];congr 1;omega)
 ·intro N' J I;refine pN ?_
  repeat' first|with_reducible intro _|simp only[Y1,Y2,Y3,Y4]|with_reducible refine X ?_ ?_|refine⟨_,_,_,rfl,?_⟩|refine⟨_,rfl,?_⟩|refine X0 ?_|fail
  ·omega
  ·exact I _ (by assumption)
 ·intro i x O U hw ih N' J I;have hb:=O.b;obtain⟨t0,t1,hd,hs,ht⟩:=O.r;have e1:((i:Int)+1).toNat=i+1:=by omega
  have e2:((i:Int) - 1+1).toNat=i:=by omega
  rw[e1]at I;simp only[tT,Ru O.g]at I;rw[e2]at ih;refine pN ?_
  repeat' first|with_reducible intro _|simp only[U,hw,oH,hd,Y1,Y2,Y3,Y4]|with_reducible refine X ?_ ?_|refine⟨_,_,_,rfl,?_⟩|refine⟨_,rfl,?_⟩|refine X0 ?_|fail
  ·rename_i Y _ _;exact Qi (I _ (by omega)) (by rw[if_pos Y])
  ·rename_i Y;exact ih _ (by omega) λN'' h=>Qi (I N'' (by omega)) (by rw[if_neg Y])
theorem Ty.is_cells {t:Ty}{d:D}(h:t.Is d):t.Is (.ag [D.cell d 0,D.cell d 1]):=by
 cases t with
 | mk k l=>obtain⟨a,es,c,rfl,_,_⟩:=Ty.is_mk.1 h;exact h
def AV (g:List Tg)(n:Int)(x:Tg)(i:Nat):Bool:=x.ty.base&&(decide (x.lv<=n)&&decide (zV g x.nm=(i:Int)))
def vo (g:List Tg)(n:Int):List Tg->Nat->List Tg
 | [],_=>[]
 | x::xs,i=>if AV g n x i then x::vo g n xs (i+1)else vo g n xs (i+1)
def rH (g:List Tg)(n:Int):List Tg:=vo g n g 0
theorem C8 (g:List Tg)(n:Int):∀(l:List Tg)(i:Nat),(∀ x∈vo g n l i,x∈l)/\(vo g n l i).length<=l.length
 | [],i=>by simp[vo]
 | x::xs,i=>by
   have h:=C8 g n xs (i+1);simp only[vo];split
   ·refine⟨λy hy=>?_,by simp;exact h.2⟩;rcases oF.1 hy with rfl | hy
    ·exact ny
    ·exact nw _ (h.1 y hy)
   ·exact⟨λy hy=>nw _ (h.1 y hy),by have:=h.2;simp;omega⟩
theorem sm {g:List Tg} {es:List D} (h:Ctx g es) (hg:g.length<=1073741824) (hc:∀ x∈g,x.ty.cnt<=1073741824) (a:Option Addr) (c:Nat) (n:Int) :
  ∀(N:Nat) (Q:QT [.sl 4]),(∀ a' J c' N',N<=N'->Ctx (rH g n) J->Q a' J c' N')->ACalls prog 118 [.sl 4] [.sv a 4 es c,.j n] N Q:=λN Q hQ=>by
 have hl:=h.all.len;refine HU N a es c n Q λ_=>?_;have key:=up h.all h.len (λi xs=>∀(r:List D) (m q:Nat) (N':Nat) (done:List Tg),N<=N'->m=r.length->All2 Tg.Is done r->done.length<=i->done++vo g n xs i=rH g n->yO Q N a es c n m q i r q N') ?_ ?_
 ·exact key [] 0 0 N [] (oC _) rfl rfl (oC _) rfl
 ·intro i Y hi r m q N' done aa hm O ab hd;refine qR ?_
  repeat' first|with_reducible intro _|simp only[Y,Y1,Y2,Y3,Y4]|with_reducible refine X ?_ ?_|refine⟨_,_,_,rfl,?_⟩|refine⟨_,rfl,?_⟩|refine X0 ?_|fail
  refine hQ _ _ _ _ (by omega) ⟨by have:=O.len;omega,?_⟩;simp only[vo,nH]at hd;rwa[<-hd]
 ·intro i x xs I _ U r m q N' done aa hm O ab hd;have hb:=I.b;have ae:=O.len;obtain⟨t0,t1,he,hs,ht⟩:=I.r;simp only[vo]at hd;refine qR ?_
  repeat' first|with_reducible intro _|simp only[I.lt,I.w,oH,he,Y1,Y2,Y3,Y4]|with_reducible refine X ?_ ?_|refine⟨_,_,_,rfl,?_⟩|refine⟨_,rfl,?_⟩|refine X0 ?_|refine(qB _ _ ht) _ _ ?_|refine(u9 h a c _) _ _ ?_|refine(zP _ _ ht (hc x I.m)) _ _ ?_|fail
  ·rename_i N2 ah x' N3 ai hx ho _ _;have ac:AV g n x i=true:=by simp[AV, *]
   rw[if_pos ac]at hd;refine⟨by unfold zC;simp only[oJ,nZ];omega,λc2=>U _ _ _ _ (done++[x]) (by omega) rfl (O.snoc ⟨_,_,rfl,hs,Ty.is_cells hx⟩) (by simp;omega) (by simpa using hd)⟩
  all_goals(refine U _ _ _ _ done (by omega) hm O (by omega) ?_;rw[<-hd,if_neg (by simp[AV, *])])
theorem yT {g:List Tg} {es:List D} (h:Ctx g es) (hg:g.length<=1073741824) (a:Option Addr) (c:Nat) {s:ByteArray} (hs:s.size<=4611686018427387904) {t:Ty} {d:D} (J:t.Is d) (n:Int) :
  ∀(N:Nat) (Q:QT [.sl 4]),(∀ O I U N',N<=N'->Ctx (g++[⟨s,t,n⟩]) I->Q O I U N')->ACalls prog 80 [.sl 4] [.sv a 4 es c,.str s,.dg 2 d,.j n] N Q:=λN Q Y=>by
 have hl:=h.all.len;have hb:∀ x:D,zC ([]++es) [x] 56:=λx=>by unfold zC;simp only[ob,oJ,nZ];omega
 have aa:zC [] es 56:=by unfold zC;simp only[ob];omega
 refine KN N a es c s d n Q λ_ _=>?_
 repeat' first|with_reducible intro _|simp only[Y1,Y2,Y3,Y4]|with_reducible refine X ?_ ?_|refine⟨_,_,_,rfl,?_⟩|refine⟨_,rfl,?_⟩|refine X0 ?_|fail
 refine⟨hb _,λc2=>?_⟩
 repeat' first|with_reducible intro _|simp only[Y1,Y2,Y3,Y4]|with_reducible refine X ?_ ?_|refine⟨_,_,_,rfl,?_⟩|refine⟨_,rfl,?_⟩|refine X0 ?_|fail
 refine Y _ _ _ _ (by omega) ⟨by simp;omega,?_⟩;simp only[ob];exact h.all.snoc ⟨_,_,rfl,hs,Ty.is_cells J⟩
def Oo (o:Option Ty)(d:D)(b:Bool):Prop:=match o with
 | some t=>b=true/\t.Is d
 | none=>b=false
def Fh (s:ByteArray):Int:=if s=bytes [38]then 2 else if s=bytes [124]then 2 else if s=bytes [33]then 2 else 1
def vv (s:ByteArray):Ty:=if s=bytes [43]then tInt else if s=bytes [45]then tInt else if s=bytes [42]then tInt else tBool
def R4 (w:Int):List Ty->Bool
 | []=>true
 | t::I=>decide (t.k=w)&&R4 w I
def Sf (s:ByteArray)(I:List Ty):Option Ty:=if R4 (Fh s) I then some (vv s)else none
theorem Mf {ts:List Ty} {es:List D} (h:All2 Ty.Is ts es) (hlen:es.length<=4611686018427387904) (a:Option Addr) (c:Nat) (s:ByteArray) :
  ∀(N:Nat) (Q:QT [.ag 2,.bool]),(∀ d b N',N<=N'->Oo (Sf s ts) d b->(∀ x∈d.foot,N<=x)->Q d b N')->ACalls prog 147 [.ag 2,.bool] [.str s,.sv a 2 es c] N Q:=fun N Q hQ=>by
 refine Ms N s a es c Q fun _=>?_;have key:yi Q N s a es c (Fh s) (0:Nat) 0 none [] 0 N:=by
  refine up h hlen (fun i xs=>∀(N':Nat),N<=N'->R4 (Fh s) xs=R4 (Fh s) ts->yi Q N s a es c (Fh s) i 0 none [] 0 N') ?_ ?_ N (oC _) rfl
  ·intro i hlt _ N' hN' hk;refine B7 ?_;have ho:Sf s ts=some (vv s):=by rw[Sf,<-hk];rfl
   rw[ho]at hQ
   repeat' first|with_reducible intro _|simp only[hlt,Y1,Y2,Y3,Y4]|with_reducible refine X ?_ ?_|refine⟨_,_,_,rfl,?_⟩|refine⟨_,rfl,?_⟩|refine X0 ?_|refine ww _ _ ?_|refine u6 _ _ ?_|fail
   all_goals
    rename_i hx ho _ _ _ _;refine hQ _ _ _ (by omega) ⟨rfl,?_⟩ fun b hb=>by have:=ho.lo b hb;omega
    have e:vv s=tInt\/vv s=tBool:=by unfold vv;(repeat' split)<;>simp
    first
     | (have e:vv s=tInt:=by unfold vv;(repeat' split)<;>first | rfl | contradiction
        rw[e];exact hx)
     | (have e:vv s=tBool:=by unfold vv;(repeat' split)<;>first | rfl | contradiction
        rw[e];exact hx)
  ·intro i x xs hat _ ih2 N' hN' hk;have hb:=hat.b;cases x with
   | mk k l=>
   obtain⟨a1,es1,c1,he,_,_⟩:=Ty.is_mk.1 hat.r;refine B7 ?_
   repeat' first|with_reducible intro _|simp only[hat.lt,hat.w,oH,he,Y1,Y2,Y3,Y4]|with_reducible refine X ?_ ?_|refine⟨_,_,_,rfl,?_⟩|refine⟨_,rfl,?_⟩|refine X0 ?_|fail
   ·rename_i hne _ _;refine hQ _ _ _ (by omega) ?_ (by simp[D.foot,zI]);have:R4 (Fh s) ts=false:=by rw[<-hk];simp[R4,Ty.k,hne]
    rw[Sf,this];rfl
   ·rename_i hne;exact ih2 _ hN' (by rw[<-hk];simp[R4,Ty.k,hne])
 have e:Fh s=2\/Fh s=1:=by unfold Fh;(repeat' split)<;>simp
 repeat' first|with_reducible intro _|simp only[Y1,Y2,Y3,Y4]|with_reducible refine X ?_ ?_|refine⟨_,_,_,rfl,?_⟩|refine⟨_,rfl,?_⟩|refine X0 ?_|fail
 all_goals
  first
   | (have e:Fh s=2:=by unfold Fh;(repeat' split)<;>first | rfl | contradiction
      rw[e]at key;exact key)
   | (have e:Fh s=1:=by unfold Fh;(repeat' split)<;>first | rfl | contradiction
      rw[e]at key;exact key)
def xS (k:Int)(s:ByteArray)(I:List Ty):Option Ty:=
 if k=4 then Sf s I
 else if k=5 then(if(I.getD 0 tZero).k=2/\DH (I.getD 1 tZero) (I.getD 2 tZero)then some (I.getD 1 tZero)else none)
 else if(I.getD 0 tZero).k=3/\DH ((I.getD 0 tZero).as.getD 0 tZero) (I.getD 1 tZero)then some ((I.getD 0 tZero).as.getD 1 tZero)else none
theorem Ty.form_len {k:Int}{l:List Ty}(h:(Ty.mk k l).valid=true):pV k l.length=true:=by simp only[Ty.valid,Ty.form,oG]at h;exact h.2.2
theorem Ty.valid_cnt {t:Ty}(h:t.valid=true):t.cnt<=30:=by simp only[Ty.valid,oG,o9]at h;exact h.1.1
theorem JA {I:List Ty} {es:List D} (h:All2 Ty.Is I es) (Y:es.length<=4611686018427387904) (a:Option Addr) (c:Nat) {k n:Int} {s:ByteArray} {c2 c4 c5 c6 c7 c8:D}
  (hv:∀ t∈I,t.valid=true) (hk:k=4\/k=5/\I.length=3\/k=7/\I.length=2) :
  ∀(N:Nat) (Q:QT [.ag 2,.bool]),(∀ d b N',N<=N'->Oo (xS k s I) d b->(∀ x∈d.foot,x∈zI es\/N<=x)->Q d b N') ->
  ACalls prog 109 [.ag 2,.bool] [.dg 9 (.ag [.j k,.t s,c2,.j n,c4,c5,c6,c7,c8]),.sv a 2 es c] N Q:=λN Q hQ=>by
 refine Ja N _ a es c Q λ_ _=>?_;rcases hk with rfl | ⟨rfl,hl⟩ | ⟨rfl,hl⟩
 ·repeat' first|with_reducible intro _|simp only[Y1,Y2,Y3,Y4]|with_reducible refine X ?_ ?_|refine⟨_,_,_,rfl,?_⟩|refine⟨_,rfl,?_⟩|refine X0 ?_|refine(Mf h Y a c s) _ _ ?_|fail
  ·rename_i N1 ac d b N2 ae ho ah _ _ N3 ai;exact hQ _ _ _ (by omega) (by simpa [xS]using ho) λx hx=>.inr (by have:=ah x hx;omega)
  all_goals(exfalso;omega)
 ·obtain⟨t0,t1,t2,rfl⟩:∃ t0 t1 t2,I=[t0,t1,t2]:=by
   match I,hl with
   | [t0,t1,t2],_=>exact⟨t0,t1,t2,rfl⟩
  obtain⟨d0,_,rfl,h0,d1,_,rfl,h1,d2,_,rfl,h2,rfl⟩:=h;cases t0 with
  | mk U J=>
  obtain⟨a0,aj,c0,rfl,ak,aa⟩:=Ty.is_mk.1 h0;have hq:∀(b:Bool) (N':Nat),N<=N'->(U=2/\DH t1 t2=b\/¬U=2/\b=false)->Q d1 b N':=λb N' O hb=>by
   refine hQ _ _ _ O ?_ λx hx=>.inl (by simp only[zI,oK];exact .inr (.inl hx));rcases hb with⟨e1,e2⟩ | ⟨e1,rfl⟩
   ·cases b<;>simp[xS,Ty.k,e1,e2,Oo,h1]
   ·simp[xS,Ty.k,e1,Oo]
  repeat' first|with_reducible intro _|simp only[oO,oU,Y1,Y2,Y3,Y4]|with_reducible refine X ?_ ?_|refine⟨_,_,_,rfl,?_⟩|refine⟨_,rfl,?_⟩|refine X0 ?_|refine(yN _ _ _ _ h1 h2) _ _ ?_|fail
  all_goals first | (exfalso;omega) | skip
  ·exact hq _ _ (by omega) (.inl ⟨by assumption,rfl⟩)
  ·exact hq _ _ (by omega) (.inr ⟨by assumption,rfl⟩)
 ·obtain⟨t0,t1,rfl⟩:∃ t0 t1,I=[t0,t1]:=by
   match I,hl with
   | [t0,t1],_=>exact⟨t0,t1,rfl⟩
  obtain⟨d0,_,rfl,h0,d1,_,rfl,h1,rfl⟩:=h;cases t0 with
  | mk U J=>
  obtain⟨a0,aj,c0,rfl,ak,aa⟩:=Ty.is_mk.1 h0;have hf:=Ty.form_len (hv _ ny);have al:=Ty.valid_cnt (hv _ ny);have hz:∀ N',N<=N'->¬(U=3/\DH (J.getD 0 tZero) t1=true)->Q (.ag [.j 0,.sl none 2 [] 0]) false N':=λN' O hb=>by
   refine hQ _ _ _ O ?_ (by simp[D.foot,zI]);have:xS 7 s [.mk U J,t1]=none:=by simp only[xS];rw[if_neg (by omega),if_neg (by omega)];exact if_neg hb
   rw[this];rfl
  by_cases hk:U=3
  ·subst hk;have ab:(J.length:Int)=2:=by simpa [pV]using hf
   have ab:J.length=2:=by omega
   obtain⟨u0,u1,rfl⟩:∃ t0 t1,J=[t0,t1]:=by
    match J,ab with
    | [t0,t1],_=>exact⟨t0,t1,rfl⟩
   obtain⟨x0,_,rfl,am,x1,_,rfl,ao,rfl⟩:=aa;simp only[Ty.cnt,zL]at al
   repeat' first|with_reducible intro _|simp only[oO,oU,Y1,Y2,Y3,Y4]|with_reducible refine X ?_ ?_|refine⟨_,_,_,rfl,?_⟩|refine⟨_,rfl,?_⟩|refine X0 ?_|refine(yN _ _ _ _ am h1) _ _ ?_|refine(zP _ _ ao (by omega)) _ _ ?_|fail
   all_goals first | (exfalso;omega) | skip
   ·rename_i he N1 ac d' N2 ae aq ho _ _ N3 ai;refine hQ _ _ _ (by omega) ?_ λx hx=>.inr (by have:=ho.lo x hx;omega);simp[xS,Ty.k,Ty.as,he,Oo,aq]
   ·rename_i he _ _;exact hz _ (by omega) (by simp[he])
  ·repeat' first|with_reducible intro _|simp only[oO,oU,Y1,Y2,Y3,Y4]|with_reducible refine X ?_ ?_|refine⟨_,_,_,rfl,?_⟩|refine⟨_,rfl,?_⟩|refine X0 ?_|fail
   all_goals first | (exfalso;omega) | skip
   exact hz _ (by omega) λhc=>hk hc.1
def vld (o:Option Ty):Option Ty:=match o with
 | some t=>if t.valid then some t else none
 | none=>none
def yL (k:Int)(t:Ty):Option Ty:=
 if k=10 then some (xZ t)else if k=13 then(if t.base then some (xZ t)else none)else if t.k=4 then some (t.as.getD 0 tZero)else none
def xj (g:List Tg)(s:ByteArray)(n:Int):Option Ty:=
 if zV g s<0 then none else if(g.getD (zV g s).toNat tg0).lv=n then some (g.getD (zV g s).toNat tg0).ty else none
mutual
def Tm.type:Tm->List Tg->Int->Option Ty
 | .mk k nm ot _ ty re l,g,n=>vld (
   if k=1 then xj g nm n
   else if k=2 then some tInt
   else if k=3 then some tBool
   else if k=6 then(match sk l 0 (g++[⟨nm,ty,n⟩]) n with | some b=>some (vV ty b) | none=>none)
   else if k=8 then(match sk l 0 g n with | some a=>sk l 1 (g++[⟨nm,a,n⟩]) n | none=>none)
   else if k=9 then(match sk l 0 ((g++[⟨nm,vV ty re,n⟩])++[⟨ot,ty,n⟩]) n with | some b=>if DH b re then some (vV ty re)else none | none=>none)
   else if k=10\/k=11\/k=12\/k=13 then(match sk l 0 (if k=12 then rH g n else g) (zf k n)with | some t=>yL k t | none=>none)
   else(match yn l g n with | some I=>xS k nm I | none=>none))
def sk:List Tm->Nat->List Tg->Int->Option Ty
 | [],_,_,_=>none
 | t::_,0,g,n=>t.type g n
 | _::I,i+1,g,n=>sk I i g n
def yn:List Tm->List Tg->Int->Option (List Ty)
 | [],_,_=>some []
 | t::I,g,n=>match t.type g n with
   | some u=>(match yn I g n with | some us=>some (u::us) | none=>none)
   | none=>none
end
theorem J4 {o:Option Ty}{t:Ty}(h:vld o=some t):o=some t/\t.valid=true:=by
 cases o with
 | none=>cases h
 | some u=>
   simp only[vld]at h;split at h
   ·cases h;exact⟨rfl,by assumption⟩
   ·cases h
theorem Tm.type_valid {e:Tm}{g:List Tg}{n:Int}{t:Ty}(h:e.type g n=some t):t.valid=true:=by
 cases e with
 | mk k nm ot m ty re l=>simp only[Tm.type]at h;exact(J4 h).2
theorem H3:∀ {l:List Tm}{g:List Tg}{n:Int}{I:List Ty},yn l g n=some I->I.length=l.length/\∀ t∈I,t.valid=true
 | [],g,n,I,h=>by simp[yn]at h;subst h;simp
 | e :: es,g,n,I,h=>by
   simp only[yn]at h;split at h
   ·rename_i u O;split at h
    ·rename_i us J;cases h
     have:=H3 J
     refine⟨by simp[this.1],λt ht=>?_⟩;rcases oF.1 ht with rfl | ht
     ·exact Tm.type_valid O
     ·exact this.2 t ht
    ·cases h
   ·cases h
structure Pre (g:List Tg) (e:Tm) (n:Int):Prop where
 ok:e.ok=true
 lev:e.lev n=true
 len:g.length+2*e.dp<=1073741824
 ty:∀ x∈g,x.ty.cnt<=64
structure Node (k:Int) (nm ot:ByteArray) (n:Int) (ty re:Ty) (l:List Tm):Prop where
 f:zK k nm ot n ty re=true
 ar:(l.length:Int)=Cw k nm
 sub:∀ x∈l,x.ok=true
theorem By:∀ {l:List Tm}{x:Tm},qv l=true->x∈l->x.ok=true
 | t::I,x,h,hx=>by
   simp only[qv,oG]at h;rcases oF.1 hx with rfl | hx
   ·exact h.1
   ·exact By h.2 hx
theorem p9:∀ {l:List Tm}{n:Int}{x:Tm},rG l n=true->x∈l->x.lev n=true
 | t::I,n,x,h,hx=>by
   simp only[rG,oG]at h;rcases oF.1 hx with rfl | hx
   ·exact h.1
   ·exact p9 h.2 hx
theorem v8 {k:Int}{nm ot:ByteArray}{n:Int}{ty re:Ty}{l:List Tm}(h:(Tm.mk k nm ot n ty re l).ok=true):Node k nm ot n ty re l:=by simp only[Tm.ok,oG]at h;exact⟨h.2.1,by simpa using h.2.2,λx I=>By h.1 I⟩
theorem Node.vt {k n:Int}{nm ot:ByteArray}{ty re:Ty}{l:List Tm}(h:Node k nm ot n ty re l)(I:k=6\/k=9):ty.valid=true:=by
 have:=h.f
 have e:sB k=true:=by rcases I with rfl | rfl<;>rfl
 simp only[zK,oG,e]at this;simpa using this.1
theorem Node.vr {k n:Int}{nm ot:ByteArray}{ty re:Ty}{l:List Tm}(h:Node k nm ot n ty re l)(I:k=9):re.valid=true:=by
 have:=h.f
 subst I;simp only[zK,oG]at this;simpa using this.2.2.1
theorem KV {k:Int}{nm:ByteArray}(h:0<=Cw k nm):k=1\/k=2\/k=3\/k=4\/k=5\/k=6\/k=7\/k=8\/k=9\/k=10\/k=11\/k=12\/k=13:=by
 unfold Cw at h
 (repeat' split at h)<;>omega
theorem Ty.cnt_pos (t:Ty):1<=t.cnt:=by cases t;simp only[Ty.cnt];omega
theorem Pre.sub {g g':List Tg}{k:Int}{nm ot:ByteArray}{m:Int}{ty re:Ty}{l:List Tm}{n:Int}{x:Tm}(h:Pre g (.mk k nm ot m ty re l) n)(I:x∈l)(U:g'.length<=g.length+2)(J:∀ y∈g',y.ty.cnt<=64):Pre g' x (zf k n):=by
 have O:=h.len;have Y:=tG I;simp only[Tm.dp]at O;refine⟨(v8 h.ok).sub x I,?_,by omega,J⟩
 have:=h.lev
 simp only[Tm.lev,oG]at this;exact p9 this.2 I
theorem sw (k:Int)(nm:ByteArray):Cw k nm<=3:=by
 unfold Cw
 (repeat' split)<;>first | omega | (unfold rU;(repeat' split)<;>omega)
theorem Pre.len1 {g:List Tg}{e:Tm}{n:Int}(h:Pre g e n):g.length+2<=1073741824:=by have I:=h.len;have J:=Tm.dp_pos e;omega
theorem Pre.lv {g:List Tg}{e:Tm}{n:Int}(h:Pre g e n):0<=n/\n<=2:=by
 have:=h.lev
 cases e;simp only[Tm.lev,oG]at this;exact zw.1 this.1
theorem Iu {g:List Tg}(h:∀ y∈g,y.ty.cnt<=64){x:Tg}(I:x.ty.cnt<=64):∀ y∈g++[x],y.ty.cnt<=64:=λy hy=>by
 rcases oK.1 hy with hy | hy
 ·exact h y hy
 ·rw[oV]at hy;subst hy;exact I
theorem Oc (e:Tm)(g:List Tg)(n:Int):((e.type g n).getD tZero).cnt<=30:=by
 cases h:e.type g n with
 | none=>simp[tZero,Ty.cnt,zL]
 | some t=>simpa using Ty.valid_cnt (Tm.type_valid h)
def Xs (f:FuncId)(args:List PV)(o:Option Ty):Prop:=∀(N:Nat) (Q:QT [.ag 2,.bool]),(∀ d N',N<=N'->(o.getD tZero).Is d->Q d o.isSome N')->ACalls prog f [.ag 2,.bool] args N Q
def X6 (f:FuncId)(args:List PV)(o:Option Ty):Prop:=∀(N:Nat) (Q:QT [.ag 2,.bool]),(∀ d N',N<=N'->(∀ t,o=some t->t.Is d)->Q d o.isSome N')->ACalls prog f [.ag 2,.bool] args N Q
def IH (l:List Tm):Prop:=∀ x∈l,∀ d,x.Is d->∀ g es a c n,Pre g x n->Ctx g es->Xs 34 [.sv a 4 es c,.dg 9 d,.j n] (x.type g n)
theorem VT {nm ot:ByteArray} {m n:Int} {ty re:Ty} {e0:Tm} {t0 t1 r0 r1 d0:D} {a1 a:Option Addr} {c1 c:Nat} {g:List Tg} {es:List D} (ih:IH [e0]) (O:Tm.Hd nm ot ty re t0 t1 r0 r1) (h0:e0.Is d0)
  (pre:Pre g (.mk 6 nm ot m ty re [e0]) n) (U:Ctx g es) :
  X6 107 [.sv a 4 es c,.dg 9 (.ag [.j 6,.t nm,.t ot,.j m,t0,t1,r0,r1,.sl a1 9 [d0] c1]),.j n] (match e0.type (g++[⟨nm,ty,n⟩]) n with | some b=>some (vV ty b) | none=>none):=λN Q J=>by
 have Y:=pre.len1;have hv:=Ty.valid_cnt ((v8 pre.ok).vt (.inl rfl));have hp:Pre (g++[⟨nm,ty,n⟩]) e0 n:=by simpa [zf]using pre.sub (x:=e0) (by simp) (g':=g++[⟨nm,ty,n⟩]) (by simp) (Iu pre.ty (show ty.cnt<=64 by omega))
 have hc:=Oc e0 (g++[⟨nm,ty,n⟩]) n;refine rj N a es c _ n Q λ_ _=>?_
 repeat' first|with_reducible intro _|simp only[oO,oU,Y1,Y2,Y3,Y4]|with_reducible refine X ?_ ?_|refine⟨_,_,_,rfl,?_⟩|refine⟨_,rfl,?_⟩|refine X0 ?_|refine(yT U (by omega) a c O.nm O.ty n) _ _ ?_|refine(ih e0 ny d0 h0 (g++[⟨nm,ty,n⟩]) _ _ _ n hp (by assumption)) _ _ ?_|refine(uW ty ((e0.type (g++[⟨nm,ty,n⟩]) n).getD tZero) _ _ O.ty (by assumption) (by omega) (by omega)) _ _ ?_|fail
 all_goals first | (exfalso;omega) | skip
 rename_i x1 N6 aa I ho _ _ N7 ab;cases h:e0.type (g++[⟨nm,ty,n⟩]) n with
 | none=>rw[h]at J;exact J _ _ (by omega) (by simp)
 | some b=>rw[h]at J I;exact J _ _ (by omega) (by simpa using I)
theorem VM {nm ot:ByteArray} {m n:Int} {ty re:Ty} {e0 e1:Tm} {t0 t1 r0 r1 d0 d1:D} {a1 a:Option Addr} {c1 c:Nat} {g:List Tg} {es:List D} (Y:IH [e0,e1]) (hh:Tm.Hd nm ot ty re t0 t1 r0 r1) (h0:e0.Is d0) (h1:e1.Is d1)
  (pre:Pre g (.mk 8 nm ot m ty re [e0,e1]) n) (J:Ctx g es) :
  X6 107 [.sv a 4 es c,.dg 9 (.ag [.j 8,.t nm,.t ot,.j m,t0,t1,r0,r1,.sl a1 9 [d0,d1] c1]),.j n] (match e0.type g n with | some b=>e1.type (g++[⟨nm,b,n⟩]) n | none=>none):=λN Q O=>by
 have aa:=pre.len1;have hp:Pre g e0 n:=by simpa [zf]using pre.sub (x:=e0) (by simp) (g':=g) (by simp) pre.ty
 have hc:=Oc e0 g n;have I:=Y e0 ny d0 h0 g es a c n hp J;refine rj N a es c _ n Q λ_ _=>?_;cases h:e0.type g n with
 | none=>
   rw[h]at O I
   repeat' first|with_reducible intro _|simp only[oO,oU,mZ,Y1,Y2,Y3,Y4]|with_reducible refine X ?_ ?_|refine⟨_,_,_,rfl,?_⟩|refine⟨_,rfl,?_⟩|refine X0 ?_|refine I _ _ ?_|fail
   all_goals first | (exfalso;omega) | skip
   exact O _ _ (by omega) (by simp)
 | some b=>
   rw[h]at O hc I;dsimp only at O;have U:Pre (g++[⟨nm,b,n⟩]) e1 n:=by simpa [zf]using pre.sub (x:=e1) (by simp) (g':=g++[⟨nm,b,n⟩]) (by simp) (Iu pre.ty (by simpa using oL hc (by omega)))
   repeat' first|with_reducible intro _|simp only[oO,oU,md,Y1,Y2,Y3,Y4]|with_reducible refine X ?_ ?_|refine⟨_,_,_,rfl,?_⟩|refine⟨_,rfl,?_⟩|refine X0 ?_|refine I _ _ ?_|refine(yT J (by omega) a c hh.nm (t:=b) (by assumption) n) _ _ ?_|refine(Y e1 (by simp) d1 h1 (g++[⟨nm,b,n⟩]) _ _ _ n U (by assumption)) _ _ ?_|fail
   all_goals first | (exfalso;omega) | skip
   rename_i hx _ _ _ _;refine O _ _ (by omega) λt ht=>?_;rw[ht]at hx;exact hx
theorem V8 {nm ot:ByteArray} {m n:Int} {ty re:Ty} {e0:Tm} {t0 t1 r0 r1 d0:D} {a1 a:Option Addr} {c1 c:Nat} {g:List Tg} {es:List D} (ih:IH [e0]) (I:Tm.Hd nm ot ty re t0 t1 r0 r1) (h0:e0.Is d0)
  (pre:Pre g (.mk 9 nm ot m ty re [e0]) n) (U:Ctx g es) :
  X6 107 [.sv a 4 es c,.dg 9 (.ag [.j 9,.t nm,.t ot,.j m,t0,t1,r0,r1,.sl a1 9 [d0] c1]),.j n]
   (match e0.type ((g++[⟨nm,vV ty re,n⟩])++[⟨ot,ty,n⟩]) n with | some b=>if DH b re then some (vV ty re)else none | none=>none):=λN Q J=>by
 have ab:=pre.len1;have hv:=Ty.valid_cnt ((v8 pre.ok).vt (.inr rfl));have hr:=Ty.valid_cnt ((v8 pre.ok).vr rfl);have aa:=Iu (x:=⟨nm,vV ty re,n⟩) pre.ty (show(vV ty re).cnt<=64 by simp only[vV,Ty.cnt,zL];omega);have hp:=pre.sub (x:=e0) (by simp) (g':=(g++[⟨nm,vV ty re,n⟩])++[⟨ot,ty,n⟩]) (by simp) (Iu aa (show ty.cnt<=64 by omega));rw[show zf 9 n=n by simp[zf]]at hp;have ac:1<=(Tm.mk 9 nm ot m ty re [e0]).cnt:=by simp only[Tm.cnt];omega
 have Y:(g++[⟨nm,vV ty re,n⟩]:List Tg).length<=1073741824:=by rw[oJ,nZ];omega
 have O:∀ es a c,Ctx ((g++[⟨nm,vV ty re,n⟩])++[⟨ot,ty,n⟩]) es->Xs 34 [.sv a 4 es c,.dg 9 d0,.j n] (e0.type ((g++[⟨nm,vV ty re,n⟩])++[⟨ot,ty,n⟩]) n):=λes a c hc=>ih e0 ny d0 h0 _ es a c n hp hc;refine rj N a es c _ n Q λ_ _=>?_;cases h:e0.type ((g++[⟨nm,vV ty re,n⟩])++[⟨ot,ty,n⟩]) n with
 | none=>
   rw[h]at J O;dsimp only at J
   repeat' first|with_reducible intro _|simp only[oO,oU,mZ,Y1,Y2,Y3,Y4]|with_reducible refine X ?_ ?_|refine⟨_,_,_,rfl,?_⟩|refine⟨_,rfl,?_⟩|refine X0 ?_|refine(uW ty re _ _ I.ty I.re (by omega) (by omega)) _ _ ?_|refine(yT U (by omega) a c I.nm (t:=vV ty re) (by assumption) n) _ _ ?_|refine(yT (g:=g++[⟨nm,vV ty re,n⟩]) (by assumption) Y _ _ I.ot I.ty n) _ _ ?_|refine(O _ _ _ (by assumption)) _ _ ?_|fail
   all_goals first | (exfalso;omega) | skip
   exact J _ _ (by omega) (by simp)
 | some b=>
   rw[h]at J O;dsimp only at J
   repeat' first|with_reducible intro _|simp only[oO,oU,md,Y1,Y2,Y3,Y4]|with_reducible refine X ?_ ?_|refine⟨_,_,_,rfl,?_⟩|refine⟨_,rfl,?_⟩|refine X0 ?_|refine(uW ty re _ _ I.ty I.re (by omega) (by omega)) _ _ ?_|refine(yT U (by omega) a c I.nm (t:=vV ty re) (by assumption) n) _ _ ?_|refine(yT (g:=g++[⟨nm,vV ty re,n⟩]) (by assumption) Y _ _ I.ot I.ty n) _ _ ?_|refine(O _ _ _ (by assumption)) _ _ ?_|refine(yN b re _ _ (by assumption) I.re) _ _ ?_|fail
   all_goals first | (exfalso;omega) | skip
   cases he:DH b re with
   | false=>rw[he]at J;exact J _ _ (by omega) (by simp)
   | true=>rw[he]at J;exact J _ _ (by omega) λt ht=>by cases ht;assumption
theorem VY {k:Int} {nm ot:ByteArray} {m n:Int} {ty re:Ty} {e0:Tm} {t0 t1 r0 r1 d0:D} {a1 a:Option Addr} {c1 c:Nat} {g:List Tg} {es:List D} (hk:k=10\/k=11\/k=12\/k=13) (ih:IH [e0]) (h0:e0.Is d0)
  (pre:Pre g (.mk k nm ot m ty re [e0]) n) (ah:Ctx g es) :
  X6 108 [.sv a 4 es c,.dg 9 (.ag [.j k,.t nm,.t ot,.j m,t0,t1,r0,r1,.sl a1 9 [d0] c1]),.j n]
   (match e0.type (if k=12 then rH g n else g) (zf k n)with | some t=>yL k t | none=>none):=λN Q I=>by
 have ao:=pre.len1;have ai:=C8 g n g 0;have hp:=pre.sub (x:=e0) (by simp) (g':=if k=12 then rH g n else g) (by split<;>simp[rH];omega) (by split;exact λy hy=>pre.ty y (ai.1 y hy);exact pre.ty);have aa:∀ es a c,Ctx (if k=12 then rH g n else g) es->Xs 34 [.sv a 4 es c,.dg 9 d0,.j (zf k n)] (e0.type (if k=12 then rH g n else g) (zf k n)):=λes a c hc=>ih e0 ny d0 h0 _ es a c _ hp hc;have aj:∀ x∈g,x.ty.cnt<=1073741824:=λx hx=>oL (pre.ty x hx) (by omega);refine Hj N a es c _ n Q λ_ _=>?_;cases h:e0.type (if k=12 then rH g n else g) (zf k n)with
 | none=>
   rw[h]at I aa;dsimp only at I
   repeat' first|with_reducible intro _|simp only[oO,oU,mZ,Y1,Y2,Y3,Y4]|with_reducible refine X ?_ ?_|refine⟨_,_,_,rfl,?_⟩|refine⟨_,rfl,?_⟩|refine X0 ?_|refine(sm ah (by omega) aj a c n) _ _ ?_|refine(rq pre.lv) _ _ ?_|refine(aa _ _ _ (by first | (rw[if_pos (by assumption)];assumption) | (rw[if_neg (by assumption)];assumption))) _ _ ?_|fail
   all_goals first | (exfalso;omega) | skip
   all_goals exact I _ _ (by omega) (by simp)
 | some t=>
   have hv:=Tm.type_valid h;rw[h]at I aa;dsimp only at I;cases t with
   | mk O J=>
   have hf:=Ty.form_len hv;have ak:=Ty.valid_cnt hv
   repeat' first|with_reducible intro _|simp only[oO,oU,md,Y1,Y2,Y3,Y4]|with_reducible refine X ?_ ?_|refine⟨_,_,_,rfl,?_⟩|refine⟨_,rfl,?_⟩|refine X0 ?_|refine(sm ah (by omega) aj a c n) _ _ ?_|refine(rq pre.lv) _ _ ?_|refine(aa _ _ _ (by first | (rw[if_pos (by assumption)];assumption) | (rw[if_neg (by assumption)];assumption))) _ _ ?_|refine(ve (.mk O J) _ (by assumption) (by omega)) _ _ ?_|refine(qB (.mk O J) _ (by assumption)) _ _ ?_|fail
   all_goals first | (exfalso;omega) | skip
   ·rename_i hd _ _ U Y;obtain⟨a2,al,c2,rfl,am,ab⟩:=Ty.is_mk.1 hd;by_cases h4:O=4
    ·subst h4;have ac:(J.length:Int)=1:=by simpa [pV]using hf
     obtain⟨u,rfl⟩:∃ u,J=[u]:=by
      match J,ac with
      | [u],_=>exact⟨u,rfl⟩
      | [],h=>simp at h
      | _::_::_,h=>simp at h;omega
     obtain⟨x0,_,rfl,ae,rfl⟩:=ab;simp only[Ty.cnt,zL]at ak;have hs:yL k (.mk 4 [u])=some u:=by simp[yL,U,Y,Ty.k,Ty.as]
     rw[hs]at I
     repeat' first|with_reducible intro _|simp only[oO,oU,Y1,Y2,Y3,Y4]|with_reducible refine X ?_ ?_|refine⟨_,_,_,rfl,?_⟩|refine⟨_,rfl,?_⟩|refine X0 ?_|refine(zP u _ ae (by omega)) _ _ ?_|fail
     all_goals first | (exfalso;omega) | skip
     exact I _ _ (by omega) λt ht=>by cases ht;assumption
    ·have hs:yL k (.mk O J)=none:=by simp[yL,U,Y,Ty.k,h4]
     rw[hs]at I
     repeat' first|with_reducible intro _|simp only[oO,oU,Y1,Y2,Y3,Y4]|with_reducible refine X ?_ ?_|refine⟨_,_,_,rfl,?_⟩|refine⟨_,rfl,?_⟩|refine X0 ?_|fail
     all_goals first | (exfalso;omega) | skip
     exact I _ _ (by omega) (by simp)
   ·have hs:yL k (.mk O J)=some (xZ (.mk O J)):=by rw[yL,if_pos (by assumption)]
    rw[hs]at I;exact I _ _ (by omega) λt ht=>by cases ht;assumption
   ·have hs:yL k (.mk O J)=if(Ty.mk O J).base then some (xZ (.mk O J))else none:=by rw[yL,if_neg (by assumption),if_pos (by assumption)]
    rw[hs]at I;cases hb:(Ty.mk O J).base with
    | false=>rw[hb]at I;exact I _ _ (by omega) (by simp)
    | true=>rw[hb]at I;exact I _ _ (by omega) λt ht=>by cases ht;assumption
   ·rename_i hd _ _ U Y;obtain⟨a2,al,c2,rfl,am,ab⟩:=Ty.is_mk.1 hd;by_cases h4:O=4
    ·subst h4;have ac:(J.length:Int)=1:=by simpa [pV]using hf
     obtain⟨u,rfl⟩:∃ u,J=[u]:=by
      match J,ac with
      | [u],_=>exact⟨u,rfl⟩
      | [],h=>simp at h
      | _::_::_,h=>simp at h;omega
     obtain⟨x0,_,rfl,ae,rfl⟩:=ab;simp only[Ty.cnt,zL]at ak;have hs:yL k (.mk 4 [u])=some u:=by simp[yL,U,Y,Ty.k,Ty.as]
     rw[hs]at I
     repeat' first|with_reducible intro _|simp only[oO,oU,Y1,Y2,Y3,Y4]|with_reducible refine X ?_ ?_|refine⟨_,_,_,rfl,?_⟩|refine⟨_,rfl,?_⟩|refine X0 ?_|refine(zP u _ ae (by omega)) _ _ ?_|fail
     all_goals first | (exfalso;omega) | skip
     exact I _ _ (by omega) λt ht=>by cases ht;assumption
    ·have hs:yL k (.mk O J)=none:=by simp[yL,U,Y,Ty.k,h4]
     rw[hs]at I
     repeat' first|with_reducible intro _|simp only[oO,oU,Y1,Y2,Y3,Y4]|with_reducible refine X ?_ ?_|refine⟨_,_,_,rfl,?_⟩|refine⟨_,rfl,?_⟩|refine X0 ?_|fail
     all_goals first | (exfalso;omega) | skip
     exact I _ _ (by omega) (by simp)
def Tm.raw:Tm->List Tg->Int->Option Ty
 | .mk k nm ot _ ty re l,g,n=>
   if k=1 then xj g nm n
   else if k=2 then some tInt
   else if k=3 then some tBool
   else if k=6 then(match sk l 0 (g++[⟨nm,ty,n⟩]) n with | some b=>some (vV ty b) | none=>none)
   else if k=8 then(match sk l 0 g n with | some a=>sk l 1 (g++[⟨nm,a,n⟩]) n | none=>none)
   else if k=9 then(match sk l 0 ((g++[⟨nm,vV ty re,n⟩])++[⟨ot,ty,n⟩]) n with | some b=>if DH b re then some (vV ty re)else none | none=>none)
   else if k=10\/k=11\/k=12\/k=13 then(match sk l 0 (if k=12 then rH g n else g) (zf k n)with | some t=>yL k t | none=>none)
   else(match yn l g n with | some I=>xS k nm I | none=>none)
theorem Tm.type_eq (e:Tm)(g:List Tg)(n:Int):e.type g n=vld (e.raw g n):=by cases e;simp only[Tm.type,Tm.raw]<;>rfl
theorem Wx {a:Option Addr}{r:List D}{d:D}{N:Nat}(ha:ApA a r)(hb:w8 N [a])(h:∀ x∈d.foot,x∈zI r\/N<=x):Off [a] d:=by
 intro a' I ad J O;rw[oV]at I;subst I;rcases h _ O with h | h
 ·have:∀ r:List D,ad.block∈zI r->∃ d∈r,ad.block∈d.foot:=by
   intro r
   induction r with
   | nil=>intro h;simp[zI]at h
   | cons x r ih=>
     intro h;simp only[zI,oK]at h;rcases h with h | h
     ·exact⟨x,by simp,h⟩
     ·obtain⟨d,hd,O⟩:=ih h;exact⟨d,by simp[hd],O⟩
  obtain⟨d',U,Y⟩:=this r h;exact ha ad J d' U Y
 ·have:=hb a' (by simp) ad J
  omega
theorem SO {k : Int} {nm ot : ByteArray} {m n:Int} {ty re:Ty} {l:List Tm} {t0 t1 r0 r1:D} {es1:List D} {a1 a:Option Addr} {c1 c:Nat} {g:List Tg} {es:List D} (hk:k=4\/k=5\/k=7) (ih:IH l) (h0:All2 Tm.Is l es1) (hl1:es1.length<=4611686018427387904)
  (pre:Pre g (.mk k nm ot m ty re l) n) (ctx:Ctx g es) (N:Nat) (Q:QT [.ag 2,.bool]) (hQ:∀ d N',N<=N'->(∀ t,Tm.raw (.mk k nm ot m ty re l) g n=some t->t.Is d)->Q d (Tm.raw (.mk k nm ot m ty re l) g n).isSome N') :
  xR Q N a es c n 0 0 (0:Nat) (.ag [.j k,.t nm,.t ot,.j m,t0,t1,r0,r1,.sl a1 9 es1 c1]) 0 none [] 0 [] 0 N:=by
 have hlen:=pre.len1;have hln:=h0.len;have nd:=v8 pre.ok;have har:=nd.ar;have har2:=sw k nm;have hraw:Tm.raw (.mk k nm ot m ty re l) g n=(match yn l g n with | some ts=>xS k nm ts | none=>none):=by simp only[Tm.raw];rw[if_neg (by omega),if_neg (by omega),if_neg (by omega),if_neg (by omega),if_neg (by omega),if_neg (by omega),if_neg (by omega)]
 rw[hraw]at hQ;refine up h0 hl1 (fun i xs=>∀(r:List D) (q p:Nat) (N':Nat) (ts:List Ty),N<=N'->p=r.length->All2 Ty.Is ts r->ts.length=i->(∀ t∈ts,t.valid=true) ->
  yn l g n=(match yn xs g n with | some us=>some (ts++us) | none=>none) ->
  xR Q N a es c n p q i (.ag [.j k,.t nm,.t ot,.j m,t0,t1,r0,r1,.sl a1 9 es1 c1]) 0 none [] 0 r q N') ?_ ?_ [] 0 0 N [] (oC _) rfl rfl rfl (by simp) ?_
 ·intro i hlt hi r q p N' ts hN' hp hr hti hv hargs;have hrl:=hr.len;simp only[yn,nH]at hargs;rw[hargs]at hQ;dsimp only at hQ;have hk2:k=4\/k=5/\ts.length=3\/k=7/\ts.length=2:=by
   have:=nd.ar
   rcases hk with rfl | rfl | rfl
   ·exact .inl rfl
   ·exact .inr (.inl ⟨rfl, by have:(l.length:Int)=3:=this
                              omega⟩)
   ·exact .inr (.inr ⟨rfl, by have:(l.length:Int)=2:=this
                              omega⟩)
  refine qG ?_
  repeat' first|with_reducible intro _|simp only[hlt,Y1,Y2,Y3,Y4]|with_reducible refine X ?_ ?_|refine⟨_,_,_,rfl,?_⟩|refine⟨_,rfl,?_⟩|refine X0 ?_|refine(JA hr (by omega) _ _ hv hk2) _ _ ?_|fail
  rename_i a2 hap hoff N4 hN4 hba d b N5 hN5 ho hfo _;refine⟨Wx hap hba hfo,fun _ N6 hN6=>?_⟩;cases h:xS k nm ts with
  | none=>rw[h]at ho hQ;simp only[Oo]at ho;subst ho;exact hQ _ _ (by omega) (by simp)
  | some t=>rw[h]at ho hQ;obtain⟨rfl,ho⟩:=ho;exact hQ _ _ (by omega) fun t ht=>by cases ht;exact ho
 ·intro i x xs hat _ ih2 r q p N' ts hN' hp hr hti hv hargs;have hb:=hat.b;have hrl:=hr.len;have hpx:=pre.sub hat.m (g':=g) (by omega) pre.ty;rw[show zf k n=n by simp only[zf];rw[if_neg (by omega),if_neg (by omega)]]at hpx;have ih0:=ih x hat.m _ hat.r g es a c n hpx ctx;simp only[yn]at hargs;refine qG ?_;cases h:x.type g n with
  | none=>
    rw[h]at ih0 hargs;dsimp only at hargs;rw[hargs]at hQ
    repeat' first|with_reducible intro _|simp only[hat.lt,hat.w,oH,mZ,Y1,Y2,Y3,Y4]|with_reducible refine X ?_ ?_|refine⟨_,_,_,rfl,?_⟩|refine⟨_,rfl,?_⟩|refine X0 ?_|refine ih0 _ _ ?_|fail
    all_goals first | (exfalso;omega) | skip
    exact hQ _ _ (by omega) (by simp)
  | some t=>
    have hvt:=Tm.type_valid h;rw[h]at ih0 hargs;dsimp only at hargs
    repeat' first|with_reducible intro _|simp only[hat.lt,hat.w,oH,md,Y1,Y2,Y3,Y4]|with_reducible refine X ?_ ?_|refine⟨_,_,_,rfl,?_⟩|refine⟨_,rfl,?_⟩|refine X0 ?_|refine ih0 _ _ ?_|fail
    all_goals first | (exfalso;omega) | skip
    rename_i N2 hN2 d N3 hN3 hd _ _;refine⟨by unfold zC;simp only[oJ,nZ];omega,fun c2=>ih2 _ _ _ _ (ts++[t]) (by omega) rfl (hr.snoc hd) (by simp[hti]) (fun u hu=>?_) ?_⟩
    ·rcases oK.1 hu with hu | hu
     ·exact hv u hu
     ·rw[oV]at hu;subst hu;exact hvt
    ·rw[hargs];cases yn xs g n<;>simp
 ·cases yn l g n<;>simp
theorem Rv {α:Type}{l:List α}(h:l.length=1):∃ a,l=[a]:=by
 match l,h with
 | [a],_=>exact⟨a,rfl⟩
theorem Xo {α:Type}{l:List α}(h:l.length=2):∃ a b,l=[a,b]:=by
 match l,h with
 | [a,b],_=>exact⟨a,b,rfl⟩
theorem JF {e:Tm} {d:D} (he:e.Is d) (ih:match e with | .mk _ _ _ _ _ _ l=>IH l) {g:List Tg} {es:List D} {a:Option Addr} {c:Nat} {n:Int} (pre:Pre g e n) (ctx:Ctx g es) :
  X6 61 [.sv a 4 es c,.dg 9 d,.j n] (e.raw g n):=fun N Q hQ=>by
 cases e with
 | mk k nm ot m ty re l=>
 dsimp only at ih;obtain⟨t0,t1,r0,r1,a1,es1,c1,rfl,hh,hlen1,hes1⟩:=Tm.is_mk.1 he;have hl:=hes1.len;have hl2:=ctx.all.len;have nd:=v8 pre.ok;have har:=nd.ar;have hkk:=KV (k:=k) (nm:=nm) (by omega);refine Je N a es c _ n Q fun _ _=>?_;rcases hkk with rfl | rfl | rfl | h | h | rfl | h | rfl | rfl | h | h | h | h
 ·-- a variable
  have hraw:Tm.raw (.mk 1 nm ot m ty re l) g n=xj g nm n:=by simp[Tm.raw]
  rw[hraw]at hQ;rcases Cf g nm g.length with hlx | hlx
  ·have hlx:zV g nm = -1:=hlx;have:xj g nm n=none:=by simp[xj,hlx]
   rw[this]at hQ
   repeat' first|with_reducible intro _|simp only[hlx,Y1,Y2,Y3,Y4]|with_reducible refine X ?_ ?_|refine⟨_,_,_,rfl,?_⟩|refine⟨_,rfl,?_⟩|refine X0 ?_|refine(u9 ctx a c nm) _ _ ?_|fail
   all_goals first | (exfalso;omega) | skip
   exact hQ _ _ (by omega) (by simp)
  ·have hlx:0<=zV g nm/\zV g nm<g.length:=hlx;have hg:g[(zV g nm).toNat]?=some g[(zV g nm).toNat]:=oI (by omega);have hx:=ctx.all.get hg;have hgd:g.getD (zV g nm).toNat tg0=g[(zV g nm).toNat]:=Ru hg;obtain⟨u0,u1,hd,hs,ht⟩:=hx;have hm:g[(zV g nm).toNat]∈g:=mS _;have hcn:=pre.ty _ hm;have:xj g nm n=if g[(zV g nm).toNat].lv=n then some g[(zV g nm).toNat].ty else none:=by rw[xj,if_neg (by omega),hgd]
   rw[this]at hQ;generalize g[(zV g nm).toNat]=x at *
   repeat' first|with_reducible intro _|simp only[hd,Y1,Y2,Y3,Y4]|with_reducible refine X ?_ ?_|refine⟨_,_,_,rfl,?_⟩|refine⟨_,rfl,?_⟩|refine X0 ?_|refine(u9 ctx a c nm) _ _ ?_|refine(zP _ _ ht (by omega)) _ _ ?_|fail
   all_goals first | (exfalso;omega) | skip
   ·rw[if_neg (by assumption)]at hQ;exact hQ _ _ (by omega) (by simp)
   ·rw[if_pos (by assumption)]at hQ;exact hQ _ _ (by omega) fun t ht=>by cases ht;assumption
 ·have hraw:Tm.raw (.mk 2 nm ot m ty re l) g n=some tInt:=by simp[Tm.raw]
  rw[hraw]at hQ
  repeat' first|with_reducible intro _|simp only[Y1,Y2,Y3,Y4]|with_reducible refine X ?_ ?_|refine⟨_,_,_,rfl,?_⟩|refine⟨_,rfl,?_⟩|refine X0 ?_|refine ww _ _ ?_|fail
  all_goals first | (exfalso;omega) | skip
  exact hQ _ _ (by omega) fun t ht=>by cases ht;assumption
 ·have hraw:Tm.raw (.mk 3 nm ot m ty re l) g n=some tBool:=by simp[Tm.raw]
  rw[hraw]at hQ
  repeat' first|with_reducible intro _|simp only[Y1,Y2,Y3,Y4]|with_reducible refine X ?_ ?_|refine⟨_,_,_,rfl,?_⟩|refine⟨_,rfl,?_⟩|refine X0 ?_|refine u6 _ _ ?_|fail
  all_goals first | (exfalso;omega) | skip
  exact hQ _ _ (by omega) fun t ht=>by cases ht;assumption
 ·have hk:k=4\/k=5\/k=7:=by omega
  have:=SO hk ih hes1 hlen1 pre ctx (a:=a) (c:=c) (t0:=t0) (t1:=t1) (r0:=r0) (r1:=r1) (a1:=a1) (c1:=c1) N Q hQ
  repeat' first|with_reducible intro _|simp only[Y1,Y2,Y3,Y4]|with_reducible refine X ?_ ?_|refine⟨_,_,_,rfl,?_⟩|refine⟨_,rfl,?_⟩|refine X0 ?_|fail
  all_goals first | (exfalso;omega) | exact this
 ·have hk:k=4\/k=5\/k=7:=by omega
  have:=SO hk ih hes1 hlen1 pre ctx (a:=a) (c:=c) (t0:=t0) (t1:=t1) (r0:=r0) (r1:=r1) (a1:=a1) (c1:=c1) N Q hQ
  repeat' first|with_reducible intro _|simp only[Y1,Y2,Y3,Y4]|with_reducible refine X ?_ ?_|refine⟨_,_,_,rfl,?_⟩|refine⟨_,rfl,?_⟩|refine X0 ?_|fail
  all_goals first | (exfalso;omega) | exact this
 ·have h1 : l.length = 1 := by have:(l.length:Int)=1:=har
                               omega
  obtain⟨e0,rfl⟩:=Rv h1;obtain⟨d0,_,rfl,h0,rfl⟩:=hes1;have hraw:Tm.raw (.mk 6 nm ot m ty re [e0]) g n=(match e0.type (g++[⟨nm,ty,n⟩]) n with | some b=>some (vV ty b) | none=>none):=by simp[Tm.raw,sk]
  rw[hraw]at hQ
  repeat' first|with_reducible intro _|simp only[Y1,Y2,Y3,Y4]|with_reducible refine X ?_ ?_|refine⟨_,_,_,rfl,?_⟩|refine⟨_,rfl,?_⟩|refine X0 ?_|refine(VT ih hh h0 pre ctx) _ _ ?_|fail
  all_goals first | (exfalso;omega) | skip
  exact hQ _ _ (by omega) (by assumption)
 ·have hk:k=4\/k=5\/k=7:=by omega
  have:=SO hk ih hes1 hlen1 pre ctx (a:=a) (c:=c) (t0:=t0) (t1:=t1) (r0:=r0) (r1:=r1) (a1:=a1) (c1:=c1) N Q hQ
  repeat' first|with_reducible intro _|simp only[Y1,Y2,Y3,Y4]|with_reducible refine X ?_ ?_|refine⟨_,_,_,rfl,?_⟩|refine⟨_,rfl,?_⟩|refine X0 ?_|fail
  all_goals first | (exfalso;omega) | exact this
 ·have h1 : l.length = 2 := by have:(l.length:Int)=2:=har
                               omega
  obtain⟨e0,e1,rfl⟩:=Xo h1;obtain⟨d0,_,rfl,h0,d1,_,rfl,h1,rfl⟩:=hes1;have hraw:Tm.raw (.mk 8 nm ot m ty re [e0,e1]) g n=(match e0.type g n with | some b=>e1.type (g++[⟨nm,b,n⟩]) n | none=>none):=by simp[Tm.raw,sk]
  rw[hraw]at hQ
  repeat' first|with_reducible intro _|simp only[Y1,Y2,Y3,Y4]|with_reducible refine X ?_ ?_|refine⟨_,_,_,rfl,?_⟩|refine⟨_,rfl,?_⟩|refine X0 ?_|refine(VM ih hh h0 h1 pre ctx) _ _ ?_|fail
  all_goals first | (exfalso;omega) | skip
  exact hQ _ _ (by omega) (by assumption)
 ·have h1 : l.length = 1 := by have:(l.length:Int)=1:=har
                               omega
  obtain⟨e0,rfl⟩:=Rv h1;obtain⟨d0,_,rfl,h0,rfl⟩:=hes1;have hraw:Tm.raw (.mk 9 nm ot m ty re [e0]) g n=(match e0.type ((g++[⟨nm,vV ty re,n⟩])++[⟨ot,ty,n⟩]) n with | some b=>if DH b re then some (vV ty re)else none | none=>none):=by simp only[Tm.raw,sk];rfl
  rw[hraw]at hQ
  repeat' first|with_reducible intro _|simp only[Y1,Y2,Y3,Y4]|with_reducible refine X ?_ ?_|refine⟨_,_,_,rfl,?_⟩|refine⟨_,rfl,?_⟩|refine X0 ?_|refine(V8 ih hh h0 pre ctx) _ _ ?_|fail
  all_goals first | (exfalso;omega) | skip
  exact hQ _ _ (by omega) (by assumption)
 all_goals
  have h1:l.length=1:=by
   have hk:k=10\/k=11\/k=12\/k=13:=by omega
   have:(l.length:Int)=1:=by rw[har];rcases hk with rfl | rfl | rfl | rfl<;>rfl
   omega
  obtain⟨e0,rfl⟩:=Rv h1;obtain⟨d0,_,rfl,h0,rfl⟩:=hes1;have hk:k=10\/k=11\/k=12\/k=13:=by omega
  have hraw:Tm.raw (.mk k nm ot m ty re [e0]) g n=(match e0.type (if k=12 then rH g n else g) (zf k n)with | some t=>yL k t | none=>none):=by simp only[Tm.raw,sk];rw[if_neg (by omega),if_neg (by omega),if_neg (by omega),if_neg (by omega),if_neg (by omega),if_neg (by omega),if_pos hk]
  rw[hraw]at hQ
  repeat' first|with_reducible intro _|simp only[Y1,Y2,Y3,Y4]|with_reducible refine X ?_ ?_|refine⟨_,_,_,rfl,?_⟩|refine⟨_,rfl,?_⟩|refine X0 ?_|refine(VY hk ih h0 pre ctx) _ _ ?_|fail
  all_goals first | (exfalso;omega) | skip
  exact hQ _ _ (by omega) (by assumption)
theorem ri:∀ {l:List Tm}{i:Nat}{g:List Tg}{n:Int}{t:Ty},sk l i g n=some t->t.valid=true
 | [],i,g,n,t,h=>by simp[sk]at h
 | e::es,0,g,n,t,h=>by simp only[sk]at h;exact Tm.type_valid h
 | e::es,i+1,g,n,t,h=>by simp only[sk]at h;exact ri h
theorem KH {l:List Ty}{m:Nat}(h:∀ t∈l,t.cnt<=m)(I:1<=m)(i:Nat):(l.getD i tZero).cnt<=m:=by
 rw[oA];cases hi:l[i]? with
 | none=>simpa [tZero,Ty.cnt,zL]using I
 | some t=>exact h t (oB hi)
theorem U9 (t:Ty)(i:Nat):(t.as.getD i tZero).cnt<=t.cnt:=by
 cases t with
 | mk k l=>exact KH (l:=l) (λu I=>by have:=xl (l:=l) I;simp only[Ty.cnt];omega) (by simp only[Ty.cnt];omega) i
theorem WB {g:List Tg}{m:Nat}(h:∀ x∈g,x.ty.cnt<=m)(I:1<=m)(i:Nat):(g.getD i tg0).ty.cnt<=m:=by
 rw[oA];cases hi:g[i]? with
 | none=>simpa [tg0,tZero,Ty.cnt,zL]using I
 | some t=>exact h t (oB hi)
theorem Oi {k:Int}{s:ByteArray}{I:List Ty}{t:Ty}(J:∀ t∈I,t.cnt<=64)(h:xS k s I=some t):t.cnt<=64:=by
 simp only[xS]at h;split at h
 ·simp only[Sf]at h;split at h
  ·cases h;unfold vv;(repeat' split)<;>simp[tInt,tBool,Ty.cnt,zL]
  ·cases h
 ·split at h
  ·split at h
   ·cases h;exact KH J (by omega) _
   ·cases h
  ·split at h
   ·cases h;exact oL (U9 _ _) (KH J (by omega) _)
   ·cases h
theorem MZ {k:Int}{u t:Ty}(J:u.cnt<=30)(h:yL k u=some t):t.cnt<=64:=by
 have I:(xZ u).cnt<=64:=by simp only[xZ,Ty.cnt,zL];omega
 have O:=U9 u 0;simp only[yL]at h
 (repeat' split at h)<;>cases h<;>first | exact I | omega
theorem V0 {e:Tm}{g:List Tg}{n:Int}{t:Ty}(pre:Pre g e n)(h:e.raw g n=some t):t.cnt<=64:=by
 cases e with
 | mk k nm ot m ty re l=>
 have nd:=v8 pre.ok;simp only[Tm.raw]at h;split at h
 ·simp only[xj]at h
  (repeat' split at h)<;>cases h
  exact WB pre.ty (by omega) _
 split at h
 ·cases h;simp[tInt,Ty.cnt,zL]
 split at h
 ·cases h;simp[tBool,Ty.cnt,zL]
 split at h
 ·rename_i U;have Y:=Ty.valid_cnt (nd.vt (.inl U));split at h
  ·rename_i b I
   have:=Ty.valid_cnt (ri I)
   cases h;simp only[vV,Ty.cnt,zL];omega
  ·cases h
 split at h
 ·split at h
  ·have:=Ty.valid_cnt (ri h);omega
  ·cases h
 split at h
 ·rename_i O;have Y:=Ty.valid_cnt (nd.vt (.inr O));have hr:=Ty.valid_cnt (nd.vr O);split at h
  ·split at h
   ·cases h;simp only[vV,Ty.cnt,zL];omega
   ·cases h
  ·cases h
 split at h
 ·split at h
  ·rename_i b I;exact MZ (Ty.valid_cnt (ri I)) h
  ·cases h
 ·split at h
  ·rename_i ts J;exact Oi (λu hu=>oL (Ty.valid_cnt ((H3 J).2 u hu)) (by omega)) h
  ·cases h
theorem DS:tZero.Is (.ag [.j 0,.sl none 2 [] 0]):=tS 0
theorem I5:∀(e:Tm),∀ d,e.Is d->∀ g es a c n,Pre g e n->Ctx g es->Xs 34 [.sv a 4 es c,.dg 9 d,.j n] (e.type g n):=by
 refine Tm.ind λk nm ot m ty re l U d hd g es a c n pre O N Q I=>?_;have hs:=JF (a:=a) (c:=c) hd U pre O;rw[Tm.type_eq]at I;refine Jy N a es c _ n Q λ_ _=>?_;cases h:Tm.raw (.mk k nm ot m ty re l) g n with
 | none=>
   rw[h]at hs I
   repeat' first|with_reducible intro _|simp only[mZ,Y1,Y2,Y3,Y4]|with_reducible refine X ?_ ?_|refine⟨_,_,_,rfl,?_⟩|refine⟨_,rfl,?_⟩|refine X0 ?_|refine hs _ _ ?_|fail
   all_goals first | (exfalso;omega) | skip
   exact I _ _ (by omega) DS
 | some t=>
   have hc:=V0 pre h;rw[h]at hs I;simp only[vld]at I;cases J:t.valid with
   | false=>
     rw[J]at I
     repeat' first|with_reducible intro _|simp only[md,J,Y1,Y2,Y3,Y4]|with_reducible refine X ?_ ?_|refine⟨_,_,_,rfl,?_⟩|refine⟨_,rfl,?_⟩|refine X0 ?_|refine hs _ _ ?_|refine(yg t _ (by rename_i h _ _ _ _;exact h t rfl) (by omega)) _ _ ?_|fail
     all_goals first | (exfalso;omega) | skip
     exact I _ _ (by omega) DS
   | true=>
     rw[J]at I
     repeat' first|with_reducible intro _|simp only[md,J,Y1,Y2,Y3,Y4]|with_reducible refine X ?_ ?_|refine⟨_,_,_,rfl,?_⟩|refine⟨_,rfl,?_⟩|refine X0 ?_|refine hs _ _ ?_|refine(yg t _ (by rename_i h _ _ _ _;exact h t rfl) (by omega)) _ _ ?_|fail
     all_goals first | (exfalso;omega) | skip
     rename_i Y _ _ _ _ _ _ _ _ _;exact I _ _ (by omega) (Y t rfl)
def rD (g:List Tg)(e:Tm)(n:Int):Option Ty:=if O2 g/\BF e n then e.type g n else none
theorem L1:∀ {g:List Tg},Kj g=true->∀ x∈g,x.ty.valid=true
 | y::ys,h,x,hx=>by
   simp only[Kj,Tg.ok,oG]at h;rcases oF.1 hx with rfl | hx
   ·exact h.1.2.1
   ·exact L1 h.2 x hx
theorem WJ {g:List Tg}{e:Tm}{n:Int}(J:O2 g=true)(I:BF e n=true)(hc:e.dp<=1048576000 / 2):Pre g e n:=by simp only[O2,oG,o9]at J;simp only[BF,oG]at I;exact⟨I.1,I.2,by omega,λx O=>oL (Ty.valid_cnt (L1 J.1 x O)) (by omega)⟩
theorem AN {g:List Tg} {es:List D} (I:Ctx g es) (Y:∀ x∈g,x.ty.cnt<=1073741824) {e:Tm} {d:D} (he:e.Is d) (hG:e.G) (hc:e.dp<=1048576000 / 2) (a:Option Addr) (c:Nat) (n:Int) :
  Xs 15 [.sv a 4 es c,.dg 9 d,.j n] (rD g e n):=λN Q J=>by
 refine JX N a es c d n Q λ_ _=>?_;cases O:O2 g with
 | false=>
   rw[rD,if_neg (by simp[O])]at J
   repeat' first|with_reducible intro _|simp only[O,Y1,Y2,Y3,Y4]|with_reducible refine X ?_ ?_|refine⟨_,_,_,rfl,?_⟩|refine⟨_,rfl,?_⟩|refine X0 ?_|refine(qh I Y a c) _ _ ?_|fail
   exact J _ _ (by omega) DS
 | true=>
   cases U:BF e n with
   | false=>
     rw[rD,if_neg (by simp[U])]at J
     repeat' first|with_reducible intro _|simp only[O,U,Y1,Y2,Y3,Y4]|with_reducible refine X ?_ ?_|refine⟨_,_,_,rfl,?_⟩|refine⟨_,rfl,?_⟩|refine X0 ?_|refine(qh I Y a c) _ _ ?_|refine(ur e d he hG n) _ _ ?_|fail
     exact J _ _ (by omega) DS
   | true=>
     rw[rD,if_pos ⟨O,U⟩]at J
     repeat' first|with_reducible intro _|simp only[O,U,Y1,Y2,Y3,Y4]|with_reducible refine X ?_ ?_|refine⟨_,_,_,rfl,?_⟩|refine⟨_,rfl,?_⟩|refine X0 ?_|refine(qh I Y a c) _ _ ?_|refine(ur e d he hG n) _ _ ?_|refine(I5 e d he g es a c n (WJ O U hc) I) _ _ ?_|fail
     exact J _ _ (by omega) (by assumption)
theorem rJ {t:Ty}{d:D}{N N':Nat}(h:t.Is d)(I:Own N N' d):OwnL N N' [D.cell d 0,D.cell d 1]:=by
 cases t with
 | mk k l=>obtain⟨a,es,c,rfl,_,_⟩:=Ty.is_mk.1 h;show OwnL N N' [.j k,.sl a 2 es c];exact⟨by simpa only[D.foot]using I.nd,I.fl,by simpa only[D.foot]using I.lo,by simpa only[D.foot]using I.hi⟩
def Cop (f:FuncId)(z:Nat)(args:List PV)(P:D->Prop):Prop:=∀(N:Nat) (Q:QT [.ag z]),(∀ d' N',N<=N'->P d'->Own N N' d'->Q d' N')->ACalls prog f [.ag z] args N Q
end Go.Proofs.YtligajflgjpdnaaGreatDoor
