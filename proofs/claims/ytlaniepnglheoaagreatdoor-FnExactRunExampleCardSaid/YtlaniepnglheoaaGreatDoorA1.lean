/- Data as plain trees, and what the laws' first look at them (their size) comes to. -/
import Derived.IntWalk
import Derived.Test.YtlaniepnglheoaaGreatDoorKa
import Derived.Test.YtlaniepnglheoaaGreatDoorJh
set_option linter.unusedVariables false
set_option linter.unusedSimpArgs false
namespace Go.Proofs.YtlaniepnglheoaaGreatDoor
open Go Go.Proofs Go.Proofs.Tryz Go.IntWalk
inductive Ty where
 | mk (k:Int) (l:List Ty)
mutual
def Ty.Is:Ty->D->Prop
 | .mk k l,d=>∃ a es c,d=.ag [.j k,.sl a 2 es c]/\es.length<=4611686018427387904/\TysIs l es
def TysIs:List Ty->List D->Prop
 | [],es=>es=[]
 | t::ts,es=>∃ d ds,es=d::ds/\t.Is d/\TysIs ts ds
end
theorem TysIs.len:∀ {ts:List Ty}{es:List D},TysIs ts es->es.length=ts.length
 | [],es,h=>by simp[TysIs]at h;subst h;rfl
 | t::ts,es,h=>by simp only[TysIs]at h;obtain⟨d,ds,rfl,_,h⟩:=h;simp[TysIs.len h]
theorem Br.of {v:Bool}{A B:Prop}(I:v=true->A)(J:v=false->B):Br v A B:=by
 cases v
 ·exact J rfl
 ·exact I rfl
structure OwnL (N N':Nat) (es:List D):Prop where
 nd:(zC es).Nodup
 fl:xr es
 lo:∀ b∈zC es,N<=b
 hi:∀ b∈zC es,b<N'
structure Own (N N':Nat) (d:D):Prop where
 nd:d.foot.Nodup
 fl:d.Flat0
 lo:∀ b∈d.foot,N<=b
 hi:∀ b∈d.foot,b<N'
theorem Own.mono {N1 N2 J O:Nat}{d:D}(h:Own N1 N2 d)(U:J<=N1)(Y:N2<=O):Own J O d:=⟨h.nd,h.fl,λb I=>oR U (h.lo b I),λb I=>o6 (h.hi b I) Y⟩
theorem OwnL.mono {N1 N2 J O:Nat}{es:List D}(h:OwnL N1 N2 es)(U:J<=N1)(Y:N2<=O):OwnL J O es:=⟨h.nd,h.fl,λb I=>oR U (h.lo b I),λb I=>o6 (h.hi b I) Y⟩
theorem Ee {N N':Nat}:OwnL N N' []:=⟨by simp[zC],trivial,by simp[zC],by simp[zC]⟩
theorem yz:∀ {a b:List D},xr a->xr b->xr (a++b)
 | [],b,_,h=>h
 | x::a,b,I,J=>⟨I.1,yz I.2 J⟩
theorem zh {N N1 N2:Nat}{es fs:List D}(I:OwnL N N1 es)(J:OwnL N1 N2 fs)(hN:N<=N1)(O:N1<=N2):OwnL N N2 (es++fs):=by
 refine⟨?_,yz I.fl J.fl,λb hb=>?_,λb hb=>?_⟩
 ·rw[zG,nS];refine⟨I.nd,J.nd,λx U y Y aa=>?_⟩
  have:=I.hi x U;have:=J.lo y Y;omega
 ·rw[zG]at hb;rcases oM.1 hb with hb | hb
  ·exact I.lo b hb
  ·have:=J.lo b hb;omega
 ·rw[zG]at hb;rcases oM.1 hb with hb | hb
  ·have:=I.hi b hb;omega
  ·exact J.hi b hb
theorem zf {N N':Nat}{d:D}(h:Own N N' d):OwnL N N' [d]:=⟨by simpa [zC]using h.nd,⟨h.fl,trivial⟩,by simpa [zC]using h.lo,by simpa [zC]using h.hi⟩
theorem zU {N N':Nat}{x:Value}{es:List D}(h:OwnL N N' es):OwnL N N' (.lit x::es):=⟨by simpa [zC,D.foot]using h.nd,⟨trivial,h.fl⟩,by simpa [zC,D.foot]using h.lo,by simpa [zC,D.foot]using h.hi⟩
theorem AP {N N':Nat}{cs:List D}(h:OwnL N N' cs):Own N N' (.ag cs):=⟨by simpa only[D.foot]using h.nd,h.fl,by simpa only[D.foot]using h.lo,by simpa only[D.foot]using h.hi⟩
theorem qm {N N1 N3:Nat}{a:Option Addr}{z c:Nat}{es ds:List D}(h:OwnL N N1 es)(O:Fresh N N3 a (.ag es::ds))(hN:N1<=N3):Own N N3 (.sl a z es c):=by
 cases a with
 | none=>exact⟨by simpa only[D.foot]using h.nd,⟨by simp,h.fl⟩,by simpa only[D.foot]using h.lo,λb hb=>by simp only[D.foot]at hb;have:=h.hi b hb;omega⟩
 | some ad=>
   have J:=O.ap ad rfl (.ag es) (by simp);simp only[D.foot]at J;have I:∀ b∈(D.sl (some ad) z es c).foot,b=ad.block\/b∈zC es:=λb hb=>by
    simp only[D.foot]at hb;split at hb
    ·simp at hb
    ·exact oL.1 hb
   refine⟨?_,⟨λU Y=>by cases Y;exact O.off ad rfl,h.fl⟩,λb hb=>?_,λb hb=>?_⟩
   ·simp only[D.foot];split
    ·exact mO
    ·exact nw.2 ⟨J,h.nd⟩
   ·rcases I b hb with rfl | hb
    ·exact O.lo ad rfl
    ·exact h.lo b hb
   ·rcases I b hb with rfl | hb
    ·exact O.hi ad rfl
    ·have:=h.hi b hb;omega
mutual
def Ty.cnt:Ty->Nat
 | .mk _ l=>1+zS l
def zS:List Ty->Nat
 | []=>0
 | t::ts=>t.cnt+zS ts
end
theorem Bel.mono {N M:Nat}{x:D}(h:Bel N x)(I:N<=M):Bel M x:=λb J=>o6 (h b J) I
mutual
def sd:Ty->Ty->Bool
 | .mk k l,.mk I l'=>k==I&&rH l l'
def rH:List Ty->List Ty->Bool
 | [],[]=>true
 | t::ts,u::us=>sd t u&&rH ts us
 | _,_=>false
end
mutual
theorem Bv:∀(t u:Ty),sd t u=true↔t=u
 | .mk k l,.mk I l'=>by simp[sd,LQ l l']
theorem LQ:∀(l m:List Ty),rH l m=true↔l=m
 | [],[]=>by simp[rH]
 | t::ts,u::us=>by simp[rH,Bv t u,LQ ts us]
 | [],u::us=>by simp[rH]
 | t::ts,[]=>by simp[rH]
end
theorem F8:∀ {l m:List Ty},l.length≠m.length->rH l m=false
 | [],[],h=>absurd rfl h
 | t::ts,u::us,h=>by simp only[rH,F8 (l:=ts) (m:=us) (by simpa using h),lG]
 | [],u::us,_=>rfl
 | t::ts,[],_=>rfl
theorem IG {A B:Prop}:Br true A B=A:=rfl
theorem ET {A B:Prop}:Br false A B=B:=rfl
theorem Br.not {v:Bool}{A B:Prop}(I:v=false->A)(J:v=true->B):Br (!v) A B:=by
 cases v
 ·exact I rfl
 ·exact J rfl
theorem Br.dec {p:Prop} [Decidable p]{A B:Prop}(I:p->A)(J:¬p->B):Br (decide p) A B:=Br.of (λh=>I (of_decide_eq_true h)) λh=>J (of_decide_eq_false h)
theorem Br.ndec {p:Prop} [Decidable p]{A B:Prop}(I:¬p->A)(J:p->B):Br (!(decide p)) A B:=Br.not (λh=>I (of_decide_eq_false h)) λh=>J (of_decide_eq_true h)
theorem Br.beq {a b:Int}{A B:Prop}(I:a=b->A)(J:¬a=b->B):Br (a==b) A B:=Br.of (λh=>I (by simpa using h)) λh=>J (by simpa using h)
theorem Br.bne {a b:Int}{A B:Prop}(I:¬a=b->A)(J:a=b->B):Br (bne a b) A B:=Br.of (λh=>I (by simpa using h)) λh=>J (by simpa using h)
theorem KQ {s t:ByteArray}(h:s.toList=t.toList):s=t:=by rw[ByteArray.toList_eq,ByteArray.toList_eq]at h;cases s;cases t;simpa using h
theorem xp {s t:ByteArray}:(s.toList==t.toList)=decide (s=t):=by
 by_cases h:s=t
 ·simp[h]
 ·have:¬s.toList=t.toList:=λhc=>h (KQ hc);simp[h,this]
theorem Br.str {s t:ByteArray}{A B:Prop}(I:s=t->A)(J:¬s=t->B):Br (s.toList==t.toList) A B:=by rw[xp];exact Br.dec I J
theorem Br.nstr {s t:ByteArray}{A B:Prop}(I:¬s=t->A)(J:s=t->B):Br (!(s.toList==t.toList)) A B:=by rw[xp];exact Br.ndec I J
def vU (f:FuncId)(args:List PV)(b:Bool):Prop:=∀(N:Nat) (Q:QT [.bool]),(∀ N',N<=N'->Q b N')->ACalls prog f [.bool] args N Q
def AG (f:FuncId)(args:List PV)(n:Int):Prop:=∀(N:Nat) (Q:QT [.i]),(∀ N',N<=N'->Q n N')->ACalls prog f [.i] args N Q
theorem Qi {Q:QT [.i]}{n m:Int}{N:Nat}(h:Q n N)(e:n=m):Q m N:=e ▸ h
theorem Qb {Q:QT [.bool]}{n m:Bool}{N:Nat}(h:Q n N)(e:n=m):Q m N:=e ▸ h
def All2 {α:Type}(R:α->D->Prop):List α->List D->Prop
 | [],es=>es=[]
 | t::ts,es=>∃ d ds,es=d::ds/\R t d/\All2 R ts ds
theorem All2.len {α:Type}{R:α->D->Prop}:∀ {l:List α}{es:List D},All2 R l es->es.length=l.length
 | [],es,h=>by cases h;rfl
 | t::ts,es,⟨d,ds,I,_,h⟩=>by subst I;simp[h.len]
theorem All2.get {α:Type}{R:α->D->Prop}:∀ {l:List α}{es:List D}{i:Nat}{x:α},All2 R l es->l[i]?=some x->R x (es.getD i default)
 | [],es,i,x,h,I=>by simp at I
 | t::ts,es,i,x,⟨d,ds,J,O,U⟩,I=>by
   subst J;cases i with
   | zero=>simp at I;subst I;simpa [oA]using O
   | succ i=>simpa [oA]using U.get (by simpa using I)
theorem All2.snoc {α:Type}{R:α->D->Prop}:∀ {l:List α}{es:List D}{t:α}{d:D},All2 R l es->R t d->All2 R (l++[t]) (es++[d])
 | [],es,t,d,h,I=>by cases h;exact⟨d,[],rfl,I,rfl⟩
 | u::ts,es,t,d,⟨x,ds,J,O,U⟩,I=>by subst J;exact⟨x,ds++[d],rfl,O,U.snoc I⟩
theorem All2.app {α:Type}{R:α->D->Prop}:∀ {l m:List α}{es fs:List D},All2 R l es->All2 R m fs->All2 R (l++m) (es++fs)
 | [],m,es,fs,h,I=>by cases h;exact I
 | u::ts,m,es,fs,⟨x,ds,J,O,U⟩,I=>by subst J;exact⟨x,ds++fs,rfl,O,U.app I⟩
theorem All2.mono {α:Type}{R S:α->D->Prop}(I:∀ x d,R x d->S x d):∀ {l:List α}{es:List D},All2 R l es->All2 S l es
 | [],es,h=>h
 | u::ts,es,⟨x,ds,J,O,U⟩=>⟨x,ds,J,I _ _ O,U.mono I⟩
structure At {α:Type} (R:α->D->Prop) (l:List α) (es:List D) (i:Nat) (x:α):Prop where
 lt:decide ((i:Int)<(es.length:Int))=true
 b:(0:Int)<=(i:Int)/\(i:Int)<(es.length:Int)
 w:IntKind.i64.wrap ((i:Int)+1)=((i+1:Nat):Int)
 r:R x (es.getD i default)
 m:x∈l
 g:l[i]?=some x
theorem up {α:Type} {R:α->D->Prop} {l:List α} {es:List D} (h:All2 R l es) (U:es.length<=4611686018427387904) (P:Nat->List α->Prop)
  (O:∀ n:Nat,decide ((n:Int)<(es.length:Int))=false->n=es.length->P n []) (I:∀(i:Nat) x xs,At R l es i x->l.drop (i+1)=xs->P (i+1) xs->P i (x::xs)):P 0 l:=by
 have Y:=h.len;have key:∀(rest pre:List α),l=pre++rest->P pre.length rest:=by
  intro rest
  induction rest with
  | nil=>intro pre J;rw[o7]at J;subst J;exact O _ (by simp[Y]) Y.symm
  | cons x xs ih=>
    intro pre J;have hi:l[pre.length]?=some x:=by rw[J];simp
    have aa:pre.length<l.length:=(oD.1 hi).1;have hx:=h.get hi;refine I pre.length x xs ⟨nk (by omega),⟨by omega,by omega⟩,?_,hx,by rw[J];simp,hi⟩ (by rw[J];simp) ?_
    ·rw[i64_in _ (by omega)];simp
    ·have:=ih (pre++[x]) (by rw[J];simp)
     simpa using this
 exact key l [] rfl
theorem OB:∀ {l:List Ty}{es:List D},TysIs l es->All2 Ty.Is l es
 | [],es,h=>by simp only[TysIs]at h;exact h
 | t::ts,es,h=>by simp only[TysIs]at h;obtain⟨d,ds,I,J,O⟩:=h;exact⟨d,ds,I,J,OB O⟩
theorem Mz:∀ {l:List Ty}{es:List D},All2 Ty.Is l es->TysIs l es
 | [],es,h=>by simp only[TysIs];exact h
 | t::ts,es,⟨d,ds,I,J,O⟩=>by simp only[TysIs];exact⟨d,ds,I,J,Mz O⟩
def Ty.k:Ty->Int
 | .mk k _=>k
def Ty.as:Ty->List Ty
 | .mk _ l=>l
theorem Ty.is_mk {k:Int}{l:List Ty}{d:D}:(Ty.mk k l).Is d↔∃ a es c,d=.ag [.j k,.sl a 2 es c]/\es.length<=4611686018427387904/\All2 Ty.Is l es:=by simp only[Ty.Is];exact⟨λ⟨a,es,c,I,J,O⟩=>⟨a,es,c,I,J,OB O⟩,λ⟨a,es,c,I,J,O⟩=>⟨a,es,c,I,J,Mz O⟩⟩
theorem Ty.ind {P:Ty->Prop}(h:∀ k l,(∀ t∈l,P t)->P (.mk k l)):∀ t,P t:=λt=>
 Ty.rec (motive_1:=P) (motive_2:=λl=>∀ t∈l,P t) (λk l I=>h k l I) (by simp) (λt l J O u hu=>by
  rcases oL.1 hu with rfl | hu
  ·exact J
  ·exact O u hu) t
class Dv (v:Bool) (P Q:outParam Prop):Prop where
 t:v=true->P
 f:v=false->Q
instance (priority:=100) dv9 {v:Bool}:Dv v (v=true) (v=false):=⟨id,id⟩
instance (priority:=500) dv4 {v:Bool}:Dv (!v) (v=false) (v=true):=⟨by simp,by simp⟩
instance dv1 {p:Prop} [Decidable p]:Dv (!(decide p)) (¬p) p:=⟨by simp,by simp⟩
instance dv2 {s t:ByteArray}:Dv (!(s.toList==t.toList)) (¬s=t) (s=t):=⟨by rw[xp];simp,by rw[xp];simp⟩
instance dv3 {a b:Int}:Dv (!(a==b)) (¬a=b) (a=b):=⟨by simp,by simp⟩
instance dv5 {p:Prop} [Decidable p]:Dv (decide p) p (¬p):=⟨by simp,by simp⟩
instance dv6 {s t:ByteArray}:Dv (s.toList==t.toList) (s=t) (¬s=t):=⟨by rw[xp];simp,by rw[xp];simp⟩
instance dv7 {a b:Int}:Dv (a==b) (a=b) (¬a=b):=⟨by simp,by simp⟩
instance dv8 {a b:Int}:Dv (bne a b) (¬a=b) (a=b):=⟨by simp,by simp⟩
theorem X {v:Bool}{P Q A B:Prop}[h:Dv v P Q](I:P->A)(J:Q->B):Br v A B:=Br.of (λg=>I (h.t g)) λg=>J (h.f g)
theorem X0 {A B:Prop}(b:B)(a:A:=by first|omega|trivial|(show _=_;rfl)|(with_reducible constructor)<;>first|omega|trivial|rfl):A/\B:=⟨a,b⟩
theorem Y1:(!true)=false/\(!false)=true/\(∀ A B:Prop,Br true A B=A)/\∀ A B:Prop,Br false A B=B:=⟨rfl,rfl,λ_ _=>rfl,λ_ _=>rfl⟩
def inB (n a b:Int):Bool:=decide (a<=n)&&decide (n<=b)
theorem xU (n a b:Int):vU 44 [.j n,.j a,.j b] (inB n a b):=λN Q I=>by
 refine Mv N n a b Q ?_
 repeat' first|with_reducible intro _|simp only[Y1]|with_reducible refine X ?_ ?_|refine⟨_,_,_,rfl,?_⟩|refine⟨_,rfl,?_⟩|refine X0 ?_|fail
 all_goals simpa [inB, *]using I _ (by omega)
theorem DV (a b:Int):AG 150 [.j a,.j b] (max a b):=λN Q I=>by
 refine Le N a b Q ?_
 repeat' first|with_reducible intro _|simp only[Y1]|with_reducible refine X ?_ ?_|refine⟨_,_,_,rfl,?_⟩|refine⟨_,rfl,?_⟩|refine X0 ?_|fail
 ·have:=I _ (by assumption)
  rwa[Int.max_eq_left (by omega)]at this
 ·have:=I _ (by assumption)
  rwa[Int.max_eq_right (by omega)]at this
mutual
def Ty.dep:Ty->Nat
 | .mk _ l=>tk l+1
def tk:List Ty->Nat
 | []=>0
 | t::ts=>max t.dep (tk ts)
end
mutual
theorem Ty.dep_cnt:∀ t:Ty,t.dep<=t.cnt
 | .mk _ l=>by simp only[Ty.dep,Ty.cnt];have:=pZ l;omega
theorem pZ:∀ l:List Ty,tk l<=zS l
 | []=>oC _
 | t::ts=>by simp only[tk,zS];have:=t.dep_cnt;have:=pZ ts;omega
end
theorem wR:∀ {l:List Ty}{t:Ty},t∈l->t.cnt<=zS l
 | u::us,t,h=>by
   simp only[zS];rcases oL.1 h with rfl | h
   ·omega
   ·have:=wR h;omega
def qL (k:Int)(n:Nat):Bool:=if k=1\/k=2 then(n:Int)==0 else if k=3 then(n:Int)==2 else if k=4 then(n:Int)==1 else false
mutual
def Ty.form:Ty->Bool
 | .mk k l=>tC l&&qL k l.length
def tC:List Ty->Bool
 | []=>true
 | t::ts=>t.form&&tC ts
end
def Ty.valid (t:Ty):Bool:=decide (t.cnt<=30)&&decide (t.dep<=8)&&t.form
theorem BN:∀(t:Ty)(d:D),t.Is d->∀ n:Int,0<=n->n<=1000->AG 97 [.dg 2 d,.j n] (if(t.cnt:Int)<=n then n - t.cnt else -1):=by
 refine Ty.ind λk l ih d hd n ah ai N Q hQ=>?_;obtain⟨a,es,c,rfl,Y,aa⟩:=Ty.is_mk.1 hd;refine Jw N _ n Q λ_=>?_;have key:=up aa Y (λi xs=>∀(m:Int) (N':Nat),N<=N' -> -1<=m->m<=1000->(∀ J,N'<=J->Q (if m<0 then -1 else if(zS xs:Int)<=m then m - zS xs else -1) J) ->
  wr Q N m i (.ag [.j k,.sl a 2 es c]) N') ?_ ?_
 ·rw[i64_in _ (by omega)];refine key (n - 1) N (oC _) (by omega) (by omega) λN' U=>Qi (hQ N' U) ?_;simp only[Ty.cnt]
  (repeat' split)<;>omega
 ·intro i ab _ m N' U h1 h2 O;refine qb ?_
  repeat' first|with_reducible intro _|simp only[ab,Y1]|with_reducible refine X ?_ ?_|refine⟨_,_,_,rfl,?_⟩|refine⟨_,rfl,?_⟩|refine X0 ?_|fail
  refine Qi (O _ (by assumption)) ?_;simp only[zS]
  (repeat' split)<;>omega
 ·intro i x xs I _ ac m N' U h1 h2 O;have hb:=I.b;refine qb ?_
  repeat' first|with_reducible intro _|simp only[I.lt,I.w,oG,Y1]|with_reducible refine X ?_ ?_|refine⟨_,_,_,rfl,?_⟩|refine⟨_,rfl,?_⟩|refine X0 ?_|refine(ih x I.m _ I.r m (by omega) (by omega)) _ _ ?_|fail
  ·refine ac _ _ (by omega) (by split<;>omega) (by split<;>omega) λJ ae=>Qi (O J (by omega)) ?_;simp only[zS]
   (repeat' split)<;>omega
  ·refine Qi (O _ (by assumption)) ?_;rw[if_pos (by omega)];omega
theorem tS:∀(t:Ty)(d:D),t.Is d->t.cnt<=1073741824->AG 98 [.dg 2 d] t.dep:=by
 refine Ty.ind λk l ih d hd hc N Q hQ=>?_;obtain⟨a,es,c,rfl,J,U⟩:=Ty.is_mk.1 hd;refine CC N _ Q λ_=>?_;simp only[Ty.cnt]at hc;have ab:=pZ l;have key:=up U J (λi xs=>∀(m:Nat) (N':Nat),N<=N'->max m (tk xs)=tk l->xG Q N (m:Int) i (.ag [.j k,.sl a 2 es c]) N') ?_ ?_
 ·exact key 0 N (oC _) (by omega)
 ·intro i Y _ m N' O hm;simp only[tk]at hm;refine uN ?_
  repeat' first|with_reducible intro _|simp only[Y,Y1]|with_reducible refine X ?_ ?_|refine⟨_,_,_,rfl,?_⟩|refine⟨_,rfl,?_⟩|refine X0 ?_|fail
  rw[i64_in _ (by omega)];refine Qi (hQ _ (oR O (by assumption))) ?_;simp only[Ty.dep];omega
 ·intro i x xs I _ aa m N' O hm;have hb:=I.b;have ac:=wR I.m;simp only[tk]at hm;refine uN ?_
  repeat' first|with_reducible intro _|simp only[I.lt,I.w,oG,Y1]|with_reducible refine X ?_ ?_|refine⟨_,_,_,rfl,?_⟩|refine⟨_,rfl,?_⟩|refine X0 ?_|refine(ih x I.m _ I.r (by omega)) _ _ ?_|refine(DV _ _) _ _ ?_|fail
  have e:max (m:Int) (x.dep:Int)=((max m x.dep:Nat):Int):=by omega
  rw[e];exact aa _ _ (by omega) (by omega)
theorem BM:∀(t:Ty)(d:D),t.Is d->vU 99 [.dg 2 d] t.form:=by
 refine Ty.ind λk l ih d hd N Q hQ=>?_;obtain⟨a,es,c,rfl,U,Y⟩:=Ty.is_mk.1 hd;have hl:=Y.len;refine Jv N _ Q λ_=>?_;have key:=up Y U (λi xs=>∀(N':Nat),N<=N'->(∀ J,N'<=J->Q (tC xs&&qL k l.length) J)->wq Q N i (.ag [.j k,.sl a 2 es c]) N') ?_ ?_
 ·exact key N (oC _) hQ
 ·intro i aa _ N' ab O;refine qa ?_
  repeat' first|with_reducible intro _|simp only[aa,Y1]|with_reducible refine X ?_ ?_|refine⟨_,_,_,rfl,?_⟩|refine⟨_,rfl,?_⟩|refine X0 ?_|fail
  all_goals(refine Qb (O _ (by assumption)) ?_;simp[tC,qL, *])
 ·intro i x xs I _ ac N' ab O;have hb:=I.b;refine qa ?_
  repeat' first|with_reducible intro _|simp only[I.lt,I.w,oG,Y1]|with_reducible refine X ?_ ?_|refine⟨_,_,_,rfl,?_⟩|refine⟨_,rfl,?_⟩|refine X0 ?_|refine(ih x I.m _ I.r) _ _ ?_|fail
  ·refine Qb (O _ (by omega)) ?_;simp[tC, *]
  ·exact ac _ (by omega) λJ h=>Qb (O J (by omega)) (by simp[tC, *])
theorem yJ (t:Ty)(d:D)(hd:t.Is d)(hc:t.cnt<=1073741824):vU 49 [.dg 2 d] t.valid:=λN Q I=>by
 refine CF N _ Q λ_=>?_;by_cases O:t.cnt<=30
 ·have J:((t.cnt:Int)<=30):=by omega
  repeat' first|with_reducible intro _|simp only[if_pos J,Y1]|with_reducible refine X ?_ ?_|refine⟨_,_,_,rfl,?_⟩|refine⟨_,rfl,?_⟩|refine X0 ?_|refine(BN t d hd _ (by omega) (by omega)) _ _ ?_|refine(tS t d hd hc) _ _ ?_|refine(BM t d hd) _ _ ?_|fail
  all_goals first | omega | skip
  ·have U:t.dep<=8:=by omega
   refine Qb (I _ (by omega)) ?_;simp[Ty.valid, *]
  ·have U:¬t.dep<=8:=by omega
   refine Qb (I _ (by omega)) ?_;simp[Ty.valid, *]
 ·have J:¬((t.cnt:Int)<=30):=by omega
  repeat' first|with_reducible intro _|simp only[if_neg J,Y1]|with_reducible refine X ?_ ?_|refine⟨_,_,_,rfl,?_⟩|refine⟨_,rfl,?_⟩|refine X0 ?_|refine(BN t d hd _ (by omega) (by omega)) _ _ ?_|refine(tS t d hd hc) _ _ ?_|refine(BM t d hd) _ _ ?_|fail
  all_goals first | omega | skip
  refine Qb (I _ (by omega)) ?_;simp[Ty.valid, *]
def Dr (f:FuncId)(args:List PV)(t:Ty):Prop:=∀(N:Nat) (Q:QT [.ag 2]),(∀ d' N',N<=N'->t.Is d'->Own N N' d'->Q d' N')->ACalls prog f [.ag 2] args N Q
def tInt:Ty:=.mk 1 []
def tBool:Ty:=.mk 2 []
def tZero:Ty:=.mk 0 []
def wa (a b:Ty):Ty:=.mk 3 [a,b]
def vI (a:Ty):Ty:=.mk 4 [a]
def Ty.base (t:Ty):Bool:=(t.k==1||t.k==2)&&(t.as.length:Int)==0
theorem vQ (k:Int):(Ty.mk k []).Is (.ag [.j k,.sl none 2 [] 0]):=Ty.is_mk.2 ⟨_,_,_,rfl,by simp,rfl⟩
theorem ym {N N':Nat}{x:Value}:Own N N' (.ag [.lit x,.sl none 2 [] 0]):=⟨by simp[D.foot,zC],⟨trivial,⟨by simp,trivial⟩,trivial⟩,by simp[D.foot,zC],by simp[D.foot,zC]⟩
theorem Ae:∀ l:List Ty,l.length<=zS l
 | []=>oC _
 | .mk k l::ts=>by simp only[zS,Ty.cnt,oJ];have:=Ae ts;omega
theorem uD:∀(t u:Ty)(d e:D),t.Is d->u.Is e->vU 199 [.dg 2 d,.dg 2 e] (sd t u):=by
 refine Ty.ind λk l ih u d e hd he N Q hQ=>?_;cases u with
 | mk k' l'=>
 obtain⟨a,es,c,rfl,Y,aa⟩:=Ty.is_mk.1 hd;obtain⟨a',ab,c',rfl,ah,U⟩:=Ty.is_mk.1 he;have hl:=aa.len;have ao:=U.len;simp only[sd]at hQ;have key:l.length=l'.length->∀(N':Nat),N<=N'->(∀ I,N'<=I->Q (rH l (l'.drop 0)) I)->yv Q N (0:Nat) (.ag [.j k,.sl a 2 es c]) (.ag [.j k',.sl a' 2 ab c']) N':=by
  intro aq;refine up aa Y (λi xs=>∀(N':Nat),N<=N'->(∀ I,N'<=I->Q (rH xs (l'.drop i)) I)->yv Q N i (.ag [.j k,.sl a 2 es c]) (.ag [.j k',.sl a' 2 ab c']) N') ?_ ?_
  ·intro i ai hi N' aj J;refine tY ?_
   repeat' first|with_reducible intro _|simp only[ai,Y1]|with_reducible refine X ?_ ?_|refine⟨_,_,_,rfl,?_⟩|refine⟨_,rfl,?_⟩|refine X0 ?_|fail
   refine Qb (J _ (by assumption)) ?_;rw[mN (by omega)];rfl
  ·intro i x xs O _ ak N' aj J;have hb:=O.b;have ac:i<l'.length:=by omega
   have hg:l'[i]?=some l'[i]:=oI ac;have al:l'.drop i=l'[i]::l'.drop (i+1):=mf ac;refine tY ?_;rw[al]at J
   repeat' first|with_reducible intro _|simp only[O.lt,O.w,oG,Y1]|with_reducible refine X ?_ ?_|refine⟨_,_,_,rfl,?_⟩|refine⟨_,rfl,?_⟩|refine X0 ?_|refine(ih x O.m _ _ _ O.r (U.get hg)) _ _ ?_|fail
   ·exact Qb (J _ (by omega)) (by simp[rH, *])
   ·exact ak _ (by omega) λI h=>Qb (J I (by omega)) (by simp[rH, *])
 refine EI N _ _ Q λ_ _=>?_
 repeat' first|with_reducible intro _|simp only[Y1]|with_reducible refine X ?_ ?_|refine⟨_,_,_,rfl,?_⟩|refine⟨_,rfl,?_⟩|refine X0 ?_|fail
 ·exact Qb (hQ _ (by assumption)) (by simp[*])
 ·exact Qb (hQ _ (by assumption)) (by rw[F8 (by omega),lG])
 ·exact key (by omega) N (oC _) λI ae=>Qb (hQ _ ae) (by simp[*])
theorem BJ (t:Ty)(d:D)(hd:t.Is d):vU 140 [.dg 2 d] t.base:=λN Q O=>by
 cases t with
 | mk k l=>
 obtain⟨a,es,c,rfl,J,I⟩:=Ty.is_mk.1 hd;have U:=I.len;refine Jj N _ Q λ_=>?_
 repeat' first|with_reducible intro _|simp only[Y1]|with_reducible refine X ?_ ?_|refine⟨_,_,_,rfl,?_⟩|refine⟨_,rfl,?_⟩|refine X0 ?_|fail
 all_goals refine Qb (O _ (by assumption)) ?_
 all_goals simp[Ty.base,Ty.k,Ty.as,U, *]
theorem qI:Dr 69 [] tInt:=λN Q J=>Lh N Q λN' I=>J _ _ I (vQ _) ym
theorem sn:Dr 70 [] tBool:=λN Q J=>Js N Q λN' I=>J _ _ I (vQ _) ym
theorem vJ {α:Type}{l:List α}{i:Nat}{x:α}(h:l[i]?=some x):l.take (i+1)=l.take i++[x]:=by rw[List.take_add_one,h];rfl
theorem ze:∀(t:Ty)(d:D),t.Is d->t.cnt<=1073741824->Dr 90 [.dg 2 d] t:=by
 refine Ty.ind λk l ih d hd hc N Q hQ=>?_;obtain⟨a,es,c,rfl,Y,aa⟩:=Ty.is_mk.1 hd;have hl:=aa.len;simp only[Ty.cnt]at hc;have al:=Ae l;refine Ju N _ Q λ_=>⟨_,rfl,?_⟩
 have key:=up aa Y (λi xs=>∀(N':Nat),N<=N'->(i=0->ui Q N i (.ag [.j k,.sl a 2 es c]) 0 none [] 0 k none [] 0 N')/\∀(m q:Nat) (r:List D),m=r.length->All2 Ty.Is (l.take i) r->OwnL N N' r ->
  xe Q N i (.ag [.j k,.sl a 2 es c]) 0 none [] 0 k m q r q N') ?_ ?_
 ·exact(key N (oC _)).1 rfl
 ·intro i ab hi N' ai;refine⟨λh0=>qZ ?_,λm q r hm U ho=>tc ?_⟩
  ·repeat' first|with_reducible intro _|simp only[ab,Y1]|with_reducible refine X ?_ ?_|refine⟨_,_,_,rfl,?_⟩|refine⟨_,rfl,?_⟩|refine X0 ?_|fail
   have:l=[]:=oV (by omega);subst this;exact hQ _ _ (by omega) (vQ _) ym
  ·repeat' first|with_reducible intro _|simp only[ab,Y1]|with_reducible refine X ?_ ?_|refine⟨_,_,_,rfl,?_⟩|refine⟨_,rfl,?_⟩|refine X0 ?_|fail
   rename_i a' N3 J hf N4 aj;rw[om (by omega)]at U;exact hQ _ _ (by omega) (Ty.is_mk.2 ⟨_,_,_,rfl,by have:=U.len;omega,U⟩) (AP (zU (zf ((qm ho hf (by omega)).mono (oC _) aj))))
 ·intro i x xs I _ ac N' ai;have hb:=I.b;have ao:=wR I.m;refine⟨λh0=>qZ ?_,λm q r hm U ho=>tc ?_⟩
  ·repeat' first|with_reducible intro _|simp only[I.lt,I.w,oG,Y1]|with_reducible refine X ?_ ?_|refine⟨_,_,_,rfl,?_⟩|refine⟨_,rfl,?_⟩|refine X0 ?_|refine(ih x I.m _ I.r (by omega)) _ _ ?_|fail
   rename_i N2 ae d' N3 J hx O ak ah;subst h0;exact⟨by unfold zB;simp,λc2=>(ac _ (by omega)).2 _ _ _ rfl (by rw[vJ I.g];exact⟨_,_,rfl,hx,rfl⟩) (zf (O.mono (by omega) (oC _)))⟩
  ·repeat' first|with_reducible intro _|simp only[I.lt,I.w,oG,Y1]|with_reducible refine X ?_ ?_|refine⟨_,_,_,rfl,?_⟩|refine⟨_,rfl,?_⟩|refine X0 ?_|refine(ih x I.m _ I.r (by omega)) _ _ ?_|fail
   rename_i N2 ae d' N3 J hx O ak ah;have aq:=U.len;have au:(l.take i).length=i:=by rw[nL];omega
   refine⟨by unfold zB;simp only[oH,mD];omega,λc2=>?_⟩;exact(ac _ (by omega)).2 _ _ _ rfl (by rw[vJ I.g];exact U.snoc hx) (zh (ho.mono (oC _) ae) (zf O) (by omega) J)
theorem qH (t u:Ty)(d e:D)(hd:t.Is d)(he:u.Is e)(I:t.cnt<=1073741824)(J:u.cnt<=1073741824):Dr 72 [.dg 2 d,.dg 2 e] (wa t u):=λN Q hQ=>by
 refine Lg N _ _ Q λ_ _=>?_
 repeat' first|with_reducible intro _|simp only[Y1]|with_reducible refine X ?_ ?_|refine⟨_,_,_,rfl,?_⟩|refine⟨_,rfl,?_⟩|refine X0 ?_|refine(ze t d hd I) _ _ ?_|refine(ze u e he J) _ _ ?_|fail
 rename_i N1 O d1 N2 ab h1 o1 ac b1 N3 U d2 N4 Y h2 o2 ae b2 a' N5 ah hf N6 aa;exact hQ _ _ (by omega) (Ty.is_mk.2 ⟨_,_,_,rfl,by simp,_,_,rfl,h1,_,_,rfl,h2,rfl⟩)
  (AP (zU (zf ((qm (zh ((zf o1).mono O U) (zf o2) (by omega) Y) hf (by omega)).mono (oC _) aa))))
theorem Il (t:Ty)(d:D)(hd:t.Is d)(I:t.cnt<=1073741824):Dr 71 [.dg 2 d] (vI t):=λN Q U=>by
 refine Jt N _ Q λ_=>?_
 repeat' first|with_reducible intro _|simp only[Y1]|with_reducible refine X ?_ ?_|refine⟨_,_,_,rfl,?_⟩|refine⟨_,rfl,?_⟩|refine X0 ?_|refine(ze t d hd I) _ _ ?_|fail
 rename_i N1 J d1 N2 Y h1 o1 aa b1 a' N5 ab hf N6 O;exact U _ _ (by omega) (Ty.is_mk.2 ⟨_,_,_,rfl,by simp,_,_,rfl,h1,rfl⟩)
  (AP (zU (zf ((qm ((zf o1).mono J (oC _)) hf (by omega)).mono (oC _) O))))
theorem upN {n:Nat} (hn:n<=4611686018427387904) (P:Nat->Prop) (hend:decide ((n:Int)<(n:Int))=false->P n)
  (hstep:∀ i:Nat,i<n->decide ((i:Int)<(n:Int))=true->IntKind.i64.wrap ((i:Int)+1)=((i+1:Nat):Int)->P (i+1)->P i):P 0:=by
 have key : ∀(m i:Nat),i+m=n->P i:=by
  intro m
  induction m with
  | zero => intro i h;have:i=n:=by omega
            subst this;exact hend (by simp)
  | succ m ih=>intro i h;exact hstep i (by omega) (nk (by omega)) (by rw[i64_in _ (by omega)];simp) (ih (i+1) (by omega))
 exact key n 0 (by omega)
abbrev AH (s:ByteArray)(i:Nat):Int:=((s.data.getD i (OfNat.ofNat 0)).toNat:Int)
def BS (s:ByteArray)(i:Nat):Bool:=(decide (AH s i≥97)&&decide (AH s i<=122))||(!(decide ((i:Int)=0))&&(!(decide (AH s i<48))&&!(decide (AH s i>57))))
def uV (s:ByteArray)(i:Nat):Bool:=(List.range' i (s.size - i)).all (BS s)
theorem Bh {s:ByteArray}{i:Nat}(h:i<s.size):uV s i=(BS s i&&uV s (i+1)):=by unfold uV;rw[show s.size - i=(s.size - (i+1))+1 by omega,List.range'_succ];rfl
theorem DZ {s:ByteArray}:uV s s.size=true:=by simp[uV]
def Dh (s:ByteArray):Bool:=inB s.size 1 4&&(!(decide (s=bytes [105,102]))&&(!(decide (s=bytes [108,101,116]))&&(!(decide (s=bytes [114,101,99]))&&(!(decide (s=bytes [114,117,110]))&&!(decide (s=bytes [108,105,102,116]))))))
def yK (s:ByteArray):Bool:=uV s 0&&Dh s
theorem sm (s:ByteArray)(hs:s.size<=4611686018427387904):vU 87 [.str s] (yK s):=λN Q hQ=>by
 refine Jk N s Q ?_;have key:=upN hs (λi=>∀ N',N<=N'->(∀ J,N'<=J->Q (uV s i&&Dh s) J)->xK Q N s i N') ?_ ?_
 ·exact key N (oC _) hQ
 ·intro O N' U I;refine qT ?_
  repeat' first|with_reducible intro _|simp only[O,Y1]|with_reducible refine X ?_ ?_|refine⟨_,_,_,rfl,?_⟩|refine⟨_,rfl,?_⟩|refine X0 ?_|refine(xU _ _ _) _ _ ?_|fail
  all_goals(refine Qb (I _ (by omega)) ?_;rw[DZ])
  all_goals simp[Dh,xp, *]
 ·intro i hi O hw Y N' U I;refine qT ?_;rw[Bh hi]at I
  repeat' first|with_reducible intro _|simp only[O,hw,oG,Y1]|with_reducible refine X ?_ ?_|refine⟨_,_,_,rfl,?_⟩|refine⟨_,rfl,?_⟩|refine X0 ?_|fail
  all_goals first
   | (refine Qb (I _ (by omega)) ?_;unfold BS AH;simp only[*];simp;done)
   | (refine Y _ (by omega) λJ h=>Qb (I J (by omega)) ?_;unfold BS AH;simp only[*];simp;done)
inductive Tm where
 | mk (k:Int) (nm ot:ByteArray) (n:Int) (ty re:Ty) (l:List Tm)
def Tm.as:Tm->List Tm
 | .mk _ _ _ _ _ _ l=>l
structure Tm.Hd (nm ot:ByteArray) (ty re:Ty) (t0 t1 r0 r1:D):Prop where
 nm:nm.size<=4611686018427387904
 ot:ot.size<=4611686018427387904
 ty:ty.Is (.ag [t0,t1])
 re:re.Is (.ag [r0,r1])
mutual
def Tm.Is:Tm->D->Prop
 | .mk k nm ot n ty re l,d=>∃ t0 t1 r0 r1 a es c,d=.ag [.j k,.t nm,.t ot,.j n,t0,t1,r0,r1,.sl a 9 es c]/\Tm.Hd nm ot ty re t0 t1 r0 r1/\es.length<=4611686018427387904/\PL l es
def PL:List Tm->List D->Prop
 | [],es=>es=[]
 | t::ts,es=>∃ d ds,es=d::ds/\t.Is d/\PL ts ds
end
theorem JQ:∀ {l:List Tm}{es:List D},PL l es↔All2 Tm.Is l es
 | [],es=>by simp only[PL,All2]
 | t::ts,es=>by simp only[PL,All2];exact⟨λ⟨d,ds,I,J,O⟩=>⟨d,ds,I,J,JQ.1 O⟩,λ⟨d,ds,I,J,O⟩=>⟨d,ds,I,J,JQ.2 O⟩⟩
theorem Tm.is_mk {k:Int} {nm ot:ByteArray} {n:Int} {ty re:Ty} {l:List Tm} {d:D}:(Tm.mk k nm ot n ty re l).Is d ↔
  ∃ t0 t1 r0 r1 a es c,d=.ag [.j k,.t nm,.t ot,.j n,t0,t1,r0,r1,.sl a 9 es c]/\Tm.Hd nm ot ty re t0 t1 r0 r1/\es.length<=4611686018427387904/\All2 Tm.Is l es:=by
 simp only[Tm.Is,JQ]
theorem Tm.ind {P:Tm->Prop}(h:∀ k nm ot n ty re l,(∀ t∈l,P t)->P (.mk k nm ot n ty re l)):∀ t,P t:=λt=>
 Tm.rec (motive_1:=P) (motive_2:=λl=>∀ t∈l,P t) (λk nm ot n ty re l I=>h k nm ot n ty re l I) (by simp) (λt l J O u hu=>by
  rcases oL.1 hu with rfl | hu
  ·exact J
  ·exact O u hu) t
mutual
def Tm.cnt:Tm->Nat
 | .mk _ _ _ _ ty re l=>1+ty.cnt+re.cnt+xQ l
def xQ:List Tm->Nat
 | []=>0
 | t::ts=>t.cnt+xQ ts
end
theorem u9:∀ {l:List Tm}{t:Tm},t∈l->t.cnt<=xQ l
 | u::us,t,h=>by
   simp only[xQ];rcases oL.1 h with rfl | h
   ·omega
   ·have:=u9 h;omega
theorem u7:∀ l:List Tm,l.length<=xQ l
 | []=>oC _
 | .mk _ _ _ _ _ _ _::ts=>by simp only[xQ,Tm.cnt,oJ];have:=u7 ts;omega
mutual
def Tm.dp:Tm->Nat
 | .mk _ _ _ _ _ _ l=>v7 l+1
def v7:List Tm->Nat
 | []=>0
 | t::ts=>max t.dp (v7 ts)
end
mutual
theorem Tm.dp_cnt:∀ t:Tm,t.dp<=t.cnt
 | .mk _ _ _ _ ty re l=>by simp only[Tm.dp,Tm.cnt];have:=Bt l;omega
theorem Bt:∀ l:List Tm,v7 l<=xQ l
 | []=>oC _
 | t::ts=>by simp only[v7,xQ];have:=t.dp_cnt;have:=Bt ts;omega
end
theorem Tm.dp_pos (t:Tm):1<=t.dp:=by cases t;simp only[Tm.dp];omega
theorem vb:∀ {l:List Tm}{t:Tm},t∈l->t.dp<=v7 l
 | u::us,t,h=>by
   simp only[v7];rcases oL.1 h with rfl | h
   ·omega
   ·have:=vb h;omega
mutual
def Tm.G:Tm->Prop
 | .mk _ _ _ _ ty re l=>ty.cnt<=1073741824/\re.cnt<=1073741824/\l.length<=1073741824/\Nx l
def Nx:List Tm->Prop
 | []=>True
 | t::ts=>t.G/\Nx ts
end
theorem zy:∀ {l:List Tm}{x:Tm},Nx l->x∈l->x.G
 | t::ts,x,h,hx=>by
   rcases oL.1 hx with rfl | hx
   ·exact h.1
   ·exact zy h.2 hx
theorem C6:∀ {l:List Tm},(∀ x∈l,x.G)->Nx l
 | [],_=>trivial
 | t::ts,h=>⟨h t (by simp),C6 λx I=>h x (by simp[I])⟩
mutual
theorem Tm.G_cnt:∀ t:Tm,t.cnt<=1073741824->t.G
 | .mk _ _ _ _ ty re l,h=>by
   simp only[Tm.cnt]at h
   have:=u7 l
   exact⟨by omega,by omega,by omega,Ny l (by omega)⟩
theorem Ny:∀ l:List Tm,xQ l<=1073741824->Nx l
 | [],_=>trivial
 | t::ts,h=>by
   simp only[xQ]at h
   exact⟨Tm.G_cnt t (by omega),Ny ts (by omega)⟩
end
structure Tg where
 nm:ByteArray
 ty:Ty
 lv:Int
def Tg.Is (g:Tg)(d:D):Prop:=∃ t0 t1,d=.ag [.t g.nm,t0,t1,.j g.lv]/\g.nm.size<=4611686018427387904/\g.ty.Is (.ag [t0,t1])
theorem Tg.is_mk {nm:ByteArray}{ty:Ty}{lv:Int}{d:D}:(Tg.mk nm ty lv).Is d↔∃ t0 t1,d=.ag [.t nm,t0,t1,.j lv]/\nm.size<=4611686018427387904/\ty.Is (.ag [t0,t1]):=lF
def sc (s:ByteArray):Int:=if s=bytes [43]then 2 else if s=bytes [45]then 2 else if s=bytes [42]then 2 else if s=bytes [61]then 2 else if s=bytes [60]then 2 else if s=bytes [38]then 2 else if s=bytes [124]then 2 else if s=bytes [33]then 1 else 0
theorem tq (s:ByteArray):AG 161 [.str s] (sc s):=λN Q I=>by
 refine HJ N s Q ?_
 repeat' first|with_reducible intro _|simp only[Y1]|with_reducible refine X ?_ ?_|refine⟨_,_,_,rfl,?_⟩|refine⟨_,rfl,?_⟩|refine X0 ?_|fail
 all_goals(refine Qi (I _ (by assumption)) ?_;unfold sc;(repeat' split)<;>first | rfl | contradiction)
def Ty.zero (t:Ty):Bool:=t.k==0&&(t.as.length:Int)==0
theorem BP (t:Ty)(d:D)(hd:t.Is d):vU 159 [.dg 2 d] t.zero:=λN Q O=>by
 cases t with
 | mk k l=>
 obtain⟨a,es,c,rfl,J,I⟩:=Ty.is_mk.1 hd;have U:=I.len;refine Jz N _ Q λ_=>?_
 repeat' first|with_reducible intro _|simp only[Y1]|with_reducible refine X ?_ ?_|refine⟨_,_,_,rfl,?_⟩|refine⟨_,rfl,?_⟩|refine X0 ?_|fail
 all_goals refine Qb (O _ (by assumption)) ?_
 all_goals simp[Ty.zero,Ty.k,Ty.as,U, *]
def zw (k:Int)(nm ot:ByteArray):Bool:=
 if k=4 then decide (sc nm>0)&&decide (ot=bytes [])else if k=1\/k=6\/k=8 then yK nm&&decide (ot=bytes [])else if k=9 then yK nm&&(yK ot&&!decide (nm=ot))else decide (nm=bytes [])&&decide (ot=bytes [])
theorem Xi (a b:Int):(a==b)=decide (a=b):=by rw[mA];simp
def ri (k:Int):Bool:=k==6||k==9
def zI (k:Int)(nm ot:ByteArray)(n:Int)(ty re:Ty):Bool:=
 (ri k==ty.valid)&&((ri k||ty.zero)&&(((k==9)==re.valid)&&((k==9||re.zero)&&(inB n 0 (if k=2 then 10006 else if k=3 then 1 else 0)&&zw k nm ot))))
def GX (k:Int)(nm:ByteArray):Int:=
 if k=1\/k=2\/k=3 then 0 else if k=4 then sc nm else if k=6\/k=9\/k=10\/k=11\/k=12\/k=13 then 1 else if k=7\/k=8 then 2 else if k=5 then 3 else -1
mutual
def Tm.ok:Tm->Bool
 | .mk k nm ot n ty re l=>sW l&&(zI k nm ot n ty re&&(l.length:Int)==GX k nm)
def sW:List Tm->Bool
 | []=>true
 | t::ts=>t.ok&&sW ts
end
theorem Gv {k n:Int}{nm ot:ByteArray}{ty re:Ty}{t0 t1 r0 r1 x:D}(h:Tm.Hd nm ot ty re t0 t1 r0 r1):vU 160 [.dg 9 (.ag [.j k,.t nm,.t ot,.j n,t0,t1,r0,r1,x])] (zw k nm ot):=λN Q I=>by
 refine HR N _ Q λ_=>?_
 repeat' first|with_reducible intro _|simp only[Y1]|with_reducible refine X ?_ ?_|refine⟨_,_,_,rfl,?_⟩|refine⟨_,rfl,?_⟩|refine X0 ?_|refine(tq _) _ _ ?_|refine(sm _ h.nm) _ _ ?_|refine(sm _ h.ot) _ _ ?_|fail
 all_goals(refine Qb (I _ (by omega)) ?_;simp[zw,xp, *])
theorem FD {k n:Int} {nm ot:ByteArray} {ty re:Ty} {t0 t1 r0 r1 x:D} (h:Tm.Hd nm ot ty re t0 t1 r0 r1) (hc:ty.cnt<=1073741824) (I:re.cnt<=1073741824) :
  vU 100 [.dg 9 (.ag [.j k,.t nm,.t ot,.j n,t0,t1,r0,r1,x])] (zI k nm ot n ty re):=λN Q J=>by
 refine GT N _ Q λ_=>?_
 repeat' first|with_reducible intro _|simp only[Y1]|with_reducible refine X ?_ ?_|refine⟨_,_,_,rfl,?_⟩|refine⟨_,rfl,?_⟩|refine X0 ?_|refine(yJ _ _ h.ty hc) _ _ ?_|refine(yJ _ _ h.re I) _ _ ?_|refine(BP _ _ h.ty) _ _ ?_|refine(BP _ _ h.re) _ _ ?_|refine(xU _ _ _) _ _ ?_|refine(Gv h) _ _ ?_|fail
 all_goals first | (exfalso;omega) | (refine Qb (J _ (by omega)) ?_;simp[zI,ri, *];done) | (refine Qb (J _ (by omega)) ?_;simp_all[zI,ri];done) | (refine Qb (J _ (by omega)) ?_;simp_all only[zI,ri,Xi];simp_all;done)
theorem Gu {k n:Int}{nm ot:ByteArray}{t0 t1 r0 r1 x:D}:AG 101 [.dg 9 (.ag [.j k,.t nm,.t ot,.j n,t0,t1,r0,r1,x])] (GX k nm):=λN Q I=>by
 refine HQ N _ Q λ_=>?_
 repeat' first|with_reducible intro _|simp only[Y1]|with_reducible refine X ?_ ?_|refine⟨_,_,_,rfl,?_⟩|refine⟨_,rfl,?_⟩|refine X0 ?_|refine(tq _) _ _ ?_|fail
 all_goals(refine Qi (I _ (by omega)) ?_;simp[GX, *])
theorem AJ:∀(t:Tm)(d:D),t.Is d->t.G->vU 51 [.dg 9 d] t.ok:=by
 refine Tm.ind λk nm ot n ty re l ih d hd hc N Q hQ=>?_;obtain⟨t0,t1,r0,r1,a,es,c,rfl,hh,U,Y⟩:=Tm.is_mk.1 hd;have hl:=Y.len;obtain⟨g1,g2,_,g4⟩:=hc;refine Jl N _ Q λ_=>?_;have key:=up Y U (λi xs=>∀(N':Nat),N<=N'->(∀ J,N'<=J->Q (sW xs&&(zI k nm ot n ty re&&(l.length:Int)==GX k nm)) J)->wl Q N i (.ag [.j k,.t nm,.t ot,.j n,t0,t1,r0,r1,.sl a 9 es c]) N') ?_ ?_
 ·exact key N (oC _) hQ
 ·intro i aa _ N' ab O;refine qU ?_
  repeat' first|with_reducible intro _|simp only[aa,Y1]|with_reducible refine X ?_ ?_|refine⟨_,_,_,rfl,?_⟩|refine⟨_,rfl,?_⟩|refine X0 ?_|refine(FD hh (by omega) (by omega)) _ _ ?_|refine Gu _ _ ?_|fail
  all_goals(refine Qb (O _ (by omega)) ?_;simp[sW, *])
 ·intro i x xs I _ ac N' ab O;have hb:=I.b;have ae:=zy g4 I.m;refine qU ?_
  repeat' first|with_reducible intro _|simp only[I.lt,I.w,oG,Y1]|with_reducible refine X ?_ ?_|refine⟨_,_,_,rfl,?_⟩|refine⟨_,rfl,?_⟩|refine X0 ?_|refine(ih x I.m _ I.r ae) _ _ ?_|fail
  ·refine Qb (O _ (by omega)) ?_;simp[sW, *]
  ·exact ac _ (by omega) λJ h=>Qb (O J (by omega)) (by simp[sW, *])
theorem BK (t:Tm)(d:D)(h:t.Is d)(hc:t.cnt<=1073741824):vU 51 [.dg 9 d] t.ok:=AJ t d h (Tm.G_cnt t hc)
theorem yI {n a b:Int}:inB n a b=true↔a<=n/\n<=b:=by simp[inB]
def zK (k n:Int):Int:=if k=10 then n+1 else if k=11 then n - 1 else n
mutual
def Tm.lev:Tm->Int->Bool
 | .mk k _ _ _ _ _ l,n=>inB n 0 2&&sV l (zK k n)
def sV:List Tm->Int->Bool
 | [],_=>true
 | t::ts,n=>t.lev n&&sV ts n
end
theorem sq {k n m:Int}{c1 c2 c4 c5 I J O:D}(h:0<=m/\m<=2):AG 151 [.dg 9 (.ag [.j k,c1,c2,.j n,c4,c5,I,J,O]),.j m] (zK k m):=λN Q U=>by
 refine CK N _ m Q λ_=>?_;rw[i64_in (m+1) (by omega),i64_in (m - 1) (by omega)]
 repeat' first|with_reducible intro _|simp only[Y1]|with_reducible refine X ?_ ?_|refine⟨_,_,_,rfl,?_⟩|refine⟨_,rfl,?_⟩|refine X0 ?_|fail
 all_goals(refine Qi (U _ (by omega)) ?_;simp[zK, *])
theorem FE:∀(t:Tm)(d:D),t.Is d->∀ m:Int,vU 88 [.dg 9 d,.j m] (t.lev m):=by
 refine Tm.ind λk nm ot n ty re l ih d hd m N Q hQ=>?_;obtain⟨t0,t1,r0,r1,a,es,c,rfl,hh,Y,aa⟩:=Tm.is_mk.1 hd;have hl:=aa.len;refine Mw N _ m Q λ_=>?_;cases J:inB m 0 2 with
 | false=>
   repeat' first|with_reducible intro _|simp only[J,Y1]|with_reducible refine X ?_ ?_|refine⟨_,_,_,rfl,?_⟩|refine⟨_,rfl,?_⟩|refine X0 ?_|refine(xU _ _ _) _ _ ?_|fail
   exact Qb (hQ _ (by omega)) (by simp[Tm.lev,J])
 | true=>
   have hb:=yI.1 J;have key:=up aa Y (λi xs=>∀(N':Nat),N<=N'->(∀ I,N'<=I->Q (sV xs (zK k m)) I)->uT Q N m i (.ag [.j k,.t nm,.t ot,.j n,t0,t1,r0,r1,.sl a 9 es c]) N') ?_ ?_
   ·repeat' first|with_reducible intro _|simp only[J,Y1]|with_reducible refine X ?_ ?_|refine⟨_,_,_,rfl,?_⟩|refine⟨_,rfl,?_⟩|refine X0 ?_|refine(xU _ _ _) _ _ ?_|fail
    exact key _ (by omega) λI h=>Qb (hQ I (by omega)) (by simp[Tm.lev,J])
   ·intro i ab _ N' ac U;refine Bd ?_
    repeat' first|with_reducible intro _|simp only[ab,Y1]|with_reducible refine X ?_ ?_|refine⟨_,_,_,rfl,?_⟩|refine⟨_,rfl,?_⟩|refine X0 ?_|fail
    exact Qb (U _ (by omega)) (by simp[sV])
   ·intro i x xs O _ ae N' ac U;have ah:=O.b;refine Bd ?_
    repeat' first|with_reducible intro _|simp only[O.lt,O.w,oG,Y1]|with_reducible refine X ?_ ?_|refine⟨_,_,_,rfl,?_⟩|refine⟨_,rfl,?_⟩|refine X0 ?_|refine(sq hb) _ _ ?_|refine(ih x O.m _ O.r _) _ _ ?_|fail
    ·refine Qb (U _ (by omega)) ?_;simp[sV, *]
    ·exact ae _ (by omega) λI h=>Qb (U I (by omega)) (by simp[sV, *])
def uG (t:Tm)(n:Int):Bool:=t.ok&&t.lev n
theorem uF (t:Tm)(d:D)(hd:t.Is d)(hc:t.G)(m:Int):vU 42 [.dg 9 d,.j m] (uG t m):=λN Q I=>by
 refine GR N _ m Q λ_=>?_
 repeat' first|with_reducible intro _|simp only[Y1]|with_reducible refine X ?_ ?_|refine⟨_,_,_,rfl,?_⟩|refine⟨_,rfl,?_⟩|refine X0 ?_|refine(AJ t d hd hc) _ _ ?_|refine(FE t d hd m) _ _ ?_|fail
 all_goals(refine Qb (I _ (by omega)) ?_;simp[uG, *])
theorem FB (t:Tm)(d:D)(hd:t.Is d)(hc:t.cnt<=1073741824)(m:Int):vU 42 [.dg 9 d,.j m] (uG t m):=uF t d hd (Tm.G_cnt t hc) m
structure Ctx (g:List Tg) (es:List D):Prop where
 len:es.length<=4611686018427387904
 all:All2 Tg.Is g es
def Tg.ok (g:Tg):Bool:=yK g.nm&&(g.ty.valid&&inB g.lv 0 2)
def G4:List Tg->Bool
 | []=>true
 | g::I=>g.ok&&G4 I
def Gx (g:List Tg):Bool:=G4 g&&decide ((g.length:Int)<=12)
theorem qG {g:List Tg}{es:List D}(h:Ctx g es)(hc:∀ x∈g,x.ty.cnt<=1073741824)(a:Option Addr)(c:Nat):vU 41 [.sv a 4 es c] (Gx g):=λN Q hQ=>by
 have hl:=h.all.len;refine La N a es c Q λ_=>?_;have key:=up h.all h.len (λi xs=>∀(N':Nat),N<=N'->(∀ J,N'<=J->Q (G4 xs&&decide ((g.length:Int)<=12)) J)->vi Q N a es c i N') ?_ ?_
 ·exact key N (oC _) hQ
 ·intro i U _ N' Y O;refine AM ?_
  repeat' first|with_reducible intro _|simp only[U,Y1]|with_reducible refine X ?_ ?_|refine⟨_,_,_,rfl,?_⟩|refine⟨_,rfl,?_⟩|refine X0 ?_|fail
  refine Qb (O _ (by omega)) ?_;simp[G4,hl]
 ·intro i x xs I _ aa N' Y O;have hb:=I.b;obtain⟨t0,t1,hd,hs,ht⟩:=I.r;refine AM ?_
  repeat' first|with_reducible intro _|simp only[I.lt,I.w,oG,hd,Y1]|with_reducible refine X ?_ ?_|refine⟨_,_,_,rfl,?_⟩|refine⟨_,rfl,?_⟩|refine X0 ?_|refine(sm _ hs) _ _ ?_|refine(yJ _ _ ht (hc x I.m)) _ _ ?_|refine(xU _ _ _) _ _ ?_|fail
  all_goals first
   | (refine aa _ (by omega) λJ h=>Qb (O J (by omega)) ?_;simp[G4,Tg.ok, *];done)
   | (refine Qb (O _ (by omega)) ?_;simp[G4,Tg.ok, *];done)
def tg0:Tg:=⟨bytes [],tZero,0⟩
def AO (g:List Tg)(s:ByteArray):Nat->Int
 | 0 => -1
 | k+1=>if(g.getD k tg0).nm=s then k else AO g s k
def yj (g:List Tg)(s:ByteArray):Int:=AO g s g.length
theorem Fa (g:List Tg)(s:ByteArray):∀ n:Nat,AO g s n = -1\/(0<=AO g s n/\AO g s n<n)
 | 0=>.inl rfl
 | n+1=>by
   simp only[AO];split
   ·exact .inr (by omega)
   ·rcases Fa g s n with h | h
    ·exact .inl h
    ·exact .inr (by omega)
theorem YD {α:Type} {R:α->D->Prop} {l:List α} {es:List D} (h:All2 R l es) (I:es.length<=4611686018427387904) (P:Int->Prop) (U:P (-1))
  (hs:∀(i:Nat) x,At R l es i x->decide ((i:Int)≥0)=true->IntKind.i64.wrap ((i:Int) - 1)=(i:Int) - 1->P ((i:Int) - 1)->P i):P ((es.length:Int) - 1):=by
 have Y:=h.len;have key:∀ n:Nat,n<=l.length->P ((n:Int) - 1):=by
  intro n
  induction n with
  | zero=>intro _;exact U
  | succ n ih=>
    intro J;have O:l[n]?=some l[n]:=oI J;have e:((n+1:Nat):Int) - 1=n:=by omega
    rw[e];exact hs n _ ⟨nk (by omega),⟨by omega,by omega⟩,by rw[i64_in _ (by omega)];simp,h.get O,mj J,O⟩ (nk (by omega)) (i64_in _ (by omega)) (ih (by omega))
 rw[Y];exact key _ (oC _)
theorem I4 {α:Type}{l:List α}{i:Nat}{x d:α}(h:l[i]?=some x):l.getD i d=x:=by simp[oA,h]
theorem su {g:List Tg}{es:List D}(h:Ctx g es)(a:Option Addr)(c:Nat)(s:ByteArray):AG 152 [.sv a 4 es c,.str s] (yj g s):=λN Q hQ=>by
 have hl:=h.all.len;have h1:=h.len;refine J4 N a es c s Q λ_=>?_;have key:=YD h.all h.len (λm=>∀(N':Nat),N<=N'->(∀ J,N'<=J->Q (AO g s (m+1).toNat) J)->ww Q N a es c s m N') ?_ ?_
 ·rw[i64_in _ (by omega)];exact key N (oC _) λN' O=>Qi (hQ N' O) (by rw[yj,<-hl];congr 1;omega)
 ·intro N' O I;refine qi ?_
  repeat' first|with_reducible intro _|simp only[Y1]|with_reducible refine X ?_ ?_|refine⟨_,_,_,rfl,?_⟩|refine⟨_,rfl,?_⟩|refine X0 ?_|fail
  ·omega
  ·exact I _ (by assumption)
 ·intro i x U Y hw ih N' O I;have hb:=U.b;obtain⟨t0,t1,hd,hs,ht⟩:=U.r;have e1:((i:Int)+1).toNat=i+1:=by omega
  have e2:((i:Int) - 1+1).toNat=i:=by omega
  rw[e1]at I;simp only[AO,I4 U.g]at I;rw[e2]at ih;refine qi ?_
  repeat' first|with_reducible intro _|simp only[Y,hw,oG,hd,Y1]|with_reducible refine X ?_ ?_|refine⟨_,_,_,rfl,?_⟩|refine⟨_,rfl,?_⟩|refine X0 ?_|fail
  ·rename_i hx _ _;exact Qi (I _ (by omega)) (by rw[if_pos hx])
  ·rename_i hx;exact ih _ (by omega) λJ h=>Qi (I J (by omega)) (by rw[if_neg hx])
theorem Ty.is_cells {t:Ty}{d:D}(h:t.Is d):t.Is (.ag [D.cell d 0,D.cell d 1]):=by
 cases t with
 | mk k l=>obtain⟨a,es,c,rfl,_,_⟩:=Ty.is_mk.1 h;exact h
def Fw (g:List Tg)(n:Int)(x:Tg)(i:Nat):Bool:=x.ty.base&&(decide (x.lv<=n)&&decide (yj g x.nm=(i:Int)))
def sT (g:List Tg)(n:Int):List Tg->Nat->List Tg
 | [],_=>[]
 | x::xs,i=>if Fw g n x i then x::sT g n xs (i+1)else sT g n xs (i+1)
def tv (g:List Tg)(n:Int):List Tg:=sT g n g 0
theorem C4 (g:List Tg)(n:Int):∀(l:List Tg)(i:Nat),(∀ x∈sT g n l i,x∈l)/\(sT g n l i).length<=l.length
 | [],i=>by simp[sT]
 | x::xs,i=>by
   have h:=C4 g n xs (i+1);simp only[sT];split
   ·refine⟨λy hy=>?_,by simp;exact h.2⟩;rcases oL.1 hy with rfl | hy
    ·exact nT
    ·exact nu _ (h.1 y hy)
   ·exact⟨λy hy=>nu _ (h.1 y hy),by have:=h.2;simp;omega⟩
theorem AK {g:List Tg} {es:List D} (h:Ctx g es) (hg:g.length<=1073741824) (hc:∀ x∈g,x.ty.cnt<=1073741824) (a:Option Addr) (c:Nat) (n:Int) :
  ∀(N:Nat) (Q:QT [.sl 4]),(∀ a' J c' N',N<=N'->Ctx (tv g n) J->Q a' J c' N')->ACalls prog 203 [.sl 4] [.sv a 4 es c,.j n] N Q:=λN Q hQ=>by
 have hl:=h.all.len;refine HM N a es c n Q λ_=>?_;have key:=up h.all h.len (λi xs=>∀(r:List D) (m q:Nat) (N':Nat) (done:List Tg),N<=N'->m=r.length->All2 Tg.Is done r->done.length<=i->done++sT g n xs i=tv g n->yO Q N a es c n m q i r q N') ?_ ?_
 ·exact key [] 0 0 N [] (oC _) rfl rfl (oC _) rfl
 ·intro i Y hi r m q N' done aa hm O ab hd;refine rd ?_
  repeat' first|with_reducible intro _|simp only[Y,Y1]|with_reducible refine X ?_ ?_|refine⟨_,_,_,rfl,?_⟩|refine⟨_,rfl,?_⟩|refine X0 ?_|fail
  refine hQ _ _ _ _ (by omega) ⟨by have:=O.len;omega,?_⟩;simp only[sT,o7]at hd;rwa[<-hd]
 ·intro i x xs I _ U r m q N' done aa hm O ab hd;have hb:=I.b;have ae:=O.len;obtain⟨t0,t1,he,hs,ht⟩:=I.r;simp only[sT]at hd;refine rd ?_
  repeat' first|with_reducible intro _|simp only[I.lt,I.w,oG,he,Y1]|with_reducible refine X ?_ ?_|refine⟨_,_,_,rfl,?_⟩|refine⟨_,rfl,?_⟩|refine X0 ?_|refine(BJ _ _ ht) _ _ ?_|refine(su h a c _) _ _ ?_|refine(ze _ _ ht (hc x I.m)) _ _ ?_|fail
  ·rename_i N2 ah x' N3 ai hx ho _ _;have ac:Fw g n x i=true:=by simp[Fw, *]
   rw[if_pos ac]at hd;refine⟨by unfold zB;simp only[oH,mD];omega,λc2=>U _ _ _ _ (done++[x]) (by omega) rfl (O.snoc ⟨_,_,rfl,hs,Ty.is_cells hx⟩) (by simp;omega) (by simpa using hd)⟩
  all_goals(refine U _ _ _ _ done (by omega) hm O (by omega) ?_;rw[<-hd,if_neg (by simp[Fw, *])])
theorem xq {g:List Tg} {es:List D} (h:Ctx g es) (hg:g.length<=1073741824) (a:Option Addr) (c:Nat) {s:ByteArray} (hs:s.size<=4611686018427387904) {t:Ty} {d:D} (J:t.Is d) (n:Int) :
  ∀(N:Nat) (Q:QT [.sl 4]),(∀ O I U N',N<=N'->Ctx (g++[⟨s,t,n⟩]) I->Q O I U N')->ACalls prog 139 [.sl 4] [.sv a 4 es c,.str s,.dg 2 d,.j n] N Q:=λN Q Y=>by
 have hl:=h.all.len;have hb:∀ x:D,zB ([]++es) [x] 56:=λx=>by unfold zB;simp only[oa,oH,mD];omega
 have aa:zB [] es 56:=by unfold zB;simp only[oa];omega
 refine J7 N a es c s d n Q λ_ _=>?_
 repeat' first|with_reducible intro _|simp only[Y1]|with_reducible refine X ?_ ?_|refine⟨_,_,_,rfl,?_⟩|refine⟨_,rfl,?_⟩|refine X0 ?_|fail
 refine⟨hb _,λc2=>?_⟩
 repeat' first|with_reducible intro _|simp only[Y1]|with_reducible refine X ?_ ?_|refine⟨_,_,_,rfl,?_⟩|refine⟨_,rfl,?_⟩|refine X0 ?_|fail
 refine Y _ _ _ _ (by omega) ⟨by simp;omega,?_⟩;simp only[oa];exact h.all.snoc ⟨_,_,rfl,hs,Ty.is_cells J⟩
def OK (o:Option Ty)(d:D)(b:Bool):Prop:=match o with
 | some t=>b=true/\t.Is d
 | none=>b=false
def Ku (s:ByteArray):Int:=if s=bytes [38]then 2 else if s=bytes [124]then 2 else if s=bytes [33]then 2 else 1
def Fi (s:ByteArray):Ty:=if s=bytes [43]then tInt else if s=bytes [45]then tInt else if s=bytes [42]then tInt else tBool
def R1 (w:Int):List Ty->Bool
 | []=>true
 | t::ts=>decide (t.k=w)&&R1 w ts
def VJ (s:ByteArray)(ts:List Ty):Option Ty:=if R1 (Ku s) ts then some (Fi s)else none
theorem L1 {ts:List Ty} {es:List D} (h:All2 Ty.Is ts es) (hlen:es.length<=4611686018427387904) (a:Option Addr) (c:Nat) (s:ByteArray) :
  ∀(N:Nat) (Q:QT [.ag 2,.bool]),(∀ d b N',N<=N'->OK (VJ s ts) d b->(∀ x∈d.foot,N<=x)->Q d b N')->ACalls prog 206 [.ag 2,.bool] [.str s,.sv a 2 es c] N Q:=fun N Q hQ=>by
 refine Mx N s a es c Q fun _=>?_;have key:yx Q N s a es c (Ku s) (0:Nat) 0 none [] 0 N:=by
  refine up h hlen (fun i xs=>∀(N':Nat),N<=N'->R1 (Ku s) xs=R1 (Ku s) ts->yx Q N s a es c (Ku s) i 0 none [] 0 N') ?_ ?_ N (oC _) rfl
  ·intro i hlt _ N' hN' hk;refine Be ?_;have ho:VJ s ts=some (Fi s):=by rw[VJ,<-hk];rfl
   rw[ho]at hQ
   repeat' first|with_reducible intro _|simp only[hlt,Y1]|with_reducible refine X ?_ ?_|refine⟨_,_,_,rfl,?_⟩|refine⟨_,rfl,?_⟩|refine X0 ?_|refine qI _ _ ?_|refine sn _ _ ?_|fail
   all_goals
    rename_i hx ho _ _ _ _;refine hQ _ _ _ (by omega) ⟨rfl,?_⟩ fun b hb=>by have:=ho.lo b hb;omega
    have e:Fi s=tInt\/Fi s=tBool:=by unfold Fi;(repeat' split)<;>simp
    first
     | (have e:Fi s=tInt:=by unfold Fi;(repeat' split)<;>first | rfl | contradiction
        rw[e];exact hx)
     | (have e:Fi s=tBool:=by unfold Fi;(repeat' split)<;>first | rfl | contradiction
        rw[e];exact hx)
  ·intro i x xs hat _ ih2 N' hN' hk;have hb:=hat.b;cases x with
   | mk k l=>
   obtain⟨a1,es1,c1,he,_,_⟩:=Ty.is_mk.1 hat.r;refine Be ?_
   repeat' first|with_reducible intro _|simp only[hat.lt,hat.w,oG,he,Y1]|with_reducible refine X ?_ ?_|refine⟨_,_,_,rfl,?_⟩|refine⟨_,rfl,?_⟩|refine X0 ?_|fail
   ·rename_i hne _ _;refine hQ _ _ _ (by omega) ?_ (by simp[D.foot,zC]);have:R1 (Ku s) ts=false:=by rw[<-hk];simp[R1,Ty.k,hne]
    rw[VJ,this];rfl
   ·rename_i hne;exact ih2 _ hN' (by rw[<-hk];simp[R1,Ty.k,hne])
 have e:Ku s=2\/Ku s=1:=by unfold Ku;(repeat' split)<;>simp
 repeat' first|with_reducible intro _|simp only[Y1]|with_reducible refine X ?_ ?_|refine⟨_,_,_,rfl,?_⟩|refine⟨_,rfl,?_⟩|refine X0 ?_|fail
 all_goals
  first
   | (have e:Ku s=2:=by unfold Ku;(repeat' split)<;>first | rfl | contradiction
      rw[e]at key;exact key)
   | (have e:Ku s=1:=by unfold Ku;(repeat' split)<;>first | rfl | contradiction
      rw[e]at key;exact key)
def xt (k:Int)(s:ByteArray)(ts:List Ty):Option Ty:=
 if k=4 then VJ s ts
 else if k=5 then(if(ts.getD 0 tZero).k=2/\sd (ts.getD 1 tZero) (ts.getD 2 tZero)then some (ts.getD 1 tZero)else none)
 else if(ts.getD 0 tZero).k=3/\sd ((ts.getD 0 tZero).as.getD 0 tZero) (ts.getD 1 tZero)then some ((ts.getD 0 tZero).as.getD 1 tZero)else none
theorem Ty.form_len {k:Int}{l:List Ty}(h:(Ty.mk k l).valid=true):qL k l.length=true:=by simp only[Ty.valid,Ty.form,oK]at h;exact h.2.2
theorem Ty.valid_cnt {t:Ty}(h:t.valid=true):t.cnt<=30:=by simp only[Ty.valid,oK,oe]at h;exact h.1.1
theorem In {ts:List Ty} {es:List D} (h:All2 Ty.Is ts es) (O:es.length<=4611686018427387904) (a:Option Addr) (c:Nat) {k n:Int} {s:ByteArray} {c2 c4 c5 c6 c7 c8:D}
  (hv:∀ t∈ts,t.valid=true) (hk:k=4\/k=5/\ts.length=3\/k=7/\ts.length=2) :
  ∀(N:Nat) (Q:QT [.ag 2,.bool]),(∀ d b N',N<=N'->OK (xt k s ts) d b->(∀ x∈d.foot,x∈zC es\/N<=x)->Q d b N') ->
  ACalls prog 155 [.ag 2,.bool] [.dg 9 (.ag [.j k,.t s,c2,.j n,c4,c5,c6,c7,c8]),.sv a 2 es c] N Q:=λN Q hQ=>by
 refine J3 N _ a es c Q λ_ _=>?_;rcases hk with rfl | ⟨rfl,hl⟩ | ⟨rfl,hl⟩
 ·repeat' first|with_reducible intro _|simp only[Y1]|with_reducible refine X ?_ ?_|refine⟨_,_,_,rfl,?_⟩|refine⟨_,rfl,?_⟩|refine X0 ?_|refine(L1 h O a c s) _ _ ?_|fail
  ·rename_i N1 ab d b N2 ac ho ae _ _ N3 ah;exact hQ _ _ _ (by omega) (by simpa [xt]using ho) λx U=>.inr (by have:=ae x U;omega)
  all_goals(exfalso;omega)
 ·obtain⟨t0,t1,t2,rfl⟩:∃ t0 t1 t2,ts=[t0,t1,t2]:=by
   match ts,hl with
   | [t0,t1,t2],_=>exact⟨t0,t1,t2,rfl⟩
  obtain⟨d0,_,rfl,h0,d1,_,rfl,h1,d2,_,rfl,h2,rfl⟩:=h;cases t0 with
  | mk J l0=>
  obtain⟨a0,es0,c0,rfl,ai,Y⟩:=Ty.is_mk.1 h0;have hq:∀(b:Bool) (N':Nat),N<=N'->(J=2/\sd t1 t2=b\/¬J=2/\b=false)->Q d1 b N':=λb N' I hb=>by
   refine hQ _ _ _ I ?_ λx U=>.inl (by simp only[zC,oM];exact .inr (.inl U));rcases hb with⟨e1,e2⟩ | ⟨e1,rfl⟩
   ·cases b<;>simp[xt,Ty.k,e1,e2,OK,h1]
   ·simp[xt,Ty.k,e1,OK]
  repeat' first|with_reducible intro _|simp only[oJ,oN,Y1]|with_reducible refine X ?_ ?_|refine⟨_,_,_,rfl,?_⟩|refine⟨_,rfl,?_⟩|refine X0 ?_|refine(uD _ _ _ _ h1 h2) _ _ ?_|fail
  all_goals first | (exfalso;omega) | skip
  ·exact hq _ _ (by omega) (.inl ⟨by assumption,rfl⟩)
  ·exact hq _ _ (by omega) (.inr ⟨by assumption,rfl⟩)
 ·obtain⟨t0,t1,rfl⟩:∃ t0 t1,ts=[t0,t1]:=by
   match ts,hl with
   | [t0,t1],_=>exact⟨t0,t1,rfl⟩
  obtain⟨d0,_,rfl,h0,d1,_,rfl,h1,rfl⟩:=h;cases t0 with
  | mk J l0=>
  obtain⟨a0,es0,c0,rfl,ai,Y⟩:=Ty.is_mk.1 h0;have hf:=Ty.form_len (hv _ nT);have aj:=Ty.valid_cnt (hv _ nT);have hz:∀ N',N<=N'->¬(J=3/\sd (l0.getD 0 tZero) t1=true)->Q (.ag [.j 0,.sl none 2 [] 0]) false N':=λN' I hb=>by
   refine hQ _ _ _ I ?_ (by simp[D.foot,zC]);have:xt 7 s [.mk J l0,t1]=none:=by simp only[xt];rw[if_neg (by omega),if_neg (by omega)];exact if_neg hb
   rw[this];rfl
  by_cases hk:J=3
  ·subst hk;have aa:(l0.length:Int)=2:=by simpa [qL]using hf
   have aa:l0.length=2:=by omega
   obtain⟨u0,u1,rfl⟩:∃ t0 t1,l0=[t0,t1]:=by
    match l0,aa with
    | [t0,t1],_=>exact⟨t0,t1,rfl⟩
   obtain⟨x0,_,rfl,ak,x1,_,rfl,al,rfl⟩:=Y;simp only[Ty.cnt,zS]at aj
   repeat' first|with_reducible intro _|simp only[oJ,oN,Y1]|with_reducible refine X ?_ ?_|refine⟨_,_,_,rfl,?_⟩|refine⟨_,rfl,?_⟩|refine X0 ?_|refine(uD _ _ _ _ ak h1) _ _ ?_|refine(ze _ _ al (by omega)) _ _ ?_|fail
   all_goals first | (exfalso;omega) | skip
   ·rename_i he N1 ab d' N2 ac ao ho _ _ N3 ah;refine hQ _ _ _ (by omega) ?_ λx U=>.inr (by have:=ho.lo x U;omega);simp[xt,Ty.k,Ty.as,he,OK,ao]
   ·rename_i he _ _;exact hz _ (by omega) (by simp[he])
  ·repeat' first|with_reducible intro _|simp only[oJ,oN,Y1]|with_reducible refine X ?_ ?_|refine⟨_,_,_,rfl,?_⟩|refine⟨_,rfl,?_⟩|refine X0 ?_|fail
   all_goals first | (exfalso;omega) | skip
   exact hz _ (by omega) λhc=>hk hc.1
def vld (o:Option Ty):Option Ty:=match o with
 | some t=>if t.valid then some t else none
 | none=>none
def xP (k:Int)(t:Ty):Option Ty:=
 if k=10 then some (vI t)else if k=13 then(if t.base then some (vI t)else none)else if t.k=4 then some (t.as.getD 0 tZero)else none
def DB (g:List Tg)(s:ByteArray)(n:Int):Option Ty:=
 if yj g s<0 then none else if(g.getD (yj g s).toNat tg0).lv=n then some (g.getD (yj g s).toNat tg0).ty else none
mutual
def Tm.type:Tm->List Tg->Int->Option Ty
 | .mk k nm ot _ ty re l,g,n=>vld (
   if k=1 then DB g nm n
   else if k=2 then some tInt
   else if k=3 then some tBool
   else if k=6 then(match uj l 0 (g++[⟨nm,ty,n⟩]) n with | some b=>some (wa ty b) | none=>none)
   else if k=8 then(match uj l 0 g n with | some a=>uj l 1 (g++[⟨nm,a,n⟩]) n | none=>none)
   else if k=9 then(match uj l 0 ((g++[⟨nm,wa ty re,n⟩])++[⟨ot,ty,n⟩]) n with | some b=>if sd b re then some (wa ty re)else none | none=>none)
   else if k=10\/k=11\/k=12\/k=13 then(match uj l 0 (if k=12 then tv g n else g) (zK k n)with | some t=>xP k t | none=>none)
   else(match yQ l g n with | some ts=>xt k nm ts | none=>none))
def uj:List Tm->Nat->List Tg->Int->Option Ty
 | [],_,_,_=>none
 | t::_,0,g,n=>t.type g n
 | _::ts,i+1,g,n=>uj ts i g n
def yQ:List Tm->List Tg->Int->Option (List Ty)
 | [],_,_=>some []
 | t::ts,g,n=>match t.type g n with
   | some u=>(match yQ ts g n with | some us=>some (u::us) | none=>none)
   | none=>none
end
theorem TZ {o:Option Ty}{t:Ty}(h:vld o=some t):o=some t/\t.valid=true:=by
 cases o with
 | none=>cases h
 | some u=>
   simp only[vld]at h;split at h
   ·cases h;exact⟨rfl,by assumption⟩
   ·cases h
theorem Tm.type_valid {e:Tm}{g:List Tg}{n:Int}{t:Ty}(h:e.type g n=some t):t.valid=true:=by
 cases e with
 | mk k nm ot m ty re l=>simp only[Tm.type]at h;exact(TZ h).2
theorem HW:∀ {l:List Tm}{g:List Tg}{n:Int}{ts:List Ty},yQ l g n=some ts->ts.length=l.length/\∀ t∈ts,t.valid=true
 | [],g,n,ts,h=>by simp[yQ]at h;subst h;simp
 | e :: es,g,n,ts,h=>by
   simp only[yQ]at h;split at h
   ·rename_i u J;split at h
    ·rename_i us I;cases h
     have:=HW I
     refine⟨by simp[this.1],λt ht=>?_⟩;rcases oL.1 ht with rfl | ht
     ·exact Tm.type_valid J
     ·exact this.2 t ht
    ·cases h
   ·cases h
structure Pre (g:List Tg) (e:Tm) (n:Int):Prop where
 ok:e.ok=true
 lev:e.lev n=true
 len:g.length+2*e.dp<=1073741824
 ty:∀ x∈g,x.ty.cnt<=64
structure Node (k:Int) (nm ot:ByteArray) (n:Int) (ty re:Ty) (l:List Tm):Prop where
 f:zI k nm ot n ty re=true
 ar:(l.length:Int)=GX k nm
 sub:∀ x∈l,x.ok=true
theorem LK:∀ {l:List Tm}{x:Tm},sW l=true->x∈l->x.ok=true
 | t::ts,x,h,hx=>by
   simp only[sW,oK]at h;rcases oL.1 hx with rfl | hx
   ·exact h.1
   ·exact LK h.2 hx
theorem IC:∀ {l:List Tm}{n:Int}{x:Tm},sV l n=true->x∈l->x.lev n=true
 | t::ts,n,x,h,hx=>by
   simp only[sV,oK]at h;rcases oL.1 hx with rfl | hx
   ·exact h.1
   ·exact IC h.2 hx
theorem yk {k:Int}{nm ot:ByteArray}{n:Int}{ty re:Ty}{l:List Tm}(h:(Tm.mk k nm ot n ty re l).ok=true):Node k nm ot n ty re l:=by simp only[Tm.ok,oK]at h;exact⟨h.2.1,by simpa using h.2.2,λx I=>LK h.1 I⟩
theorem Node.vt {k n:Int}{nm ot:ByteArray}{ty re:Ty}{l:List Tm}(h:Node k nm ot n ty re l)(I:k=6\/k=9):ty.valid=true:=by
 have:=h.f
 have e:ri k=true:=by rcases I with rfl | rfl<;>rfl
 simp only[zI,oK,e]at this;simpa using this.1
theorem Node.vr {k n:Int}{nm ot:ByteArray}{ty re:Ty}{l:List Tm}(h:Node k nm ot n ty re l)(I:k=9):re.valid=true:=by
 have:=h.f
 subst I;simp only[zI,oK]at this;simpa using this.2.2.1
theorem Ey {k:Int}{nm:ByteArray}(h:0<=GX k nm):k=1\/k=2\/k=3\/k=4\/k=5\/k=6\/k=7\/k=8\/k=9\/k=10\/k=11\/k=12\/k=13:=by
 unfold GX at h
 (repeat' split at h)<;>omega
theorem Ty.cnt_pos (t:Ty):1<=t.cnt:=by cases t;simp only[Ty.cnt];omega
theorem Pre.sub {g g':List Tg}{k:Int}{nm ot:ByteArray}{m:Int}{ty re:Ty}{l:List Tm}{n:Int}{x:Tm}(h:Pre g (.mk k nm ot m ty re l) n)(I:x∈l)(U:g'.length<=g.length+2)(J:∀ y∈g',y.ty.cnt<=64):Pre g' x (zK k n):=by
 have O:=h.len;have Y:=vb I;simp only[Tm.dp]at O;refine⟨(yk h.ok).sub x I,?_,by omega,J⟩
 have:=h.lev
 simp only[Tm.lev,oK]at this;exact IC this.2 I
theorem Lq (k:Int)(nm:ByteArray):GX k nm<=3:=by
 unfold GX
 (repeat' split)<;>first | omega | (unfold sc;(repeat' split)<;>omega)
theorem Pre.len1 {g:List Tg}{e:Tm}{n:Int}(h:Pre g e n):g.length+2<=1073741824:=by have I:=h.len;have J:=Tm.dp_pos e;omega
theorem Pre.lv {g:List Tg}{e:Tm}{n:Int}(h:Pre g e n):0<=n/\n<=2:=by
 have:=h.lev
 cases e;simp only[Tm.lev,oK]at this;exact yI.1 this.1
theorem qx {g:List Tg}(h:∀ y∈g,y.ty.cnt<=64){x:Tg}(I:x.ty.cnt<=64):∀ y∈g++[x],y.ty.cnt<=64:=λy hy=>by
 rcases oM.1 hy with hy | hy
 ·exact h y hy
 ·rw[o5]at hy;subst hy;exact I
theorem JT (e:Tm)(g:List Tg)(n:Int):((e.type g n).getD tZero).cnt<=30:=by
 cases h:e.type g n with
 | none=>simp[tZero,Ty.cnt,zS]
 | some t=>simpa using Ty.valid_cnt (Tm.type_valid h)
def Vo (f:FuncId)(args:List PV)(o:Option Ty):Prop:=∀(N:Nat) (Q:QT [.ag 2,.bool]),(∀ d N',N<=N'->(o.getD tZero).Is d->Q d o.isSome N')->ACalls prog f [.ag 2,.bool] args N Q
def V8 (f:FuncId)(args:List PV)(o:Option Ty):Prop:=∀(N:Nat) (Q:QT [.ag 2,.bool]),(∀ d N',N<=N'->(∀ t,o=some t->t.Is d)->Q d o.isSome N')->ACalls prog f [.ag 2,.bool] args N Q
def IH (l:List Tm):Prop:=∀ x∈l,∀ d,x.Is d->∀ g es a c n,Pre g x n->Ctx g es->Vo 43 [.sv a 4 es c,.dg 9 d,.j n] (x.type g n)
theorem Ub {nm ot:ByteArray} {m n:Int} {ty re:Ty} {e0:Tm} {t0 t1 r0 r1 d0:D} {a1 a:Option Addr} {c1 c:Nat} {g:List Tg} {es:List D} (ih:IH [e0]) (O:Tm.Hd nm ot ty re t0 t1 r0 r1) (h0:e0.Is d0)
  (pre:Pre g (.mk 6 nm ot m ty re [e0]) n) (U:Ctx g es) :
  V8 153 [.sv a 4 es c,.dg 9 (.ag [.j 6,.t nm,.t ot,.j m,t0,t1,r0,r1,.sl a1 9 [d0] c1]),.j n] (match e0.type (g++[⟨nm,ty,n⟩]) n with | some b=>some (wa ty b) | none=>none):=λN Q J=>by
 have Y:=pre.len1;have hv:=Ty.valid_cnt ((yk pre.ok).vt (.inl rfl));have hp:Pre (g++[⟨nm,ty,n⟩]) e0 n:=by simpa [zK]using pre.sub (x:=e0) (by simp) (g':=g++[⟨nm,ty,n⟩]) (by simp) (qx pre.ty (show ty.cnt<=64 by omega))
 have hc:=JT e0 (g++[⟨nm,ty,n⟩]) n;refine rJ N a es c _ n Q λ_ _=>?_
 repeat' first|with_reducible intro _|simp only[oJ,oN,Y1]|with_reducible refine X ?_ ?_|refine⟨_,_,_,rfl,?_⟩|refine⟨_,rfl,?_⟩|refine X0 ?_|refine(xq U (by omega) a c O.nm O.ty n) _ _ ?_|refine(ih e0 nT d0 h0 (g++[⟨nm,ty,n⟩]) _ _ _ n hp (by assumption)) _ _ ?_|refine(qH ty ((e0.type (g++[⟨nm,ty,n⟩]) n).getD tZero) _ _ O.ty (by assumption) (by omega) (by omega)) _ _ ?_|fail
 all_goals first | (exfalso;omega) | skip
 rename_i x1 N6 aa I ho _ _ N7 ab;cases h:e0.type (g++[⟨nm,ty,n⟩]) n with
 | none=>rw[h]at J;exact J _ _ (by omega) (by simp)
 | some b=>rw[h]at J I;exact J _ _ (by omega) (by simpa using I)
theorem Uc {nm ot:ByteArray} {m n:Int} {ty re:Ty} {e0 e1:Tm} {t0 t1 r0 r1 d0 d1:D} {a1 a:Option Addr} {c1 c:Nat} {g:List Tg} {es:List D} (Y:IH [e0,e1]) (hh:Tm.Hd nm ot ty re t0 t1 r0 r1) (h0:e0.Is d0) (h1:e1.Is d1)
  (pre:Pre g (.mk 8 nm ot m ty re [e0,e1]) n) (J:Ctx g es) :
  V8 153 [.sv a 4 es c,.dg 9 (.ag [.j 8,.t nm,.t ot,.j m,t0,t1,r0,r1,.sl a1 9 [d0,d1] c1]),.j n] (match e0.type g n with | some b=>e1.type (g++[⟨nm,b,n⟩]) n | none=>none):=λN Q O=>by
 have aa:=pre.len1;have hp:Pre g e0 n:=by simpa [zK]using pre.sub (x:=e0) (by simp) (g':=g) (by simp) pre.ty
 have hc:=JT e0 g n;have I:=Y e0 nT d0 h0 g es a c n hp J;refine rJ N a es c _ n Q λ_ _=>?_;cases h:e0.type g n with
 | none=>
   rw[h]at O I
   repeat' first|with_reducible intro _|simp only[oJ,oN,ma,Y1]|with_reducible refine X ?_ ?_|refine⟨_,_,_,rfl,?_⟩|refine⟨_,rfl,?_⟩|refine X0 ?_|refine I _ _ ?_|fail
   all_goals first | (exfalso;omega) | skip
   exact O _ _ (by omega) (by simp)
 | some b=>
   rw[h]at O hc I;dsimp only at O;have U:Pre (g++[⟨nm,b,n⟩]) e1 n:=by simpa [zK]using pre.sub (x:=e1) (by simp) (g':=g++[⟨nm,b,n⟩]) (by simp) (qx pre.ty (by simpa using oR hc (by omega)))
   repeat' first|with_reducible intro _|simp only[oJ,oN,md,Y1]|with_reducible refine X ?_ ?_|refine⟨_,_,_,rfl,?_⟩|refine⟨_,rfl,?_⟩|refine X0 ?_|refine I _ _ ?_|refine(xq J (by omega) a c hh.nm (t:=b) (by assumption) n) _ _ ?_|refine(Y e1 (by simp) d1 h1 (g++[⟨nm,b,n⟩]) _ _ _ n U (by assumption)) _ _ ?_|fail
   all_goals first | (exfalso;omega) | skip
   rename_i hx _ _ _ _;refine O _ _ (by omega) λt ht=>?_;rw[ht]at hx;exact hx
theorem Ud {nm ot:ByteArray} {m n:Int} {ty re:Ty} {e0:Tm} {t0 t1 r0 r1 d0:D} {a1 a:Option Addr} {c1 c:Nat} {g:List Tg} {es:List D} (ih:IH [e0]) (I:Tm.Hd nm ot ty re t0 t1 r0 r1) (h0:e0.Is d0)
  (pre:Pre g (.mk 9 nm ot m ty re [e0]) n) (U:Ctx g es) :
  V8 153 [.sv a 4 es c,.dg 9 (.ag [.j 9,.t nm,.t ot,.j m,t0,t1,r0,r1,.sl a1 9 [d0] c1]),.j n]
   (match e0.type ((g++[⟨nm,wa ty re,n⟩])++[⟨ot,ty,n⟩]) n with | some b=>if sd b re then some (wa ty re)else none | none=>none):=λN Q J=>by
 have ab:=pre.len1;have hv:=Ty.valid_cnt ((yk pre.ok).vt (.inr rfl));have hr:=Ty.valid_cnt ((yk pre.ok).vr rfl);have aa:=qx (x:=⟨nm,wa ty re,n⟩) pre.ty (show(wa ty re).cnt<=64 by simp only[wa,Ty.cnt,zS];omega);have hp:=pre.sub (x:=e0) (by simp) (g':=(g++[⟨nm,wa ty re,n⟩])++[⟨ot,ty,n⟩]) (by simp) (qx aa (show ty.cnt<=64 by omega));rw[show zK 9 n=n by simp[zK]]at hp;have ac:1<=(Tm.mk 9 nm ot m ty re [e0]).cnt:=by simp only[Tm.cnt];omega
 have Y:(g++[⟨nm,wa ty re,n⟩]:List Tg).length<=1073741824:=by rw[oH,mD];omega
 have O:∀ es a c,Ctx ((g++[⟨nm,wa ty re,n⟩])++[⟨ot,ty,n⟩]) es->Vo 43 [.sv a 4 es c,.dg 9 d0,.j n] (e0.type ((g++[⟨nm,wa ty re,n⟩])++[⟨ot,ty,n⟩]) n):=λes a c hc=>ih e0 nT d0 h0 _ es a c n hp hc;refine rJ N a es c _ n Q λ_ _=>?_;cases h:e0.type ((g++[⟨nm,wa ty re,n⟩])++[⟨ot,ty,n⟩]) n with
 | none=>
   rw[h]at J O;dsimp only at J
   repeat' first|with_reducible intro _|simp only[oJ,oN,ma,Y1]|with_reducible refine X ?_ ?_|refine⟨_,_,_,rfl,?_⟩|refine⟨_,rfl,?_⟩|refine X0 ?_|refine(qH ty re _ _ I.ty I.re (by omega) (by omega)) _ _ ?_|refine(xq U (by omega) a c I.nm (t:=wa ty re) (by assumption) n) _ _ ?_|refine(xq (g:=g++[⟨nm,wa ty re,n⟩]) (by assumption) Y _ _ I.ot I.ty n) _ _ ?_|refine(O _ _ _ (by assumption)) _ _ ?_|fail
   all_goals first | (exfalso;omega) | skip
   exact J _ _ (by omega) (by simp)
 | some b=>
   rw[h]at J O;dsimp only at J
   repeat' first|with_reducible intro _|simp only[oJ,oN,md,Y1]|with_reducible refine X ?_ ?_|refine⟨_,_,_,rfl,?_⟩|refine⟨_,rfl,?_⟩|refine X0 ?_|refine(qH ty re _ _ I.ty I.re (by omega) (by omega)) _ _ ?_|refine(xq U (by omega) a c I.nm (t:=wa ty re) (by assumption) n) _ _ ?_|refine(xq (g:=g++[⟨nm,wa ty re,n⟩]) (by assumption) Y _ _ I.ot I.ty n) _ _ ?_|refine(O _ _ _ (by assumption)) _ _ ?_|refine(uD b re _ _ (by assumption) I.re) _ _ ?_|fail
   all_goals first | (exfalso;omega) | skip
   cases he:sd b re with
   | false=>rw[he]at J;exact J _ _ (by omega) (by simp)
   | true=>rw[he]at J;exact J _ _ (by omega) λt ht=>by cases ht;assumption
theorem Ug {k:Int} {nm ot:ByteArray} {m n:Int} {ty re:Ty} {e0:Tm} {t0 t1 r0 r1 d0:D} {a1 a:Option Addr} {c1 c:Nat} {g:List Tg} {es:List D} (hk:k=10\/k=11\/k=12\/k=13) (ih:IH [e0]) (h0:e0.Is d0)
  (pre:Pre g (.mk k nm ot m ty re [e0]) n) (ae:Ctx g es) :
  V8 154 [.sv a 4 es c,.dg 9 (.ag [.j k,.t nm,.t ot,.j m,t0,t1,r0,r1,.sl a1 9 [d0] c1]),.j n]
   (match e0.type (if k=12 then tv g n else g) (zK k n)with | some t=>xP k t | none=>none):=λN Q I=>by
 have ao:=pre.len1;have ah:=C4 g n g 0;have hp:=pre.sub (x:=e0) (by simp) (g':=if k=12 then tv g n else g) (by split<;>simp[tv];omega) (by split;exact λy hy=>pre.ty y (ah.1 y hy);exact pre.ty);have Y:∀ es a c,Ctx (if k=12 then tv g n else g) es->Vo 43 [.sv a 4 es c,.dg 9 d0,.j (zK k n)] (e0.type (if k=12 then tv g n else g) (zK k n)):=λes a c hc=>ih e0 nT d0 h0 _ es a c _ hp hc;have ai:∀ x∈g,x.ty.cnt<=1073741824:=λx hx=>oR (pre.ty x hx) (by omega);refine HU N a es c _ n Q λ_ _=>?_;cases h:e0.type (if k=12 then tv g n else g) (zK k n)with
 | none=>
   rw[h]at I Y;dsimp only at I
   repeat' first|with_reducible intro _|simp only[oJ,oN,ma,Y1]|with_reducible refine X ?_ ?_|refine⟨_,_,_,rfl,?_⟩|refine⟨_,rfl,?_⟩|refine X0 ?_|refine(AK ae (by omega) ai a c n) _ _ ?_|refine(sq pre.lv) _ _ ?_|refine(Y _ _ _ (by first | (rw[if_pos (by assumption)];assumption) | (rw[if_neg (by assumption)];assumption))) _ _ ?_|fail
   all_goals first | (exfalso;omega) | skip
   all_goals exact I _ _ (by omega) (by simp)
 | some t=>
   have hv:=Tm.type_valid h;rw[h]at I Y;dsimp only at I;cases t with
   | mk J l0=>
   have hf:=Ty.form_len hv;have aj:=Ty.valid_cnt hv
   repeat' first|with_reducible intro _|simp only[oJ,oN,md,Y1]|with_reducible refine X ?_ ?_|refine⟨_,_,_,rfl,?_⟩|refine⟨_,rfl,?_⟩|refine X0 ?_|refine(AK ae (by omega) ai a c n) _ _ ?_|refine(sq pre.lv) _ _ ?_|refine(Y _ _ _ (by first | (rw[if_pos (by assumption)];assumption) | (rw[if_neg (by assumption)];assumption))) _ _ ?_|refine(Il (.mk J l0) _ (by assumption) (by omega)) _ _ ?_|refine(BJ (.mk J l0) _ (by assumption)) _ _ ?_|fail
   all_goals first | (exfalso;omega) | skip
   ·rename_i hd _ _ O U;obtain⟨a2,ak,c2,rfl,al,aa⟩:=Ty.is_mk.1 hd;by_cases h4:J=4
    ·subst h4;have ab:(l0.length:Int)=1:=by simpa [qL]using hf
     obtain⟨u,rfl⟩:∃ u,l0=[u]:=by
      match l0,ab with
      | [u],_=>exact⟨u,rfl⟩
      | [],h=>simp at h
      | _::_::_,h=>simp at h;omega
     obtain⟨x0,_,rfl,ac,rfl⟩:=aa;simp only[Ty.cnt,zS]at aj;have hs:xP k (.mk 4 [u])=some u:=by simp[xP,O,U,Ty.k,Ty.as]
     rw[hs]at I
     repeat' first|with_reducible intro _|simp only[oJ,oN,Y1]|with_reducible refine X ?_ ?_|refine⟨_,_,_,rfl,?_⟩|refine⟨_,rfl,?_⟩|refine X0 ?_|refine(ze u _ ac (by omega)) _ _ ?_|fail
     all_goals first | (exfalso;omega) | skip
     exact I _ _ (by omega) λt ht=>by cases ht;assumption
    ·have hs:xP k (.mk J l0)=none:=by simp[xP,O,U,Ty.k,h4]
     rw[hs]at I
     repeat' first|with_reducible intro _|simp only[oJ,oN,Y1]|with_reducible refine X ?_ ?_|refine⟨_,_,_,rfl,?_⟩|refine⟨_,rfl,?_⟩|refine X0 ?_|fail
     all_goals first | (exfalso;omega) | skip
     exact I _ _ (by omega) (by simp)
   ·have hs:xP k (.mk J l0)=some (vI (.mk J l0)):=by rw[xP,if_pos (by assumption)]
    rw[hs]at I;exact I _ _ (by omega) λt ht=>by cases ht;assumption
   ·have hs:xP k (.mk J l0)=if(Ty.mk J l0).base then some (vI (.mk J l0))else none:=by rw[xP,if_neg (by assumption),if_pos (by assumption)]
    rw[hs]at I;cases hb:(Ty.mk J l0).base with
    | false=>rw[hb]at I;exact I _ _ (by omega) (by simp)
    | true=>rw[hb]at I;exact I _ _ (by omega) λt ht=>by cases ht;assumption
   ·rename_i hd _ _ O U;obtain⟨a2,ak,c2,rfl,al,aa⟩:=Ty.is_mk.1 hd;by_cases h4:J=4
    ·subst h4;have ab:(l0.length:Int)=1:=by simpa [qL]using hf
     obtain⟨u,rfl⟩:∃ u,l0=[u]:=by
      match l0,ab with
      | [u],_=>exact⟨u,rfl⟩
      | [],h=>simp at h
      | _::_::_,h=>simp at h;omega
     obtain⟨x0,_,rfl,ac,rfl⟩:=aa;simp only[Ty.cnt,zS]at aj;have hs:xP k (.mk 4 [u])=some u:=by simp[xP,O,U,Ty.k,Ty.as]
     rw[hs]at I
     repeat' first|with_reducible intro _|simp only[oJ,oN,Y1]|with_reducible refine X ?_ ?_|refine⟨_,_,_,rfl,?_⟩|refine⟨_,rfl,?_⟩|refine X0 ?_|refine(ze u _ ac (by omega)) _ _ ?_|fail
     all_goals first | (exfalso;omega) | skip
     exact I _ _ (by omega) λt ht=>by cases ht;assumption
    ·have hs:xP k (.mk J l0)=none:=by simp[xP,O,U,Ty.k,h4]
     rw[hs]at I
     repeat' first|with_reducible intro _|simp only[oJ,oN,Y1]|with_reducible refine X ?_ ?_|refine⟨_,_,_,rfl,?_⟩|refine⟨_,rfl,?_⟩|refine X0 ?_|fail
     all_goals first | (exfalso;omega) | skip
     exact I _ _ (by omega) (by simp)
def Tm.raw:Tm->List Tg->Int->Option Ty
 | .mk k nm ot _ ty re l,g,n=>
   if k=1 then DB g nm n
   else if k=2 then some tInt
   else if k=3 then some tBool
   else if k=6 then(match uj l 0 (g++[⟨nm,ty,n⟩]) n with | some b=>some (wa ty b) | none=>none)
   else if k=8 then(match uj l 0 g n with | some a=>uj l 1 (g++[⟨nm,a,n⟩]) n | none=>none)
   else if k=9 then(match uj l 0 ((g++[⟨nm,wa ty re,n⟩])++[⟨ot,ty,n⟩]) n with | some b=>if sd b re then some (wa ty re)else none | none=>none)
   else if k=10\/k=11\/k=12\/k=13 then(match uj l 0 (if k=12 then tv g n else g) (zK k n)with | some t=>xP k t | none=>none)
   else(match yQ l g n with | some ts=>xt k nm ts | none=>none)
theorem Tm.type_eq (e:Tm)(g:List Tg)(n:Int):e.type g n=vld (e.raw g n):=by cases e;simp only[Tm.type,Tm.raw]<;>rfl
theorem Wp {a:Option Addr}{r:List D}{d:D}{N:Nat}(ha:ApA a r)(hb:vN N [a])(h:∀ x∈d.foot,x∈zC r\/N<=x):Off [a] d:=by
 intro a' I ad J O;rw[o5]at I;subst I;rcases h _ O with h | h
 ·have:∀ r:List D,ad.block∈zC r->∃ d∈r,ad.block∈d.foot:=by
   intro r
   induction r with
   | nil=>intro h;simp[zC]at h
   | cons x r ih=>
     intro h;simp only[zC,oM]at h;rcases h with h | h
     ·exact⟨x,by simp,h⟩
     ·obtain⟨d,hd,O⟩:=ih h;exact⟨d,by simp[hd],O⟩
  obtain⟨d',U,Y⟩:=this r h;exact ha ad J d' U Y
 ·have:=hb a' (by simp) ad J
  omega
theorem Pl {k : Int} {nm ot : ByteArray} {m n:Int} {ty re:Ty} {l:List Tm} {t0 t1 r0 r1:D} {es1:List D} {a1 a:Option Addr} {c1 c:Nat} {g:List Tg} {es:List D} (hk:k=4\/k=5\/k=7) (ih:IH l) (h0:All2 Tm.Is l es1) (hl1:es1.length<=4611686018427387904)
  (pre:Pre g (.mk k nm ot m ty re l) n) (ctx:Ctx g es) (N:Nat) (Q:QT [.ag 2,.bool]) (hQ:∀ d N',N<=N'->(∀ t,Tm.raw (.mk k nm ot m ty re l) g n=some t->t.Is d)->Q d (Tm.raw (.mk k nm ot m ty re l) g n).isSome N') :
  xV Q N a es c n 0 0 (0:Nat) (.ag [.j k,.t nm,.t ot,.j m,t0,t1,r0,r1,.sl a1 9 es1 c1]) 0 none [] 0 [] 0 N:=by
 have hlen:=pre.len1;have hln:=h0.len;have nd:=yk pre.ok;have har:=nd.ar;have har2:=Lq k nm;have hraw:Tm.raw (.mk k nm ot m ty re l) g n=(match yQ l g n with | some ts=>xt k nm ts | none=>none):=by simp only[Tm.raw];rw[if_neg (by omega),if_neg (by omega),if_neg (by omega),if_neg (by omega),if_neg (by omega),if_neg (by omega),if_neg (by omega)]
 rw[hraw]at hQ;refine up h0 hl1 (fun i xs=>∀(r:List D) (q p:Nat) (N':Nat) (ts:List Ty),N<=N'->p=r.length->All2 Ty.Is ts r->ts.length=i->(∀ t∈ts,t.valid=true) ->
  yQ l g n=(match yQ xs g n with | some us=>some (ts++us) | none=>none) ->
  xV Q N a es c n p q i (.ag [.j k,.t nm,.t ot,.j m,t0,t1,r0,r1,.sl a1 9 es1 c1]) 0 none [] 0 r q N') ?_ ?_ [] 0 0 N [] (oC _) rfl rfl rfl (by simp) ?_
 ·intro i hlt hi r q p N' ts hN' hp hr hti hv hargs;have hrl:=hr.len;simp only[yQ,o7]at hargs;rw[hargs]at hQ;dsimp only at hQ;have hk2:k=4\/k=5/\ts.length=3\/k=7/\ts.length=2:=by
   have:=nd.ar
   rcases hk with rfl | rfl | rfl
   ·exact .inl rfl
   ·exact .inr (.inl ⟨rfl, by have:(l.length:Int)=3:=this
                              omega⟩)
   ·exact .inr (.inr ⟨rfl, by have:(l.length:Int)=2:=this
                              omega⟩)
  refine rh ?_
  repeat' first|with_reducible intro _|simp only[hlt,Y1]|with_reducible refine X ?_ ?_|refine⟨_,_,_,rfl,?_⟩|refine⟨_,rfl,?_⟩|refine X0 ?_|refine(In hr (by omega) _ _ hv hk2) _ _ ?_|fail
  rename_i a2 hap hoff N4 hN4 hba d b N5 hN5 ho hfo _;refine⟨Wp hap hba hfo,fun _ N6 hN6=>?_⟩;cases h:xt k nm ts with
  | none=>rw[h]at ho hQ;simp only[OK]at ho;subst ho;exact hQ _ _ (by omega) (by simp)
  | some t=>rw[h]at ho hQ;obtain⟨rfl,ho⟩:=ho;exact hQ _ _ (by omega) fun t ht=>by cases ht;exact ho
 ·intro i x xs hat _ ih2 r q p N' ts hN' hp hr hti hv hargs;have hb:=hat.b;have hrl:=hr.len;have hpx:=pre.sub hat.m (g':=g) (by omega) pre.ty;rw[show zK k n=n by simp only[zK];rw[if_neg (by omega),if_neg (by omega)]]at hpx;have ih0:=ih x hat.m _ hat.r g es a c n hpx ctx;simp only[yQ]at hargs;refine rh ?_;cases h:x.type g n with
  | none=>
    rw[h]at ih0 hargs;dsimp only at hargs;rw[hargs]at hQ
    repeat' first|with_reducible intro _|simp only[hat.lt,hat.w,oG,ma,Y1]|with_reducible refine X ?_ ?_|refine⟨_,_,_,rfl,?_⟩|refine⟨_,rfl,?_⟩|refine X0 ?_|refine ih0 _ _ ?_|fail
    all_goals first | (exfalso;omega) | skip
    exact hQ _ _ (by omega) (by simp)
  | some t=>
    have hvt:=Tm.type_valid h;rw[h]at ih0 hargs;dsimp only at hargs
    repeat' first|with_reducible intro _|simp only[hat.lt,hat.w,oG,md,Y1]|with_reducible refine X ?_ ?_|refine⟨_,_,_,rfl,?_⟩|refine⟨_,rfl,?_⟩|refine X0 ?_|refine ih0 _ _ ?_|fail
    all_goals first | (exfalso;omega) | skip
    rename_i N2 hN2 d N3 hN3 hd _ _;refine⟨by unfold zB;simp only[oH,mD];omega,fun c2=>ih2 _ _ _ _ (ts++[t]) (by omega) rfl (hr.snoc hd) (by simp[hti]) (fun u hu=>?_) ?_⟩
    ·rcases oM.1 hu with hu | hu
     ·exact hv u hu
     ·rw[o5]at hu;subst hu;exact hvt
    ·rw[hargs];cases yQ xs g n<;>simp
 ·cases yQ l g n<;>simp
theorem Da {α:Type}{l:List α}(h:l.length=1):∃ a,l=[a]:=by
 match l,h with
 | [a],_=>exact⟨a,rfl⟩
theorem OA {α:Type}{l:List α}(h:l.length=2):∃ a b,l=[a,b]:=by
 match l,h with
 | [a,b],_=>exact⟨a,b,rfl⟩
theorem Ip {e:Tm} {d:D} (he:e.Is d) (ih:match e with | .mk _ _ _ _ _ _ l=>IH l) {g:List Tg} {es:List D} {a:Option Addr} {c:Nat} {n:Int} (pre:Pre g e n) (ctx:Ctx g es) :
  V8 89 [.sv a 4 es c,.dg 9 d,.j n] (e.raw g n):=fun N Q hQ=>by
 cases e with
 | mk k nm ot m ty re l=>
 dsimp only at ih;obtain⟨t0,t1,r0,r1,a1,es1,c1,rfl,hh,hlen1,hes1⟩:=Tm.is_mk.1 he;have hl:=hes1.len;have hl2:=ctx.all.len;have nd:=yk pre.ok;have har:=nd.ar;have hkk:=Ey (k:=k) (nm:=nm) (by omega);refine J5 N a es c _ n Q fun _ _=>?_;rcases hkk with rfl | rfl | rfl | h | h | rfl | h | rfl | rfl | h | h | h | h
 ·-- a variable
  have hraw:Tm.raw (.mk 1 nm ot m ty re l) g n=DB g nm n:=by simp[Tm.raw]
  rw[hraw]at hQ;rcases Fa g nm g.length with hlx | hlx
  ·have hlx:yj g nm = -1:=hlx;have:DB g nm n=none:=by simp[DB,hlx]
   rw[this]at hQ
   repeat' first|with_reducible intro _|simp only[hlx,Y1]|with_reducible refine X ?_ ?_|refine⟨_,_,_,rfl,?_⟩|refine⟨_,rfl,?_⟩|refine X0 ?_|refine(su ctx a c nm) _ _ ?_|fail
   all_goals first | (exfalso;omega) | skip
   exact hQ _ _ (by omega) (by simp)
  ·have hlx:0<=yj g nm/\yj g nm<g.length:=hlx;have hg:g[(yj g nm).toNat]?=some g[(yj g nm).toNat]:=oI (by omega);have hx:=ctx.all.get hg;have hgd:g.getD (yj g nm).toNat tg0=g[(yj g nm).toNat]:=I4 hg;obtain⟨u0,u1,hd,hs,ht⟩:=hx;have hm:g[(yj g nm).toNat]∈g:=mj _;have hcn:=pre.ty _ hm;have:DB g nm n=if g[(yj g nm).toNat].lv=n then some g[(yj g nm).toNat].ty else none:=by rw[DB,if_neg (by omega),hgd]
   rw[this]at hQ;generalize g[(yj g nm).toNat]=x at *
   repeat' first|with_reducible intro _|simp only[hd,Y1]|with_reducible refine X ?_ ?_|refine⟨_,_,_,rfl,?_⟩|refine⟨_,rfl,?_⟩|refine X0 ?_|refine(su ctx a c nm) _ _ ?_|refine(ze _ _ ht (by omega)) _ _ ?_|fail
   all_goals first | (exfalso;omega) | skip
   ·rw[if_neg (by assumption)]at hQ;exact hQ _ _ (by omega) (by simp)
   ·rw[if_pos (by assumption)]at hQ;exact hQ _ _ (by omega) fun t ht=>by cases ht;assumption
 ·have hraw:Tm.raw (.mk 2 nm ot m ty re l) g n=some tInt:=by simp[Tm.raw]
  rw[hraw]at hQ
  repeat' first|with_reducible intro _|simp only[Y1]|with_reducible refine X ?_ ?_|refine⟨_,_,_,rfl,?_⟩|refine⟨_,rfl,?_⟩|refine X0 ?_|refine qI _ _ ?_|fail
  all_goals first | (exfalso;omega) | skip
  exact hQ _ _ (by omega) fun t ht=>by cases ht;assumption
 ·have hraw:Tm.raw (.mk 3 nm ot m ty re l) g n=some tBool:=by simp[Tm.raw]
  rw[hraw]at hQ
  repeat' first|with_reducible intro _|simp only[Y1]|with_reducible refine X ?_ ?_|refine⟨_,_,_,rfl,?_⟩|refine⟨_,rfl,?_⟩|refine X0 ?_|refine sn _ _ ?_|fail
  all_goals first | (exfalso;omega) | skip
  exact hQ _ _ (by omega) fun t ht=>by cases ht;assumption
 ·have hk:k=4\/k=5\/k=7:=by omega
  have:=Pl hk ih hes1 hlen1 pre ctx (a:=a) (c:=c) (t0:=t0) (t1:=t1) (r0:=r0) (r1:=r1) (a1:=a1) (c1:=c1) N Q hQ
  repeat' first|with_reducible intro _|simp only[Y1]|with_reducible refine X ?_ ?_|refine⟨_,_,_,rfl,?_⟩|refine⟨_,rfl,?_⟩|refine X0 ?_|fail
  all_goals first | (exfalso;omega) | exact this
 ·have hk:k=4\/k=5\/k=7:=by omega
  have:=Pl hk ih hes1 hlen1 pre ctx (a:=a) (c:=c) (t0:=t0) (t1:=t1) (r0:=r0) (r1:=r1) (a1:=a1) (c1:=c1) N Q hQ
  repeat' first|with_reducible intro _|simp only[Y1]|with_reducible refine X ?_ ?_|refine⟨_,_,_,rfl,?_⟩|refine⟨_,rfl,?_⟩|refine X0 ?_|fail
  all_goals first | (exfalso;omega) | exact this
 ·have h1 : l.length = 1 := by have:(l.length:Int)=1:=har
                               omega
  obtain⟨e0,rfl⟩:=Da h1;obtain⟨d0,_,rfl,h0,rfl⟩:=hes1;have hraw:Tm.raw (.mk 6 nm ot m ty re [e0]) g n=(match e0.type (g++[⟨nm,ty,n⟩]) n with | some b=>some (wa ty b) | none=>none):=by simp[Tm.raw,uj]
  rw[hraw]at hQ
  repeat' first|with_reducible intro _|simp only[Y1]|with_reducible refine X ?_ ?_|refine⟨_,_,_,rfl,?_⟩|refine⟨_,rfl,?_⟩|refine X0 ?_|refine(Ub ih hh h0 pre ctx) _ _ ?_|fail
  all_goals first | (exfalso;omega) | skip
  exact hQ _ _ (by omega) (by assumption)
 ·have hk:k=4\/k=5\/k=7:=by omega
  have:=Pl hk ih hes1 hlen1 pre ctx (a:=a) (c:=c) (t0:=t0) (t1:=t1) (r0:=r0) (r1:=r1) (a1:=a1) (c1:=c1) N Q hQ
  repeat' first|with_reducible intro _|simp only[Y1]|with_reducible refine X ?_ ?_|refine⟨_,_,_,rfl,?_⟩|refine⟨_,rfl,?_⟩|refine X0 ?_|fail
  all_goals first | (exfalso;omega) | exact this
 ·have h1 : l.length = 2 := by have:(l.length:Int)=2:=har
                               omega
  obtain⟨e0,e1,rfl⟩:=OA h1;obtain⟨d0,_,rfl,h0,d1,_,rfl,h1,rfl⟩:=hes1;have hraw:Tm.raw (.mk 8 nm ot m ty re [e0,e1]) g n=(match e0.type g n with | some b=>e1.type (g++[⟨nm,b,n⟩]) n | none=>none):=by simp[Tm.raw,uj]
  rw[hraw]at hQ
  repeat' first|with_reducible intro _|simp only[Y1]|with_reducible refine X ?_ ?_|refine⟨_,_,_,rfl,?_⟩|refine⟨_,rfl,?_⟩|refine X0 ?_|refine(Uc ih hh h0 h1 pre ctx) _ _ ?_|fail
  all_goals first | (exfalso;omega) | skip
  exact hQ _ _ (by omega) (by assumption)
 ·have h1 : l.length = 1 := by have:(l.length:Int)=1:=har
                               omega
  obtain⟨e0,rfl⟩:=Da h1;obtain⟨d0,_,rfl,h0,rfl⟩:=hes1;have hraw:Tm.raw (.mk 9 nm ot m ty re [e0]) g n=(match e0.type ((g++[⟨nm,wa ty re,n⟩])++[⟨ot,ty,n⟩]) n with | some b=>if sd b re then some (wa ty re)else none | none=>none):=by simp only[Tm.raw,uj];rfl
  rw[hraw]at hQ
  repeat' first|with_reducible intro _|simp only[Y1]|with_reducible refine X ?_ ?_|refine⟨_,_,_,rfl,?_⟩|refine⟨_,rfl,?_⟩|refine X0 ?_|refine(Ud ih hh h0 pre ctx) _ _ ?_|fail
  all_goals first | (exfalso;omega) | skip
  exact hQ _ _ (by omega) (by assumption)
 all_goals
  have h1:l.length=1:=by
   have hk:k=10\/k=11\/k=12\/k=13:=by omega
   have:(l.length:Int)=1:=by rw[har];rcases hk with rfl | rfl | rfl | rfl<;>rfl
   omega
  obtain⟨e0,rfl⟩:=Da h1;obtain⟨d0,_,rfl,h0,rfl⟩:=hes1;have hk:k=10\/k=11\/k=12\/k=13:=by omega
  have hraw:Tm.raw (.mk k nm ot m ty re [e0]) g n=(match e0.type (if k=12 then tv g n else g) (zK k n)with | some t=>xP k t | none=>none):=by simp only[Tm.raw,uj];rw[if_neg (by omega),if_neg (by omega),if_neg (by omega),if_neg (by omega),if_neg (by omega),if_neg (by omega),if_pos hk]
  rw[hraw]at hQ
  repeat' first|with_reducible intro _|simp only[Y1]|with_reducible refine X ?_ ?_|refine⟨_,_,_,rfl,?_⟩|refine⟨_,rfl,?_⟩|refine X0 ?_|refine(Ug hk ih h0 pre ctx) _ _ ?_|fail
  all_goals first | (exfalso;omega) | skip
  exact hQ _ _ (by omega) (by assumption)
theorem sj:∀ {l:List Tm}{i:Nat}{g:List Tg}{n:Int}{t:Ty},uj l i g n=some t->t.valid=true
 | [],i,g,n,t,h=>by simp[uj]at h
 | e::es,0,g,n,t,h=>by simp only[uj]at h;exact Tm.type_valid h
 | e::es,i+1,g,n,t,h=>by simp only[uj]at h;exact sj h
theorem I3 {l:List Ty}{m:Nat}(h:∀ t∈l,t.cnt<=m)(I:1<=m)(i:Nat):(l.getD i tZero).cnt<=m:=by
 rw[oA];cases hi:l[i]? with
 | none=>simpa [tZero,Ty.cnt,zS]using I
 | some t=>exact h t (oB hi)
theorem Th (t:Ty)(i:Nat):(t.as.getD i tZero).cnt<=t.cnt:=by
 cases t with
 | mk k l=>exact I3 (l:=l) (λu I=>by have:=wR (l:=l) I;simp only[Ty.cnt];omega) (by simp only[Ty.cnt];omega) i
theorem Vd {g:List Tg}{m:Nat}(h:∀ x∈g,x.ty.cnt<=m)(I:1<=m)(i:Nat):(g.getD i tg0).ty.cnt<=m:=by
 rw[oA];cases hi:g[i]? with
 | none=>simpa [tg0,tZero,Ty.cnt,zS]using I
 | some t=>exact h t (oB hi)
theorem Of {k:Int}{s:ByteArray}{ts:List Ty}{t:Ty}(I:∀ t∈ts,t.cnt<=64)(h:xt k s ts=some t):t.cnt<=64:=by
 simp only[xt]at h;split at h
 ·simp only[VJ]at h;split at h
  ·cases h;unfold Fi;(repeat' split)<;>simp[tInt,tBool,Ty.cnt,zS]
  ·cases h
 ·split at h
  ·split at h
   ·cases h;exact I3 I (by omega) _
   ·cases h
  ·split at h
   ·cases h;exact oR (Th _ _) (I3 I (by omega) _)
   ·cases h
theorem Mh {k:Int}{u t:Ty}(J:u.cnt<=30)(h:xP k u=some t):t.cnt<=64:=by
 have I:(vI u).cnt<=64:=by simp only[vI,Ty.cnt,zS];omega
 have O:=Th u 0;simp only[xP]at h
 (repeat' split at h)<;>cases h<;>first | exact I | omega
theorem Q3 {e:Tm}{g:List Tg}{n:Int}{t:Ty}(pre:Pre g e n)(h:e.raw g n=some t):t.cnt<=64:=by
 cases e with
 | mk k nm ot m ty re l=>
 have nd:=yk pre.ok;simp only[Tm.raw]at h;split at h
 ·simp only[DB]at h
  (repeat' split at h)<;>cases h
  exact Vd pre.ty (by omega) _
 split at h
 ·cases h;simp[tInt,Ty.cnt,zS]
 split at h
 ·cases h;simp[tBool,Ty.cnt,zS]
 split at h
 ·rename_i U;have Y:=Ty.valid_cnt (nd.vt (.inl U));split at h
  ·rename_i b I
   have:=Ty.valid_cnt (sj I)
   cases h;simp only[wa,Ty.cnt,zS];omega
  ·cases h
 split at h
 ·split at h
  ·have:=Ty.valid_cnt (sj h);omega
  ·cases h
 split at h
 ·rename_i O;have Y:=Ty.valid_cnt (nd.vt (.inr O));have hr:=Ty.valid_cnt (nd.vr O);split at h
  ·split at h
   ·cases h;simp only[wa,Ty.cnt,zS];omega
   ·cases h
  ·cases h
 split at h
 ·split at h
  ·rename_i b I;exact Mh (Ty.valid_cnt (sj I)) h
  ·cases h
 ·split at h
  ·rename_i ts J;exact Of (λu hu=>oR (Ty.valid_cnt ((HW J).2 u hu)) (by omega)) h
  ·cases h
theorem xB:tZero.Is (.ag [.j 0,.sl none 2 [] 0]):=vQ 0
theorem Iq:∀(e:Tm),∀ d,e.Is d->∀ g es a c n,Pre g e n->Ctx g es->Vo 43 [.sv a 4 es c,.dg 9 d,.j n] (e.type g n):=by
 refine Tm.ind λk nm ot m ty re l U d hd g es a c n pre O N Q I=>?_;have hs:=Ip (a:=a) (c:=c) hd U pre O;rw[Tm.type_eq]at I;refine J6 N a es c _ n Q λ_ _=>?_;cases h:Tm.raw (.mk k nm ot m ty re l) g n with
 | none=>
   rw[h]at hs I
   repeat' first|with_reducible intro _|simp only[ma,Y1]|with_reducible refine X ?_ ?_|refine⟨_,_,_,rfl,?_⟩|refine⟨_,rfl,?_⟩|refine X0 ?_|refine hs _ _ ?_|fail
   all_goals first | (exfalso;omega) | skip
   exact I _ _ (by omega) xB
 | some t=>
   have hc:=Q3 pre h;rw[h]at hs I;simp only[vld]at I;cases J:t.valid with
   | false=>
     rw[J]at I
     repeat' first|with_reducible intro _|simp only[md,J,Y1]|with_reducible refine X ?_ ?_|refine⟨_,_,_,rfl,?_⟩|refine⟨_,rfl,?_⟩|refine X0 ?_|refine hs _ _ ?_|refine(yJ t _ (by rename_i h _ _ _ _;exact h t rfl) (by omega)) _ _ ?_|fail
     all_goals first | (exfalso;omega) | skip
     exact I _ _ (by omega) xB
   | true=>
     rw[J]at I
     repeat' first|with_reducible intro _|simp only[md,J,Y1]|with_reducible refine X ?_ ?_|refine⟨_,_,_,rfl,?_⟩|refine⟨_,rfl,?_⟩|refine X0 ?_|refine hs _ _ ?_|refine(yJ t _ (by rename_i h _ _ _ _;exact h t rfl) (by omega)) _ _ ?_|fail
     all_goals first | (exfalso;omega) | skip
     rename_i Y _ _ _ _ _ _ _ _ _;exact I _ _ (by omega) (Y t rfl)
def tB (g:List Tg)(e:Tm)(n:Int):Option Ty:=if Gx g/\uG e n then e.type g n else none
theorem Kb:∀ {g:List Tg},G4 g=true->∀ x∈g,x.ty.valid=true
 | y::I,h,x,hx=>by
   simp only[G4,Tg.ok,oK]at h;rcases oL.1 hx with rfl | hx
   ·exact h.1.2.1
   ·exact Kb h.2 x hx
theorem Qx {g:List Tg}{e:Tm}{n:Int}(J:Gx g=true)(I:uG e n=true)(hc:e.dp<=1048576000 / 2):Pre g e n:=by simp only[Gx,oK,oe]at J;simp only[uG,oK]at I;exact⟨I.1,I.2,by omega,λx O=>oR (Ty.valid_cnt (Kb J.1 x O)) (by omega)⟩
theorem Wu {g:List Tg}{e:Tm}{n:Int}(I:Gx g=true)(J:uG e n=true)(hc:e.cnt<=1048576000 / 2):Pre g e n:=Qx I J (oR e.dp_cnt hc)
theorem Gt {g:List Tg} {es:List D} (I:Ctx g es) (Y:∀ x∈g,x.ty.cnt<=1073741824) {e:Tm} {d:D} (he:e.Is d) (hG:e.G) (hc:e.dp<=1048576000 / 2) (a:Option Addr) (c:Nat) (n:Int) :
  Vo 17 [.sv a 4 es c,.dg 9 d,.j n] (tB g e n):=λN Q J=>by
 refine Jo N a es c d n Q λ_ _=>?_;cases O:Gx g with
 | false=>
   rw[tB,if_neg (by simp[O])]at J
   repeat' first|with_reducible intro _|simp only[O,Y1]|with_reducible refine X ?_ ?_|refine⟨_,_,_,rfl,?_⟩|refine⟨_,rfl,?_⟩|refine X0 ?_|refine(qG I Y a c) _ _ ?_|fail
   exact J _ _ (by omega) xB
 | true=>
   cases U:uG e n with
   | false=>
     rw[tB,if_neg (by simp[U])]at J
     repeat' first|with_reducible intro _|simp only[O,U,Y1]|with_reducible refine X ?_ ?_|refine⟨_,_,_,rfl,?_⟩|refine⟨_,rfl,?_⟩|refine X0 ?_|refine(qG I Y a c) _ _ ?_|refine(uF e d he hG n) _ _ ?_|fail
     exact J _ _ (by omega) xB
   | true=>
     rw[tB,if_pos ⟨O,U⟩]at J
     repeat' first|with_reducible intro _|simp only[O,U,Y1]|with_reducible refine X ?_ ?_|refine⟨_,_,_,rfl,?_⟩|refine⟨_,rfl,?_⟩|refine X0 ?_|refine(qG I Y a c) _ _ ?_|refine(uF e d he hG n) _ _ ?_|refine(Iq e d he g es a c n (Qx O U hc) I) _ _ ?_|fail
     exact J _ _ (by omega) (by assumption)
theorem BL {g:List Tg} {es:List D} (I:Ctx g es) (J:∀ x∈g,x.ty.cnt<=1073741824) {e:Tm} {d:D} (O:e.Is d) (hc:e.cnt<=1048576000 / 2) (a:Option Addr) (c:Nat) (n:Int) :
 Vo 17 [.sv a 4 es c,.dg 9 d,.j n] (tB g e n):=Gt I J O (Tm.G_cnt e (by omega)) (oR e.dp_cnt hc) a c n
theorem sS {t:Ty}{d:D}{N N':Nat}(h:t.Is d)(I:Own N N' d):OwnL N N' [D.cell d 0,D.cell d 1]:=by
 cases t with
 | mk k l=>obtain⟨a,es,c,rfl,_,_⟩:=Ty.is_mk.1 h;show OwnL N N' [.j k,.sl a 2 es c];exact⟨by simpa only[D.foot]using I.nd,I.fl,by simpa only[D.foot]using I.lo,by simpa only[D.foot]using I.hi⟩
end Go.Proofs.YtlaniepnglheoaaGreatDoor
