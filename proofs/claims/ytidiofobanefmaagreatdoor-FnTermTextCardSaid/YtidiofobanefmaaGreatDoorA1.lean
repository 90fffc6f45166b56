/- Data as plain trees, and what the laws' first look at them (their size) comes to. -/
import Derived.IntWalk
import Derived.Test.YtidiofobanefmaaGreatDoorKa
import Derived.Test.YtidiofobanefmaaGreatDoorJh
set_option linter.unusedVariables false
set_option linter.unusedSimpArgs false
namespace Go.Proofs.YtidiofobanefmaaGreatDoor
open Go Go.Proofs Go.Proofs.Tryz Go.IntWalk
inductive Ty where
 | mk (k:Int) (l:List Ty)
mutual
def Ty.Is:Ty->D->Prop
 | .mk k l,d=>∃ a es c,d=.ag [.j k,.sl a 2 es c]/\es.length<=4611686018427387904/\TysIs l es
def TysIs:List Ty->List D->Prop
 | [],es=>es=[]
 | t::ts,es=>∃ d ds,es=d::ds/\t.Is d/\TysIs ts ds
end
theorem TysIs.len:∀ {ts:List Ty}{es:List D},TysIs ts es->es.length=ts.length
 | [],es,h=>by simp[TysIs]at h;subst h;rfl
 | t::ts,es,h=>by simp only[TysIs]at h;obtain⟨d,ds,rfl,_,h⟩:=h;simp[TysIs.len h]
theorem Br.of {v:Bool}{A B:Prop}(I:v=true->A)(J:v=false->B):Br v A B:=by
 cases v
 ·exact J rfl
 ·exact I rfl
structure OwnL (N N':Nat) (es:List D):Prop where
 nd:(yF es).Nodup
 fl:p9 es
 lo:∀ b∈yF es,N<=b
 hi:∀ b∈yF es,b<N'
structure Own (N N':Nat) (d:D):Prop where
 nd:d.foot.Nodup
 fl:d.Flat0
 lo:∀ b∈d.foot,N<=b
 hi:∀ b∈d.foot,b<N'
theorem Own.mono {N1 I J O:Nat}{d:D}(h:Own N1 I d)(U:J<=N1)(V:I<=O):Own J O d:=⟨h.nd,h.fl,λb hb=>o8 U (h.lo b hb),λb hb=>oq (h.hi b hb) V⟩
theorem OwnL.mono {N1 I J O:Nat}{es:List D}(h:OwnL N1 I es)(U:J<=N1)(V:I<=O):OwnL J O es:=⟨h.nd,h.fl,λb hb=>o8 U (h.lo b hb),λb hb=>oq (h.hi b hb) V⟩
theorem sZ:∀ {a b:List D},p9 a->p9 b->p9 (a++b)
 | [],b,_,h=>h
 | x::a,b,I,J=>⟨I.1,sZ I.2 J⟩
theorem ti {N N1 O:Nat}{es fs:List D}(I:OwnL N N1 es)(J:OwnL N1 O fs)(hN:N<=N1)(U:N1<=O):OwnL N O (es++fs):=by
 refine⟨?_,sZ I.fl J.fl,λb hb=>?_,λb hb=>?_⟩
 ·rw[uE,mi];refine⟨I.nd,J.nd,λx V y Y Z=>?_⟩
  have:=I.hi x V;have:=J.lo y Y;omega
 ·rw[uE]at hb;rcases oO.1 hb with hb | hb
  ·exact I.lo b hb
  ·have:=J.lo b hb;omega
 ·rw[uE]at hb;rcases oO.1 hb with hb | hb
  ·have:=I.hi b hb;omega
  ·exact J.hi b hb
theorem xV {N N':Nat}{d:D}(h:Own N N' d):OwnL N N' [d]:=⟨by simpa [yF]using h.nd,⟨h.fl,trivial⟩,by simpa [yF]using h.lo,by simpa [yF]using h.hi⟩
theorem pO {N N':Nat}{x:Value}{es:List D}(h:OwnL N N' es):OwnL N N' (.lit x::es):=⟨by simpa [yF,D.foot]using h.nd,⟨trivial,h.fl⟩,by simpa [yF,D.foot]using h.lo,by simpa [yF,D.foot]using h.hi⟩
theorem Fu {N N':Nat}{cs:List D}(h:OwnL N N' cs):Own N N' (.ag cs):=⟨by simpa only[D.foot]using h.nd,h.fl,by simpa only[D.foot]using h.lo,by simpa only[D.foot]using h.hi⟩
theorem Fv {N N1 N3:Nat}{a:Option Addr}{z c:Nat}{es ds:List D}(h:OwnL N N1 es)(O:Fresh N N3 a (.ag es::ds))(hN:N1<=N3):Own N N3 (.sl a z es c):=by
 cases a with
 | none=>exact⟨by simpa only[D.foot]using h.nd,⟨by simp,h.fl⟩,by simpa only[D.foot]using h.lo,λb hb=>by simp only[D.foot]at hb;have:=h.hi b hb;omega⟩
 | some ad=>
   have J:=O.ap ad rfl (.ag es) (by simp);simp only[D.foot]at J;have I:∀ b∈(D.sl (some ad) z es c).foot,b=ad.block\/b∈yF es:=λb hb=>by
    simp only[D.foot]at hb;split at hb
    ·simp at hb
    ·exact oG.1 hb
   refine⟨?_,⟨λU V=>by cases V;exact O.off ad rfl,h.fl⟩,λb hb=>?_,λb hb=>?_⟩
   ·simp only[D.foot];split
    ·exact mV
    ·exact nk.2 ⟨J,h.nd⟩
   ·rcases I b hb with rfl | hb
    ·exact O.lo ad rfl
    ·exact h.lo b hb
   ·rcases I b hb with rfl | hb
    ·exact O.hi ad rfl
    ·have:=h.hi b hb;omega
mutual
def Ty.cnt:Ty->Nat
 | .mk _ l=>1+yM l
def yM:List Ty->Nat
 | []=>0
 | t::ts=>t.cnt+yM ts
end
mutual
def HA:Ty->Ty->Bool
 | .mk k l,.mk I l'=>k==I&&tl l l'
def tl:List Ty->List Ty->Bool
 | [],[]=>true
 | t::ts,u::us=>HA t u&&tl ts us
 | _,_=>false
end
mutual
theorem Ct:∀(t u:Ty),HA t u=true↔t=u
 | .mk k l,.mk I l'=>by simp[HA,EH l l']
theorem EH:∀(l m:List Ty),tl l m=true↔l=m
 | [],[]=>by simp[tl]
 | t::ts,u::us=>by simp[tl,Ct t u,EH ts us]
 | [],u::us=>by simp[tl]
 | t::ts,[]=>by simp[tl]
end
theorem EI:∀ {l m:List Ty},l.length≠m.length->tl l m=false
 | [],[],h=>absurd rfl h
 | t::ts,u::us,h=>by simp only[tl,EI (l:=ts) (m:=us) (by simpa using h),Bool.and_false]
 | [],u::us,_=>rfl
 | t::ts,[],_=>rfl
theorem Br.not {v:Bool}{A B:Prop}(I:v=false->A)(J:v=true->B):Br (!v) A B:=by
 cases v
 ·exact I rfl
 ·exact J rfl
theorem Br.dec {p:Prop} [Decidable p]{A B:Prop}(I:p->A)(J:¬p->B):Br (decide p) A B:=Br.of (λh=>I (mj h)) λh=>J (of_decide_eq_false h)
theorem Br.ndec {p:Prop} [Decidable p]{A B:Prop}(I:¬p->A)(J:p->B):Br (!(decide p)) A B:=Br.not (λh=>I (of_decide_eq_false h)) λh=>J (mj h)
theorem Br.beq {a b:Int}{A B:Prop}(I:a=b->A)(J:¬a=b->B):Br (a==b) A B:=Br.of (λh=>I (by simpa using h)) λh=>J (by simpa using h)
theorem Br.bne {a b:Int}{A B:Prop}(I:¬a=b->A)(J:a=b->B):Br (bne a b) A B:=Br.of (λh=>I (by simpa using h)) λh=>J (by simpa using h)
theorem DV {s t:ByteArray}(h:s.toList=t.toList):s=t:=by rw[ByteArray.toList_eq,ByteArray.toList_eq]at h;cases s;cases t;simpa using h
theorem yi {s t:ByteArray}:(s.toList==t.toList)=decide (s=t):=by
 by_cases h:s=t
 ·simp[h]
 ·have:¬s.toList=t.toList:=λhc=>h (DV hc);simp[h,this]
theorem Br.str {s t:ByteArray}{A B:Prop}(I:s=t->A)(J:¬s=t->B):Br (s.toList==t.toList) A B:=by rw[yi];exact Br.dec I J
theorem Br.nstr {s t:ByteArray}{A B:Prop}(I:¬s=t->A)(J:s=t->B):Br (!(s.toList==t.toList)) A B:=by rw[yi];exact Br.ndec I J
def tH (f:FuncId)(args:List PV)(b:Bool):Prop:=∀(N:Nat) (Q:QT [.bool]),(∀ N',N<=N'->Q b N')->ACalls prog f [.bool] args N Q
def EU (f:FuncId)(args:List PV)(n:Int):Prop:=∀(N:Nat) (Q:QT [.i]),(∀ N',N<=N'->Q n N')->ACalls prog f [.i] args N Q
theorem Qi {Q:QT [.i]}{n m:Int}{N:Nat}(h:Q n N)(e:n=m):Q m N:=e ▸ h
theorem Qb {Q:QT [.bool]}{n m:Bool}{N:Nat}(h:Q n N)(e:n=m):Q m N:=e ▸ h
def All2 {α:Type}(R:α->D->Prop):List α->List D->Prop
 | [],es=>es=[]
 | t::ts,es=>∃ d ds,es=d::ds/\R t d/\All2 R ts ds
theorem All2.len {α:Type}{R:α->D->Prop}:∀ {l:List α}{es:List D},All2 R l es->es.length=l.length
 | [],es,h=>by cases h;rfl
 | t::ts,es,⟨d,ds,I,_,h⟩=>by subst I;simp[h.len]
theorem All2.get {α:Type}{R:α->D->Prop}:∀ {l:List α}{es:List D}{i:Nat}{x:α},All2 R l es->l[i]?=some x->R x (es.getD i default)
 | [],es,i,x,h,I=>by simp at I
 | t::ts,es,i,x,⟨d,ds,J,O,U⟩,I=>by
   subst J;cases i with
   | zero=>simp at I;subst I;simpa [oA]using O
   | succ i=>simpa [oA]using U.get (by simpa using I)
theorem All2.snoc {α:Type}{R:α->D->Prop}:∀ {l:List α}{es:List D}{t:α}{d:D},All2 R l es->R t d->All2 R (l++[t]) (es++[d])
 | [],es,t,d,h,I=>by cases h;exact⟨d,[],rfl,I,rfl⟩
 | u::ts,es,t,d,⟨x,ds,J,O,U⟩,I=>by subst J;exact⟨x,ds++[d],rfl,O,U.snoc I⟩
theorem All2.mono {α:Type}{R S:α->D->Prop}(I:∀ x d,R x d->S x d):∀ {l:List α}{es:List D},All2 R l es->All2 S l es
 | [],es,h=>h
 | u::ts,es,⟨x,ds,J,O,U⟩=>⟨x,ds,J,I _ _ O,U.mono I⟩
structure At {α:Type} (R:α->D->Prop) (l:List α) (es:List D) (i:Nat) (x:α):Prop where
 lt:decide ((i:Int)<(es.length:Int))=true
 b:(0:Int)<=(i:Int)/\(i:Int)<(es.length:Int)
 w:IntKind.i64.wrap ((i:Int)+1)=((i+1:Nat):Int)
 r:R x (es.getD i default)
 m:x∈l
 g:l[i]?=some x
theorem up {α:Type} {R:α->D->Prop} {l:List α} {es:List D} (h:All2 R l es) (U:es.length<=4611686018427387904) (P:Nat->List α->Prop)
  (O:∀ n:Nat,decide ((n:Int)<(es.length:Int))=false->n=es.length->P n []) (I:∀(i:Nat) x xs,At R l es i x->l.drop (i+1)=xs->P (i+1) xs->P i (x::xs)):P 0 l:=by
 have hl:=h.len;have key:∀(rest pre:List α),l=pre++rest->P pre.length rest:=by
  intro rest
  induction rest with
  | nil=>intro pre J;rw[nh]at J;subst J;exact O _ (by simp[hl]) hl.symm
  | cons x xs V=>
    intro pre J;have hi:l[pre.length]?=some x:=by rw[J];simp
    have Y:pre.length<l.length:=(oC.1 hi).1;have Z:=h.get hi;refine I pre.length x xs ⟨nU (by omega),⟨by omega,by omega⟩,?_,Z,by rw[J];simp,hi⟩ (by rw[J];simp) ?_
    ·rw[i64_in _ (by omega)];simp
    ·have:=V (pre++[x]) (by rw[J];simp)
     simpa using this
 exact key l [] rfl
theorem GG:∀ {l:List Ty}{es:List D},TysIs l es->All2 Ty.Is l es
 | [],es,h=>by simp only[TysIs]at h;exact h
 | t::ts,es,h=>by simp only[TysIs]at h;obtain⟨d,ds,I,J,O⟩:=h;exact⟨d,ds,I,J,GG O⟩
theorem FW:∀ {l:List Ty}{es:List D},All2 Ty.Is l es->TysIs l es
 | [],es,h=>by simp only[TysIs];exact h
 | t::ts,es,⟨d,ds,I,J,O⟩=>by simp only[TysIs];exact⟨d,ds,I,J,FW O⟩
def Ty.k:Ty->Int
 | .mk k _=>k
def Ty.as:Ty->List Ty
 | .mk _ l=>l
theorem Ty.is_mk {k:Int}{l:List Ty}{d:D}:(Ty.mk k l).Is d↔∃ a es c,d=.ag [.j k,.sl a 2 es c]/\es.length<=4611686018427387904/\All2 Ty.Is l es:=by simp only[Ty.Is];exact⟨λ⟨a,es,c,I,J,O⟩=>⟨a,es,c,I,J,GG O⟩,λ⟨a,es,c,I,J,O⟩=>⟨a,es,c,I,J,FW O⟩⟩
theorem Ty.ind {P:Ty->Prop}(h:∀ k l,(∀ t∈l,P t)->P (.mk k l)):∀ t,P t:=λt=>
 Ty.rec (motive_1:=P) (motive_2:=λl=>∀ t∈l,P t) (λk l I=>h k l I) (by simp) (λt l J O u hu=>by
  rcases oG.1 hu with rfl | hu
  ·exact J
  ·exact O u hu) t
class Dv (v:Bool) (P Q:outParam Prop):Prop where
 t:v=true->P
 f:v=false->Q
instance (priority:=100) dv9 {v:Bool}:Dv v (v=true) (v=false):=⟨id,id⟩
instance (priority:=500) dv4 {v:Bool}:Dv (!v) (v=false) (v=true):=⟨by simp,by simp⟩
instance dv1 {p:Prop} [Decidable p]:Dv (!(decide p)) (¬p) p:=⟨by simp,by simp⟩
instance dv2 {s t:ByteArray}:Dv (!(s.toList==t.toList)) (¬s=t) (s=t):=⟨by rw[yi];simp,by rw[yi];simp⟩
instance dv3 {a b:Int}:Dv (!(a==b)) (¬a=b) (a=b):=⟨by simp,by simp⟩
instance dv5 {p:Prop} [Decidable p]:Dv (decide p) p (¬p):=⟨by simp,by simp⟩
instance dv6 {s t:ByteArray}:Dv (s.toList==t.toList) (s=t) (¬s=t):=⟨by rw[yi];simp,by rw[yi];simp⟩
instance dv7 {a b:Int}:Dv (a==b) (a=b) (¬a=b):=⟨by simp,by simp⟩
instance dv8 {a b:Int}:Dv (bne a b) (¬a=b) (a=b):=⟨by simp,by simp⟩
theorem X {v:Bool}{P Q A B:Prop}[h:Dv v P Q](I:P->A)(J:Q->B):Br v A B:=Br.of (λg=>I (h.t g)) λg=>J (h.f g)
theorem X0 {A B:Prop}(b:B)(a:A:=by first|omega|trivial|(show _=_;rfl)|(with_reducible constructor)<;>first|omega|trivial|rfl):A/\B:=⟨a,b⟩
theorem Y1:(!true)=false:=rfl
theorem Y2:(!false)=true:=rfl
theorem Y3 {A B:Prop}:Br true A B=A:=rfl
theorem Y4 {A B:Prop}:Br false A B=B:=rfl
def inB (n a b:Int):Bool:=decide (a<=n)&&decide (n<=b)
theorem pu (n a b:Int):tH 93 [.j n,.j a,.j b] (inB n a b):=λN Q I=>by
 refine FT N n a b Q ?_
 repeat' first|with_reducible intro _|simp only[Y1,Y2,Y3,Y4]|with_reducible refine X ?_ ?_|refine⟨_,_,_,rfl,?_⟩|refine⟨_,rfl,?_⟩|refine X0 ?_|fail
 all_goals simpa [inB, *]using I _ (by omega)
theorem qW (a b:Int):EU 56 [.j a,.j b] (max a b):=λN Q I=>by
 refine EO N a b Q ?_
 repeat' first|with_reducible intro _|simp only[Y1,Y2,Y3,Y4]|with_reducible refine X ?_ ?_|refine⟨_,_,_,rfl,?_⟩|refine⟨_,rfl,?_⟩|refine X0 ?_|fail
 ·have:=I _ (by assumption)
  rwa[Int.max_eq_left (by omega)]at this
 ·have:=I _ (by assumption)
  rwa[Int.max_eq_right (by omega)]at this
mutual
def Ty.dep:Ty->Nat
 | .mk _ l=>wy l+1
def wy:List Ty->Nat
 | []=>0
 | t::ts=>max t.dep (wy ts)
end
mutual
theorem Ty.dep_cnt:∀ t:Ty,t.dep<=t.cnt
 | .mk _ l=>by simp only[Ty.dep,Ty.cnt];have:=tC l;omega
theorem tC:∀ l:List Ty,wy l<=yM l
 | []=>oJ _
 | t::ts=>by simp only[wy,yM];have:=t.dep_cnt;have:=tC ts;omega
end
theorem xm:∀ {l:List Ty}{t:Ty},t∈l->t.cnt<=yM l
 | u::us,t,h=>by
   simp only[yM];rcases oG.1 h with rfl | h
   ·omega
   ·have:=xm h;omega
def BJ (k:Int)(n:Nat):Bool:=if k=1\/k=2 then(n:Int)==0 else if k=3 then(n:Int)==2 else if k=4 then(n:Int)==1 else false
mutual
def Ty.form:Ty->Bool
 | .mk k l=>w8 l&&BJ k l.length
def w8:List Ty->Bool
 | []=>true
 | t::ts=>t.form&&w8 ts
end
def Ty.valid (t:Ty):Bool:=decide (t.cnt<=30)&&decide (t.dep<=8)&&t.form
theorem sT:∀(t:Ty)(d:D),t.Is d->∀ n:Int,0<=n->n<=1000->EU 124 [.dg 2 d,.j n] (if(t.cnt:Int)<=n then n - t.cnt else -1):=by
 refine Ty.ind λk l ih d hd n ac ae N Q hQ=>?_;obtain⟨a,es,c,rfl,V,Y⟩:=Ty.is_mk.1 hd;refine DB N _ n Q λ_=>?_;have key:=up Y V (λi xs=>∀(m:Int) (N':Nat),N<=N' -> -1<=m->m<=1000->(∀ J,N'<=J->Q (if m<0 then -1 else if(yM xs:Int)<=m then m - yM xs else -1) J) ->
  xE Q N m i (.ag [.j k,.sl a 2 es c]) N') ?_ ?_
 ·rw[i64_in _ (by omega)];refine key (n - 1) N (oJ _) (by omega) (by omega) λN' U=>Qi (hQ N' U) ?_;simp only[Ty.cnt]
  (repeat' split)<;>omega
 ·intro i Z _ m N' U h1 h2 O;refine uQ ?_
  repeat' first|with_reducible intro _|simp only[Z,Y1,Y2,Y3,Y4]|with_reducible refine X ?_ ?_|refine⟨_,_,_,rfl,?_⟩|refine⟨_,rfl,?_⟩|refine X0 ?_|fail
  refine Qi (O _ (by assumption)) ?_;simp only[yM]
  (repeat' split)<;>omega
 ·intro i x xs I _ aa m N' U h1 h2 O;have hb:=I.b;refine uQ ?_
  repeat' first|with_reducible intro _|simp only[I.lt,I.w,oX,Y1,Y2,Y3,Y4]|with_reducible refine X ?_ ?_|refine⟨_,_,_,rfl,?_⟩|refine⟨_,rfl,?_⟩|refine X0 ?_|refine(ih x I.m _ I.r m (by omega) (by omega)) _ _ ?_|fail
  ·refine aa _ _ (by omega) (by split<;>omega) (by split<;>omega) λJ ab=>Qi (O J (by omega)) ?_;simp only[yM]
   (repeat' split)<;>omega
  ·refine Qi (O _ (by assumption)) ?_;rw[if_pos (by omega)];omega
theorem wk:∀(t:Ty)(d:D),t.Is d->t.cnt<=1073741824->EU 125 [.dg 2 d] t.dep:=by
 refine Ty.ind λk l ih d hd hc N Q hQ=>?_;obtain⟨a,es,c,rfl,J,U⟩:=Ty.is_mk.1 hd;refine rM N _ Q λ_=>?_;simp only[Ty.cnt]at hc;have aa:=tC l;have key:=up U J (λi xs=>∀(m:Nat) (N':Nat),N<=N'->max m (wy xs)=wy l->zu Q N (m:Int) i (.ag [.j k,.sl a 2 es c]) N') ?_ ?_
 ·exact key 0 N (oJ _) (by omega)
 ·intro i V _ m N' O Y;simp only[wy]at Y;refine wF ?_
  repeat' first|with_reducible intro _|simp only[V,Y1,Y2,Y3,Y4]|with_reducible refine X ?_ ?_|refine⟨_,_,_,rfl,?_⟩|refine⟨_,rfl,?_⟩|refine X0 ?_|fail
  rw[i64_in _ (by omega)];refine Qi (hQ _ (o8 O (by assumption))) ?_;simp only[Ty.dep];omega
 ·intro i x xs I _ Z m N' O Y;have hb:=I.b;have ab:=xm I.m;simp only[wy]at Y;refine wF ?_
  repeat' first|with_reducible intro _|simp only[I.lt,I.w,oX,Y1,Y2,Y3,Y4]|with_reducible refine X ?_ ?_|refine⟨_,_,_,rfl,?_⟩|refine⟨_,rfl,?_⟩|refine X0 ?_|refine(ih x I.m _ I.r (by omega)) _ _ ?_|refine(qW _ _) _ _ ?_|fail
  have e:max (m:Int) (x.dep:Int)=((max m x.dep:Nat):Int):=by omega
  rw[e];exact Z _ _ (by omega) (by omega)
theorem sS:∀(t:Ty)(d:D),t.Is d->tH 126 [.dg 2 d] t.form:=by
 refine Ty.ind λk l ih d hd N Q hQ=>?_;obtain⟨a,es,c,rfl,U,V⟩:=Ty.is_mk.1 hd;have hl:=V.len;refine DA N _ Q λ_=>?_;have key:=up V U (λi xs=>∀(N':Nat),N<=N'->(∀ J,N'<=J->Q (w8 xs&&BJ k l.length) J)->xD Q N i (.ag [.j k,.sl a 2 es c]) N') ?_ ?_
 ·exact key N (oJ _) hQ
 ·intro i Y _ N' Z O;refine uO ?_
  repeat' first|with_reducible intro _|simp only[Y,Y1,Y2,Y3,Y4]|with_reducible refine X ?_ ?_|refine⟨_,_,_,rfl,?_⟩|refine⟨_,rfl,?_⟩|refine X0 ?_|fail
  all_goals(refine Qb (O _ (by assumption)) ?_;simp[w8,BJ, *])
 ·intro i x xs I _ aa N' Z O;have hb:=I.b;refine uO ?_
  repeat' first|with_reducible intro _|simp only[I.lt,I.w,oX,Y1,Y2,Y3,Y4]|with_reducible refine X ?_ ?_|refine⟨_,_,_,rfl,?_⟩|refine⟨_,rfl,?_⟩|refine X0 ?_|refine(ih x I.m _ I.r) _ _ ?_|fail
  ·refine Qb (O _ (by omega)) ?_;simp[w8, *]
  ·exact aa _ (by omega) λJ h=>Qb (O J (by omega)) (by simp[w8, *])
theorem wl (t:Ty)(d:D)(hd:t.Is d)(hc:t.cnt<=1073741824):tH 91 [.dg 2 d] t.valid:=λN Q I=>by
 refine rO N _ Q λ_=>?_;by_cases O:t.cnt<=30
 ·have J:((t.cnt:Int)<=30):=by omega
  repeat' first|with_reducible intro _|simp only[if_pos J,Y1,Y2,Y3,Y4]|with_reducible refine X ?_ ?_|refine⟨_,_,_,rfl,?_⟩|refine⟨_,rfl,?_⟩|refine X0 ?_|refine(sT t d hd _ (by omega) (by omega)) _ _ ?_|refine(wk t d hd hc) _ _ ?_|refine(sS t d hd) _ _ ?_|fail
  all_goals first | omega | skip
  ·have U:t.dep<=8:=by omega
   refine Qb (I _ (by omega)) ?_;simp[Ty.valid, *]
  ·have U:¬t.dep<=8:=by omega
   refine Qb (I _ (by omega)) ?_;simp[Ty.valid, *]
 ·have J:¬((t.cnt:Int)<=30):=by omega
  repeat' first|with_reducible intro _|simp only[if_neg J,Y1,Y2,Y3,Y4]|with_reducible refine X ?_ ?_|refine⟨_,_,_,rfl,?_⟩|refine⟨_,rfl,?_⟩|refine X0 ?_|refine(sT t d hd _ (by omega) (by omega)) _ _ ?_|refine(wk t d hd hc) _ _ ?_|refine(sS t d hd) _ _ ?_|fail
  all_goals first | omega | skip
  refine Qb (I _ (by omega)) ?_;simp[Ty.valid, *]
def KW (f:FuncId)(args:List PV)(t:Ty):Prop:=∀(N:Nat) (Q:QT [.ag 2]),(∀ I N',N<=N'->t.Is I->Own N N' I->Q I N')->ACalls prog f [.ag 2] args N Q
def tInt:Ty:=.mk 1 []
def tBool:Ty:=.mk 2 []
def tZero:Ty:=.mk 0 []
def B5 (a b:Ty):Ty:=.mk 3 [a,b]
def vK (a:Ty):Ty:=.mk 4 [a]
def Ty.base (t:Ty):Bool:=(t.k==1||t.k==2)&&(t.as.length:Int)==0
theorem vG (k:Int):(Ty.mk k []).Is (.ag [.j k,.sl none 2 [] 0]):=Ty.is_mk.2 ⟨_,_,_,rfl,by simp,rfl⟩
theorem qF {N N':Nat}{x:Value}:Own N N' (.ag [.lit x,.sl none 2 [] 0]):=⟨by simp[D.foot,yF],⟨trivial,⟨by simp,trivial⟩,trivial⟩,by simp[D.foot,yF],by simp[D.foot,yF]⟩
theorem tn:∀ l:List Ty,l.length<=yM l
 | []=>oJ _
 | .mk k l::ts=>by simp only[yM,Ty.cnt,oN];have:=tn ts;omega
theorem qX:KW 72 [] tInt:=λN Q J=>ER N Q λN' I=>J _ _ I (vG _) qF
theorem CT:KW 131 [] tBool:=λN Q J=>C7 N Q λN' I=>J _ _ I (vG _) qF
theorem Co {α:Type}{l:List α}{i:Nat}{x:α}(h:l[i]?=some x):l.take (i+1)=l.take i++[x]:=by rw[List.take_add_one,h];rfl
theorem vP:∀(t:Ty)(d:D),t.Is d->t.cnt<=1073741824->KW 105 [.dg 2 d] t:=by
 refine Ty.ind λk l ih d hd hc N Q hQ=>?_;obtain⟨a,es,c,rfl,V,Y⟩:=Ty.is_mk.1 hd;have hl:=Y.len;simp only[Ty.cnt]at hc;have aj:=tn l;refine C9 N _ Q λ_=>⟨_,rfl,?_⟩
 have key:=up Y V (λi xs=>∀(N':Nat),N<=N'->(i=0->wR Q N i (.ag [.j k,.sl a 2 es c]) 0 none [] 0 k none [] 0 N')/\∀(m q:Nat) (r:List D),m=r.length->All2 Ty.Is (l.take i) r->OwnL N N' r ->
  yH Q N i (.ag [.j k,.sl a 2 es c]) 0 none [] 0 k m q r q N') ?_ ?_
 ·exact(key N (oJ _)).1 rfl
 ·intro i Z hi N' ae;refine⟨λh0=>uN ?_,λm q r hm U ho=>wo ?_⟩
  ·repeat' first|with_reducible intro _|simp only[Z,Y1,Y2,Y3,Y4]|with_reducible refine X ?_ ?_|refine⟨_,_,_,rfl,?_⟩|refine⟨_,rfl,?_⟩|refine X0 ?_|fail
   have:l=[]:=oV (by omega);subst this;exact hQ _ _ (by omega) (vG _) qF
  ·repeat' first|with_reducible intro _|simp only[Z,Y1,Y2,Y3,Y4]|with_reducible refine X ?_ ?_|refine⟨_,_,_,rfl,?_⟩|refine⟨_,rfl,?_⟩|refine X0 ?_|fail
   rename_i a' N3 J hf N4 ah;rw[nT (by omega)]at U;exact hQ _ _ (by omega) (Ty.is_mk.2 ⟨_,_,_,rfl,by have:=U.len;omega,U⟩) (Fu (pO (xV ((Fv ho hf (by omega)).mono (oJ _) ah))))
 ·intro i x xs I _ aa N' ae;have hb:=I.b;have ak:=xm I.m;refine⟨λh0=>uN ?_,λm q r hm U ho=>wo ?_⟩
  ·repeat' first|with_reducible intro _|simp only[I.lt,I.w,oX,Y1,Y2,Y3,Y4]|with_reducible refine X ?_ ?_|refine⟨_,_,_,rfl,?_⟩|refine⟨_,rfl,?_⟩|refine X0 ?_|refine(ih x I.m _ I.r (by omega)) _ _ ?_|fail
   rename_i N2 ab d' N3 J hx O ai ac;subst h0;exact⟨by unfold zA;simp,λc2=>(aa _ (by omega)).2 _ _ _ rfl (by rw[Co I.g];exact⟨_,_,rfl,hx,rfl⟩) (xV (O.mono (by omega) (oJ _)))⟩
  ·repeat' first|with_reducible intro _|simp only[I.lt,I.w,oX,Y1,Y2,Y3,Y4]|with_reducible refine X ?_ ?_|refine⟨_,_,_,rfl,?_⟩|refine⟨_,rfl,?_⟩|refine X0 ?_|refine(ih x I.m _ I.r (by omega)) _ _ ?_|fail
   rename_i N2 ab d' N3 J hx O ai ac;have al:=U.len;have ao:(l.take i).length=i:=by rw[nW];omega
   refine⟨by unfold zA;simp only[oH,List.length_singleton];omega,λc2=>?_⟩;exact(aa _ (by omega)).2 _ _ _ rfl (by rw[Co I.g];exact U.snoc hx) (ti (ho.mono (oJ _) ab) (xV O) (by omega) J)
theorem upN {n:Nat} (hn:n<=4611686018427387904) (P:Nat->Prop) (hend:decide ((n:Int)<(n:Int))=false->P n)
  (hstep:∀ i:Nat,i<n->decide ((i:Int)<(n:Int))=true->IntKind.i64.wrap ((i:Int)+1)=((i+1:Nat):Int)->P (i+1)->P i):P 0:=by
 have key : ∀(m i:Nat),i+m=n->P i:=by
  intro m
  induction m with
  | zero => intro i h;have:i=n:=by omega
            subst this;exact hend (by simp)
  | succ m ih=>intro i h;exact hstep i (by omega) (nU (by omega)) (by rw[i64_in _ (by omega)];simp) (ih (i+1) (by omega))
 exact key n 0 (by omega)
abbrev tR (s:ByteArray)(i:Nat):Int:=((s.data.getD i (OfNat.ofNat 0)).toNat:Int)
def sX (s:ByteArray)(i:Nat):Bool:=(decide (tR s i≥97)&&decide (tR s i<=122))||(!(decide ((i:Int)=0))&&(!(decide (tR s i<48))&&!(decide (tR s i>57))))
def wI (s:ByteArray)(i:Nat):Bool:=(List.range' i (s.size - i)).all (sX s)
theorem sn {s:ByteArray}{i:Nat}(h:i<s.size):wI s i=(sX s i&&wI s (i+1)):=by unfold wI;rw[show s.size - i=(s.size - (i+1))+1 by omega,List.range'_succ];rfl
theorem qd {s:ByteArray}:wI s s.size=true:=by simp[wI]
def qh (s:ByteArray):Bool:=inB s.size 1 4&&(!(decide (s=bytes [105,102]))&&(!(decide (s=bytes [108,101,116]))&&(!(decide (s=bytes [114,101,99]))&&(!(decide (s=bytes [114,117,110]))&&!(decide (s=bytes [108,105,102,116]))))))
def xf (s:ByteArray):Bool:=wI s 0&&qh s
theorem sQ (s:ByteArray)(hs:s.size<=4611686018427387904):tH 127 [.str s] (xf s):=λN Q Y=>by
 refine C4 N s Q ?_;have key:=upN hs (λi=>∀ N',N<=N'->(∀ J,N'<=J->Q (wI s i&&qh s) J)->z6 Q N s i N') ?_ ?_
 ·exact key N (oJ _) Y
 ·intro O N' U I;refine uK ?_
  repeat' first|with_reducible intro _|simp only[O,Y1,Y2,Y3,Y4]|with_reducible refine X ?_ ?_|refine⟨_,_,_,rfl,?_⟩|refine⟨_,rfl,?_⟩|refine X0 ?_|refine(pu _ _ _) _ _ ?_|fail
  all_goals(refine Qb (I _ (by omega)) ?_;rw[qd])
  all_goals simp[qh,yi, *]
 ·intro i hi O Z V N' U I;refine uK ?_;rw[sn hi]at I
  repeat' first|with_reducible intro _|simp only[O,Z,oX,Y1,Y2,Y3,Y4]|with_reducible refine X ?_ ?_|refine⟨_,_,_,rfl,?_⟩|refine⟨_,rfl,?_⟩|refine X0 ?_|fail
  all_goals first
   | (refine Qb (I _ (by omega)) ?_;unfold sX tR;simp only[*];simp;done)
   | (refine V _ (by omega) λJ h=>Qb (I J (by omega)) ?_;unfold sX tR;simp only[*];simp;done)
inductive Tm where
 | mk (k:Int) (nm ot:ByteArray) (n:Int) (ty re:Ty) (l:List Tm)
def Tm.as:Tm->List Tm
 | .mk _ _ _ _ _ _ l=>l
structure Tm.Hd (nm ot:ByteArray) (ty re:Ty) (t0 t1 r0 r1:D):Prop where
 nm:nm.size<=4611686018427387904
 ot:ot.size<=4611686018427387904
 ty:ty.Is (.ag [t0,t1])
 re:re.Is (.ag [r0,r1])
mutual
def Tm.Is:Tm->D->Prop
 | .mk k nm ot n ty re l,d=>∃ t0 t1 r0 r1 a es c,d=.ag [.j k,.t nm,.t ot,.j n,t0,t1,r0,r1,.sl a 9 es c]/\Tm.Hd nm ot ty re t0 t1 r0 r1/\es.length<=4611686018427387904/\HD l es
def HD:List Tm->List D->Prop
 | [],es=>es=[]
 | t::ts,es=>∃ d ds,es=d::ds/\t.Is d/\HD ts ds
end
theorem Cq:∀ {l:List Tm}{es:List D},HD l es↔All2 Tm.Is l es
 | [],es=>by simp only[HD,All2]
 | t::ts,es=>by simp only[HD,All2];exact⟨λ⟨d,ds,I,J,O⟩=>⟨d,ds,I,J,Cq.1 O⟩,λ⟨d,ds,I,J,O⟩=>⟨d,ds,I,J,Cq.2 O⟩⟩
theorem Tm.is_mk {k:Int} {nm ot:ByteArray} {n:Int} {ty re:Ty} {l:List Tm} {d:D}:(Tm.mk k nm ot n ty re l).Is d ↔
  ∃ t0 t1 r0 r1 a es c,d=.ag [.j k,.t nm,.t ot,.j n,t0,t1,r0,r1,.sl a 9 es c]/\Tm.Hd nm ot ty re t0 t1 r0 r1/\es.length<=4611686018427387904/\All2 Tm.Is l es:=by
 simp only[Tm.Is,Cq]
theorem Tm.ind {P:Tm->Prop}(h:∀ k nm ot n ty re l,(∀ t∈l,P t)->P (.mk k nm ot n ty re l)):∀ t,P t:=λt=>
 Tm.rec (motive_1:=P) (motive_2:=λl=>∀ t∈l,P t) (λk nm ot n ty re l I=>h k nm ot n ty re l I) (by simp) (λt l J O u hu=>by
  rcases oG.1 hu with rfl | hu
  ·exact J
  ·exact O u hu) t
mutual
def Tm.cnt:Tm->Nat
 | .mk _ _ _ _ ty re l=>1+ty.cnt+re.cnt+xZ l
def xZ:List Tm->Nat
 | []=>0
 | t::ts=>t.cnt+xZ ts
end
theorem va:∀ {l:List Tm}{t:Tm},t∈l->t.cnt<=xZ l
 | u::us,t,h=>by
   simp only[xZ];rcases oG.1 h with rfl | h
   ·omega
   ·have:=va h;omega
theorem Am:∀ l:List Tm,l.length<=xZ l
 | []=>oJ _
 | .mk _ _ _ _ _ _ _::ts=>by simp only[xZ,Tm.cnt,oN];have:=Am ts;omega
mutual
def Tm.dp:Tm->Nat
 | .mk _ _ _ _ _ _ l=>s9 l+1
def s9:List Tm->Nat
 | []=>0
 | t::ts=>max t.dp (s9 ts)
end
mutual
theorem Tm.dp_cnt:∀ t:Tm,t.dp<=t.cnt
 | .mk _ _ _ _ ty re l=>by simp only[Tm.dp,Tm.cnt];have:=rC l;omega
theorem rC:∀ l:List Tm,s9 l<=xZ l
 | []=>oJ _
 | t::ts=>by simp only[s9,xZ];have:=t.dp_cnt;have:=rC ts;omega
end
theorem B8:∀ {l:List Tm}{t:Tm},t∈l->t.dp<=s9 l
 | u::us,t,h=>by
   simp only[s9];rcases oG.1 h with rfl | h
   ·omega
   ·have:=B8 h;omega
mutual
def Tm.G:Tm->Prop
 | .mk _ _ _ _ ty re l=>ty.cnt<=1073741824/\re.cnt<=1073741824/\l.length<=1073741824/\NL l
def NL:List Tm->Prop
 | []=>True
 | t::ts=>t.G/\NL ts
end
theorem Cp:∀ {l:List Tm}{x:Tm},NL l->x∈l->x.G
 | t::ts,x,h,hx=>by
   rcases oG.1 hx with rfl | hx
   ·exact h.1
   ·exact Cp h.2 hx
mutual
theorem Tm.G_cnt:∀ t:Tm,t.cnt<=1073741824->t.G
 | .mk _ _ _ _ ty re l,h=>by
   simp only[Tm.cnt]at h
   have:=Am l
   exact⟨by omega,by omega,by omega,GD l (by omega)⟩
theorem GD:∀ l:List Tm,xZ l<=1073741824->NL l
 | [],_=>trivial
 | t::ts,h=>by
   simp only[xZ]at h
   exact⟨Tm.G_cnt t (by omega),GD ts (by omega)⟩
end
structure Tg where
 nm:ByteArray
 ty:Ty
 lv:Int
def Tg.Is (g:Tg)(d:D):Prop:=∃ t0 t1,d=.ag [.t g.nm,t0,t1,.j g.lv]/\g.nm.size<=4611686018427387904/\g.ty.Is (.ag [t0,t1])
theorem Tg.is_mk {nm:ByteArray}{ty:Ty}{lv:Int}{d:D}:(Tg.mk nm ty lv).Is d↔∃ t0 t1,d=.ag [.t nm,t0,t1,.j lv]/\nm.size<=4611686018427387904/\ty.Is (.ag [t0,t1]):=mf
def rW (s:ByteArray):Int:=if s=bytes [43]then 2 else if s=bytes [45]then 2 else if s=bytes [42]then 2 else if s=bytes [61]then 2 else if s=bytes [60]then 2 else if s=bytes [38]then 2 else if s=bytes [124]then 2 else if s=bytes [33]then 1 else 0
theorem w6 (s:ByteArray):EU 95 [.str s] (rW s):=λN Q I=>by
 refine BR N s Q ?_
 repeat' first|with_reducible intro _|simp only[Y1,Y2,Y3,Y4]|with_reducible refine X ?_ ?_|refine⟨_,_,_,rfl,?_⟩|refine⟨_,rfl,?_⟩|refine X0 ?_|fail
 all_goals(refine Qi (I _ (by assumption)) ?_;unfold rW;(repeat' split)<;>first | rfl | contradiction)
def Ty.zero (t:Ty):Bool:=t.k==0&&(t.as.length:Int)==0
theorem sV (t:Ty)(d:D)(hd:t.Is d):tH 92 [.dg 2 d] t.zero:=λN Q O=>by
 cases t with
 | mk k l=>
 obtain⟨a,es,c,rfl,J,I⟩:=Ty.is_mk.1 hd;have hl:=I.len;refine DD N _ Q λ_=>?_
 repeat' first|with_reducible intro _|simp only[Y1,Y2,Y3,Y4]|with_reducible refine X ?_ ?_|refine⟨_,_,_,rfl,?_⟩|refine⟨_,rfl,?_⟩|refine X0 ?_|fail
 all_goals refine Qb (O _ (by assumption)) ?_
 all_goals simp[Ty.zero,Ty.k,Ty.as,hl, *]
def yT (k:Int)(nm ot:ByteArray):Bool:=
 if k=4 then decide (rW nm>0)&&decide (ot=bytes [])else if k=1\/k=6\/k=8 then xf nm&&decide (ot=bytes [])else if k=9 then xf nm&&(xf ot&&!decide (nm=ot))else decide (nm=bytes [])&&decide (ot=bytes [])
theorem Nh (a b:Int):(a==b)=decide (a=b):=by rw[mb];simp
def qf (k:Int):Bool:=k==6||k==9
def zw (k:Int)(nm ot:ByteArray)(n:Int)(ty re:Ty):Bool:=
 (qf k==ty.valid)&&((qf k||ty.zero)&&(((k==9)==re.valid)&&((k==9||re.zero)&&(inB n 0 (if k=2 then 10006 else if k=3 then 1 else 0)&&yT k nm ot))))
def DK (k:Int)(nm:ByteArray):Int:=
 if k=1\/k=2\/k=3 then 0 else if k=4 then rW nm else if k=6\/k=9\/k=10\/k=11\/k=12\/k=13 then 1 else if k=7\/k=8 then 2 else if k=5 then 3 else -1
mutual
def Tm.ok:Tm->Bool
 | .mk k nm ot n ty re l=>BL l&&(zw k nm ot n ty re&&(l.length:Int)==DK k nm)
def BL:List Tm->Bool
 | []=>true
 | t::ts=>t.ok&&BL ts
end
theorem BG {k n:Int}{nm ot:ByteArray}{ty re:Ty}{t0 t1 r0 r1 x:D}(h:Tm.Hd nm ot ty re t0 t1 r0 r1):tH 94 [.dg 9 (.ag [.j k,.t nm,.t ot,.j n,t0,t1,r0,r1,x])] (yT k nm ot):=λN Q I=>by
 refine BU N _ Q λ_=>?_
 repeat' first|with_reducible intro _|simp only[Y1,Y2,Y3,Y4]|with_reducible refine X ?_ ?_|refine⟨_,_,_,rfl,?_⟩|refine⟨_,rfl,?_⟩|refine X0 ?_|refine(w6 _) _ _ ?_|refine(sQ _ h.nm) _ _ ?_|refine(sQ _ h.ot) _ _ ?_|fail
 all_goals(refine Qb (I _ (by omega)) ?_;simp[yT,yi, *])
theorem pv {k n:Int} {nm ot:ByteArray} {ty re:Ty} {t0 t1 r0 r1 x:D} (h:Tm.Hd nm ot ty re t0 t1 r0 r1) (hc:ty.cnt<=1073741824) (I:re.cnt<=1073741824) :
  tH 57 [.dg 9 (.ag [.j k,.t nm,.t ot,.j n,t0,t1,r0,r1,x])] (zw k nm ot n ty re):=λN Q J=>by
 refine A2 N _ Q λ_=>?_
 repeat' first|with_reducible intro _|simp only[Y1,Y2,Y3,Y4]|with_reducible refine X ?_ ?_|refine⟨_,_,_,rfl,?_⟩|refine⟨_,rfl,?_⟩|refine X0 ?_|refine(wl _ _ h.ty hc) _ _ ?_|refine(wl _ _ h.re I) _ _ ?_|refine(sV _ _ h.ty) _ _ ?_|refine(sV _ _ h.re) _ _ ?_|refine(pu _ _ _) _ _ ?_|refine(BG h) _ _ ?_|fail
 all_goals first | (exfalso;omega) | (refine Qb (J _ (by omega)) ?_;simp[zw,qf, *];done) | (refine Qb (J _ (by omega)) ?_;simp_all[zw,qf];done) | (refine Qb (J _ (by omega)) ?_;simp_all only[zw,qf,Nh];simp_all;done)
theorem yU {k n:Int}{nm ot:ByteArray}{t0 t1 r0 r1 x:D}:EU 58 [.dg 9 (.ag [.j k,.t nm,.t ot,.j n,t0,t1,r0,r1,x])] (DK k nm):=λN Q I=>by
 refine BS N _ Q λ_=>?_
 repeat' first|with_reducible intro _|simp only[Y1,Y2,Y3,Y4]|with_reducible refine X ?_ ?_|refine⟨_,_,_,rfl,?_⟩|refine⟨_,rfl,?_⟩|refine X0 ?_|refine(w6 _) _ _ ?_|fail
 all_goals(refine Qi (I _ (by omega)) ?_;simp[DK, *])
theorem BF:∀(t:Tm)(d:D),t.Is d->t.G->tH 25 [.dg 9 d] t.ok:=by
 refine Tm.ind λk nm ot n ty re l ih d hd hc N Q hQ=>?_;obtain⟨t0,t1,r0,r1,a,es,c,rfl,hh,U,V⟩:=Tm.is_mk.1 hd;have hl:=V.len;obtain⟨g1,g2,_,g4⟩:=hc;refine C5 N _ Q λ_=>?_;have key:=up V U (λi xs=>∀(N':Nat),N<=N'->(∀ J,N'<=J->Q (BL xs&&(zw k nm ot n ty re&&(l.length:Int)==DK k nm)) J)->xB Q N i (.ag [.j k,.t nm,.t ot,.j n,t0,t1,r0,r1,.sl a 9 es c]) N') ?_ ?_
 ·exact key N (oJ _) hQ
 ·intro i Y _ N' Z O;refine uL ?_
  repeat' first|with_reducible intro _|simp only[Y,Y1,Y2,Y3,Y4]|with_reducible refine X ?_ ?_|refine⟨_,_,_,rfl,?_⟩|refine⟨_,rfl,?_⟩|refine X0 ?_|refine(pv hh (by omega) (by omega)) _ _ ?_|refine yU _ _ ?_|fail
  all_goals(refine Qb (O _ (by omega)) ?_;simp[BL, *])
 ·intro i x xs I _ aa N' Z O;have hb:=I.b;have ab:=Cp g4 I.m;refine uL ?_
  repeat' first|with_reducible intro _|simp only[I.lt,I.w,oX,Y1,Y2,Y3,Y4]|with_reducible refine X ?_ ?_|refine⟨_,_,_,rfl,?_⟩|refine⟨_,rfl,?_⟩|refine X0 ?_|refine(ih x I.m _ I.r ab) _ _ ?_|fail
  ·refine Qb (O _ (by omega)) ?_;simp[BL, *]
  ·exact aa _ (by omega) λJ h=>Qb (O J (by omega)) (by simp[BL, *])
theorem sR (t:Tm)(d:D)(h:t.Is d)(hc:t.cnt<=1073741824):tH 25 [.dg 9 d] t.ok:=BF t d h (Tm.G_cnt t hc)
theorem vS {n a b:Int}:inB n a b=true↔a<=n/\n<=b:=by simp[inB]
def Nl (k n:Int):Int:=if k=10 then n+1 else if k=11 then n - 1 else n
mutual
def Tm.lev:Tm->Int->Bool
 | .mk k _ _ _ _ _ l,n=>inB n 0 2&&Kz l (Nl k n)
def Kz:List Tm->Int->Bool
 | [],_=>true
 | t::ts,n=>t.lev n&&Kz ts n
end
def Tg.ok (g:Tg):Bool:=xf g.nm&&(g.ty.valid&&inB g.lv 0 2)
theorem Ty.is_cells {t:Ty}{d:D}(h:t.Is d):t.Is (.ag [D.cell d 0,D.cell d 1]):=by
 cases t with
 | mk k l=>obtain⟨a,es,c,rfl,_,_⟩:=Ty.is_mk.1 h;exact h
theorem Ty.valid_cnt {t:Ty}(h:t.valid=true):t.cnt<=30:=by simp only[Ty.valid,oL,oc]at h;exact h.1.1
structure Pre (g:List Tg) (e:Tm) (n:Int):Prop where
 ok:e.ok=true
 lev:e.lev n=true
 len:g.length+2*e.dp<=1073741824
 ty:∀ x∈g,x.ty.cnt<=64
structure Node (k:Int) (nm ot:ByteArray) (n:Int) (ty re:Ty) (l:List Tm):Prop where
 f:zw k nm ot n ty re=true
 ar:(l.length:Int)=DK k nm
 sub:∀ x∈l,x.ok=true
theorem EB:∀ {l:List Tm}{x:Tm},BL l=true->x∈l->x.ok=true
 | t::ts,x,h,hx=>by
   simp only[BL,oL]at h;rcases oG.1 hx with rfl | hx
   ·exact h.1
   ·exact EB h.2 hx
theorem Lg {k:Int}{nm ot:ByteArray}{n:Int}{ty re:Ty}{l:List Tm}(h:(Tm.mk k nm ot n ty re l).ok=true):Node k nm ot n ty re l:=by simp only[Tm.ok,oL]at h;exact⟨h.2.1,by simpa using h.2.2,λx I=>EB h.1 I⟩
theorem Node.vt {k n:Int}{nm ot:ByteArray}{ty re:Ty}{l:List Tm}(h:Node k nm ot n ty re l)(I:k=6\/k=9):ty.valid=true:=by
 have:=h.f
 have e:qf k=true:=by rcases I with rfl | rfl<;>rfl
 simp only[zw,oL,e]at this;simpa using this.1
theorem Node.vr {k n:Int}{nm ot:ByteArray}{ty re:Ty}{l:List Tm}(h:Node k nm ot n ty re l)(I:k=9):re.valid=true:=by
 have:=h.f
 subst I;simp only[zw,oL]at this;simpa using this.2.2.1
theorem HI {k:Int}{nm:ByteArray}(h:0<=DK k nm):k=1\/k=2\/k=3\/k=4\/k=5\/k=6\/k=7\/k=8\/k=9\/k=10\/k=11\/k=12\/k=13:=by
 unfold DK at h
 (repeat' split at h)<;>omega
theorem v8 (k:Int)(nm:ByteArray):DK k nm<=3:=by
 unfold DK
 (repeat' split)<;>first | omega | (unfold rW;(repeat' split)<;>omega)
theorem Pre.lv {g:List Tg}{e:Tm}{n:Int}(h:Pre g e n):0<=n/\n<=2:=by
 have:=h.lev
 cases e;simp only[Tm.lev,oL]at this;exact vS.1 this.1
theorem I1:tZero.Is (.ag [.j 0,.sl none 2 [] 0]):=vG 0
end Go.Proofs.YtidiofobanefmaaGreatDoor
