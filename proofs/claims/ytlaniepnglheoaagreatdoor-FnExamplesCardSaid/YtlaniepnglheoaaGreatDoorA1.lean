/- Data as plain trees, and what the laws' first look at them (their size) comes to. -/
import Derived.IntWalk
import Derived.Test.YtlaniepnglheoaaGreatDoorKa
import Derived.Test.YtlaniepnglheoaaGreatDoorJh
set_option linter.unusedVariables false
set_option linter.unusedSimpArgs false
namespace Go.Proofs.YtlaniepnglheoaaGreatDoor
open Go Go.Proofs Go.Proofs.Tryz Go.IntWalk
variable {A B:Prop} {N N' N1 N2 c c1 i:Nat} {a a1:aH} {b m n:Int} {d d0 r0 r1 t0 t1 x:D} {es:aM} {nm ot s:aG} {v:Bool}
inductive Ty where
 | mk (k:Int) (l:List Ty)
abbrev aR:=List Ty
variable {re t ty:Ty} {ts:aR}
mutual
def Ty.Is:Ty->D->Prop
 | .mk k l,d=>∃ a es c,d=.ag [.j k,.sl a 2 es c]/\es.length<=4611686018427387904/\TysIs l es
def TysIs:aR->aM->Prop
 | [],es=>es=[]
 | t::ts,es=>∃ d ds,es=d::ds/\t.Is d/\TysIs ts ds
end
theorem TysIs.len:∀ {ts:aR}{es:aM},TysIs ts es->es.length=ts.length
 | [],es,h=>by simp[TysIs]at h;subst h;rfl
 | t::ts,es,h=>by simp only[TysIs]at h;obtain⟨d,ds,rfl,_,h⟩:=h;simp[TysIs.len h]
theorem Br.of (I:v=true->A)(J:v=false->B):Br v A B:=by
 cases v
 ·exact J rfl
 ·exact I rfl
structure OwnL (N N':Nat) (es:aM):Prop where
 nd:(zC es).Nodup
 fl:wK es
 lo:∀ b∈zC es,N<=b
 hi:∀ b∈zC es,b<N'
structure Own (N N':Nat) (d:D):Prop where
 nd:d.foot.Nodup
 fl:d.Flat0
 lo:∀ b∈d.foot,N<=b
 hi:∀ b∈d.foot,b<N'
theorem Own.mono {I J}(h:Own N1 N2 d)(O:I<=N1)(U:N2<=J):Own I J d:=⟨h.nd,h.fl,λb hb=>oR O (h.lo b hb),λb hb=>o7 (h.hi b hb) U⟩
theorem OwnL.mono {I J}(h:OwnL N1 N2 es)(O:I<=N1)(U:N2<=J):OwnL I J es:=⟨h.nd,h.fl,λb hb=>oR O (h.lo b hb),λb hb=>o7 (h.hi b hb) U⟩
theorem GI:OwnL N N' []:=⟨by simp[zC],trivial,by simp[zC],by simp[zC]⟩
theorem xB:∀ {a b:aM},wK a->wK b->wK (a++b)
 | [],b,_,h=>h
 | x::a,b,I,J=>⟨I.1,xB I.2 J⟩
theorem zg {fs}(I:OwnL N N1 es)(J:OwnL N1 N2 fs)(hN:N<=N1)(O:N1<=N2):OwnL N N2 (es++fs):=by
 refine⟨?_,xB I.fl J.fl,λb hb=>?_,λb hb=>?_⟩
 ·rw[zF,nV];refine⟨I.nd,J.nd,λx U y Y aa=>?_⟩
  have:=I.hi x U;have:=J.lo y Y;omega
 ·rw[zF]at hb;rcases oM.1 hb with hb | hb
  ·exact I.lo b hb
  ·have:=J.lo b hb;omega
 ·rw[zF]at hb;rcases oM.1 hb with hb | hb
  ·have:=I.hi b hb;omega
  ·exact J.hi b hb
theorem zf (h:Own N N' d):OwnL N N' [d]:=⟨by simpa [zC]using h.nd,⟨h.fl,trivial⟩,by simpa [zC]using h.lo,by simpa [zC]using h.hi⟩
theorem zW {x}(h:OwnL N N' es):OwnL N N' (.lit x::es):=⟨by simpa [zC,D.foot]using h.nd,⟨trivial,h.fl⟩,by simpa [zC,D.foot]using h.lo,by simpa [zC,D.foot]using h.hi⟩
theorem BW {cs}(h:OwnL N N' cs):Own N N' (.ag cs):=⟨by simpa only[D.foot]using h.nd,h.fl,by simpa only[D.foot]using h.lo,by simpa only[D.foot]using h.hi⟩
theorem p8 {N3 z ds}(h:OwnL N N1 es)(O:Fresh N N3 a (.ag es::ds))(hN:N1<=N3):Own N N3 (.sl a z es c):=by
 cases a with
 | none=>exact⟨by simpa only[D.foot]using h.nd,⟨aB,h.fl⟩,by simpa only[D.foot]using h.lo,λb hb=>by simp only[D.foot]at hb;have:=h.hi b hb;omega⟩
 | some ad=>
   have J:=O.ap ad rfl (.ag es) aB;simp only[D.foot]at J;have I:∀ b∈(D.sl (some ad) z es c).foot,b=ad.block\/b∈zC es:=λb hb=>by
    simp only[D.foot]at hb;split at hb
    ·simp at hb
    ·exact oK.1 hb
   refine⟨?_,⟨λU Y=>by cases Y;exact O.off ad rfl,h.fl⟩,λb hb=>?_,λb hb=>?_⟩
   ·simp only[D.foot];split
    ·exact mR
    ·exact mA.2 ⟨J,h.nd⟩
   ·rcases I b hb with rfl | hb
    ·exact O.lo ad rfl
    ·exact h.lo b hb
   ·rcases I b hb with rfl | hb
    ·exact O.hi ad rfl
    ·have:=h.hi b hb;omega
mutual
def Ty.cnt:Ty->Nat
 | .mk _ l=>1+zI l
def zI:aR->Nat
 | []=>0
 | t::ts=>t.cnt+zI ts
end
theorem Bel.mono {M}(h:Bel N x)(I:N<=M):Bel M x:=λb hb=>o7 (h b hb) I
mutual
def rk:Ty->Ty->Bool
 | .mk k l,.mk I l'=>k==I&&qI l l'
def qI:aR->aR->Bool
 | [],[]=>true
 | t::ts,u::us=>rk t u&&qI ts us
 | _,_=>false
end
mutual
theorem DB:∀(t u:Ty),rk t u=true↔t=u
 | .mk k l,.mk I l'=>by simp[rk,Nf l l']
theorem Nf:∀(l m:aR),qI l m=true↔l=m
 | [],[]=>by simp[qI]
 | t::ts,u::us=>by simp[qI,DB t u,Nf ts us]
 | [],u::us=>by simp[qI]
 | t::ts,[]=>by simp[qI]
end
theorem Ht:∀ {l m:aR},l.length≠m.length->qI l m=false
 | [],[],h=>absurd rfl h
 | t::ts,u::us,h=>by simp only[qI,Ht (l:=ts) (m:=us) (by simpa using h),lM]
 | [],u::us,_=>rfl
 | t::ts,[],_=>rfl
theorem J8:Br true A B=A:=rfl
theorem F5:Br false A B=B:=rfl
theorem Br.not (I:v=false->A)(J:v=true->B):Br (!v) A B:=by
 cases v
 ·exact I rfl
 ·exact J rfl
theorem Br.dec {p}[Decidable p](I:p->A)(J:¬p->B):Br (decide p) A B:=Br.of (λh=>I (lN h)) λh=>J (of_decide_eq_false h)
theorem Br.ndec {p}[Decidable p](I:¬p->A)(J:p->B):Br (!(decide p)) A B:=Br.not (λh=>I (of_decide_eq_false h)) λh=>J (lN h)
theorem Br.beq {a}(I:a=b->A)(J:¬a=b->B):Br (a==b) A B:=Br.of (λh=>I (by simpa using h)) λh=>J (by simpa using h)
theorem Br.bne {a:Int}(I:¬a=b->A)(J:a=b->B):Br (bne a b) A B:=Br.of (λh=>I (by simpa using h)) λh=>J (by simpa using h)
theorem MR {t}(h:s.toList=t.toList):s=t:=by rw[ByteArray.toList_eq,ByteArray.toList_eq]at h;cases s;cases t;simpa using h
theorem xa {t}:(s.toList==t.toList)=decide (s=t):=by
 by_cases h:s=t
 ·simp[h]
 ·have:¬s.toList=t.toList:=λhc=>h (MR hc);simp[h,this]
theorem Br.str {t}(I:s=t->A)(J:¬s=t->B):Br (s.toList==t.toList) A B:=by rw[xa];exact Br.dec I J
theorem Br.nstr {t}(I:¬s=t->A)(J:s=t->B):Br (!(s.toList==t.toList)) A B:=by rw[xa];exact Br.ndec I J
def uE f args b:=∀(N:Nat) (Q:QT [.bool]),(∀ N',N<=N'->Q b N')->ACalls prog f [.bool] args N Q
def BK f args n:=∀(N:Nat) (Q:QT [.i]),(∀ N',N<=N'->Q n N')->ACalls prog f [.i] args N Q
theorem Qi {Q:QT [.i]}(h:Q n N)(e:n=m):Q m N:=e ▸ h
theorem Qb {Q:QT [.bool]}{n m}(h:Q n N)(e:n=m):Q m N:=e ▸ h
def All2 {α:Type}(R:α->D->Prop):List α->aM->Prop
 | [],es=>es=[]
 | t::ts,es=>∃ d ds,es=d::ds/\R t d/\All2 R ts ds
theorem All2.len {α R}:∀ {l:List α}{es:aM},All2 R l es->es.length=l.length
 | [],es,h=>by cases h;rfl
 | t::ts,es,⟨d,ds,I,_,h⟩=>by subst I;simp[h.len]
theorem All2.get {α R}:∀ {l:List α}{es:aM}{i:Nat}{x:α},All2 R l es->l[i]?=some x->R x (es.getD i default)
 | [],es,i,x,h,I=>by simp at I
 | t::ts,es,i,x,⟨d,ds,J,O,U⟩,I=>by
   subst J;cases i with
   | zero=>simp at I;subst I;simpa [oA]using O
   | succ i=>simpa [oA]using U.get (by simpa using I)
theorem All2.snoc {α R}:∀ {l:List α}{es:aM}{t:α}{d:D},All2 R l es->R t d->All2 R (l++[t]) (es++[d])
 | [],es,t,d,h,I=>by cases h;exact⟨d,[],rfl,I,rfl⟩
 | u::ts,es,t,d,⟨x,ds,J,O,U⟩,I=>by subst J;exact⟨x,ds++[d],rfl,O,U.snoc I⟩
theorem All2.app {α R}:∀ {l m:List α}{es fs:aM},All2 R l es->All2 R m fs->All2 R (l++m) (es++fs)
 | [],m,es,fs,h,I=>by cases h;exact I
 | u::ts,m,es,fs,⟨x,ds,J,O,U⟩,I=>by subst J;exact⟨x,ds++fs,rfl,O,U.app I⟩
theorem All2.mono {α R S}(I:∀ x d,R x d->S x d):∀ {l:List α}{es:aM},All2 R l es->All2 S l es
 | [],es,h=>h
 | u::ts,es,⟨x,ds,J,O,U⟩=>⟨x,ds,J,I _ _ O,U.mono I⟩
structure At {α:Type} (R:α->D->Prop) (l:List α) (es:aM) (i:Nat) (x:α):Prop where
 lt:decide ((i:Int)<(es.length:Int))=true
 b:(0:Int)<=(i:Int)/\(i:Int)<(es.length:Int)
 w:IntKind.i64.wrap ((i:Int)+1)=((i+1:Nat):Int)
 r:R x (es.getD i default)
 m:x∈l
 g:l[i]?=some x
theorem up {α R l}(h:All2 R l es)(U:es.length<=4611686018427387904)(P:Nat->List α->Prop)(O:∀ n:Nat,decide ((n:Int)<(es.length:Int))=false->n=es.length->P n [])(I:∀(i:Nat) x xs,At R l es i x->l.drop (i+1)=xs->P (i+1) xs->P i (x::xs)):P 0 l:=by
 have hl:=h.len;have key:∀(rest pre:List α),l=pre++rest->P pre.length rest:=by
  intro rest
  induction rest with
  | nil=>intro pre J;rw[o8]at J;subst J;exact O _ (by simp[hl]) hl.symm
  | cons x xs Y=>
    intro pre J;have hi:l[pre.length]?=some x:=by rw[J];simp
    have aa:pre.length<l.length:=(oD.1 hi).1;have hx:=h.get hi;refine I pre.length x xs ⟨nh aA,⟨aA,aA⟩,?_,hx,by rw[J];simp,hi⟩ (by rw[J];simp) ?_
    ·rw[i64_in _ aA];simp
    ·have:=Y (pre++[x]) (by rw[J];simp)
     simpa using this
 exact key l [] rfl
theorem Qh:∀ {l:aR}{es:aM},TysIs l es->All2 Ty.Is l es
 | [],es,h=>by simp only[TysIs]at h;exact h
 | t::ts,es,h=>by simp only[TysIs]at h;obtain⟨d,ds,I,J,O⟩:=h;exact⟨d,ds,I,J,Qh O⟩
theorem Pc:∀ {l:aR}{es:aM},All2 Ty.Is l es->TysIs l es
 | [],es,h=>by simp only[TysIs];exact h
 | t::ts,es,⟨d,ds,I,J,O⟩=>by simp only[TysIs];exact⟨d,ds,I,J,Pc O⟩
def Ty.k:Ty->Int
 | .mk k _=>k
def Ty.as:Ty->aR
 | .mk _ l=>l
theorem Ty.is_mk {k l}:(Ty.mk k l).Is d↔∃ a es c,d=.ag [.j k,.sl a 2 es c]/\es.length<=4611686018427387904/\All2 Ty.Is l es:=by simp only[Ty.Is];exact⟨λ⟨a,es,c,I,J,O⟩=>⟨a,es,c,I,J,Qh O⟩,λ⟨a,es,c,I,J,O⟩=>⟨a,es,c,I,J,Pc O⟩⟩
theorem Ty.ind {P:Ty->Prop}(h:∀ k l,(∀ t∈l,P t)->P (.mk k l)):∀ t,P t:=λt=>
 Ty.rec (motive_1:=P) (motive_2:=λl=>∀ t∈l,P t) (λk l I=>h k l I) aB (λt l J O u hu=>by
  rcases oK.1 hu with rfl | hu
  ·exact J
  ·exact O u hu) t
class Dv (v:Bool) (P Q:outParam Prop):Prop where
 t:v=true->P
 f:v=false->Q
instance (priority:=100) dv9 {v:Bool}:Dv v (v=true) (v=false):=⟨id,id⟩
instance (priority:=500) dv4 {v:Bool}:Dv (!v) (v=false) (v=true):=⟨aB,aB⟩
instance dv1 {p:Prop} [Decidable p]:Dv (!(decide p)) (¬p) p:=⟨aB,aB⟩
instance dv2 {s t:aG}:Dv (!(s.toList==t.toList)) (¬s=t) (s=t):=⟨by rw[xa];simp,by rw[xa];simp⟩
instance dv3 {a b:Int}:Dv (!(a==b)) (¬a=b) (a=b):=⟨aB,aB⟩
instance dv5 {p:Prop} [Decidable p]:Dv (decide p) p (¬p):=⟨aB,aB⟩
instance dv6 {s t:aG}:Dv (s.toList==t.toList) (s=t) (¬s=t):=⟨by rw[xa];simp,by rw[xa];simp⟩
instance dv7 {a b:Int}:Dv (a==b) (a=b) (¬a=b):=⟨aB,aB⟩
instance dv8 {a b:Int}:Dv (bne a b) (¬a=b) (a=b):=⟨aB,aB⟩
theorem X {P Q}[h:Dv v P Q](I:P->A)(J:Q->B):Br v A B:=Br.of (λg=>I (h.t g)) λg=>J (h.f g)
theorem X0 (b:B)(a:A:=by first|omega|trivial|(show _=_;rfl)|(with_reducible constructor)<;>first|omega|trivial|rfl|(simp only[oJ];omega)):A/\B:=⟨a,b⟩
theorem Y1:(!true)=false/\(!false)=true/\(∀ A B:Prop,Br true A B=A)/\∀ A B:Prop,Br false A B=B:=⟨rfl,rfl,λ_ _=>rfl,λ_ _=>rfl⟩
def inB (n a b:Int):Bool:=decide (a<=n)&&decide (n<=b)
theorem xb n a b:uE 44 [.j n,.j a,.j b] (inB n a b):=λN Q I=>by
 refine PX N n a b Q ?_
 repeat' first|with_reducible intro _|simp only[Y1]|with_reducible refine X ?_ ?_|refine⟨_,_,_,rfl,?_⟩|refine⟨_,rfl,?_⟩|refine X0 ?_|fail
 all_goals simpa [inB, *]using I _ aA
theorem Eu a b:BK 150 [.j a,.j b] (max a b):=λN Q I=>by
 refine Nu N a b Q ?_
 repeat' first|with_reducible intro _|simp only[Y1]|with_reducible refine X ?_ ?_|refine⟨_,_,_,rfl,?_⟩|refine⟨_,rfl,?_⟩|refine X0 ?_|fail
 ·have:=I _ aE
  rwa[Int.max_eq_left aA]at this
 ·have:=I _ aE
  rwa[Int.max_eq_right aA]at this
mutual
def Ty.dep:Ty->Nat
 | .mk _ l=>sj l+1
def sj:aR->Nat
 | []=>0
 | t::ts=>max t.dep (sj ts)
end
mutual
theorem Ty.dep_cnt:∀ t:Ty,t.dep<=t.cnt
 | .mk _ l=>by simp only[Ty.dep,Ty.cnt];have:=As l;omega
theorem As:∀ l:aR,sj l<=zI l
 | []=>oC _
 | t::ts=>by simp only[sj,zI];have:=t.dep_cnt;have:=As ts;omega
end
theorem ww:∀ {l:aR}{t:Ty},t∈l->t.cnt<=zI l
 | u::us,t,h=>by
   simp only[zI];rcases oK.1 h with rfl | h
   ·omega
   ·have:=ww h;omega
def pJ (k:Int)(n:Nat):Bool:=if k=1\/k=2 then(n:Int)==0 else if k=3 then(n:Int)==2 else if k=4 then(n:Int)==1 else false
mutual
def Ty.form:Ty->Bool
 | .mk k l=>t8 l&&pJ k l.length
def t8:aR->Bool
 | []=>true
 | t::ts=>t.form&&t8 ts
end
def Ty.valid (t:Ty):Bool:=decide (t.cnt<=30)&&decide (t.dep<=8)&&t.form
theorem Ca:∀(t:Ty)(d:D),t.Is d->∀ n:Int,0<=n->n<=1000->BK 97 [.dg 2 d,.j n] (if(t.cnt:Int)<=n then n - t.cnt else -1):=by
 refine Ty.ind λk l ih d hd n ae ah N Q hQ=>?_;obtain⟨a,es,c,rfl,U,Y⟩:=Ty.is_mk.1 hd;refine Lt N _ n Q λ_=>?_;have key:=up Y U (λi xs=>∀(m:Int) (N':Nat),N<=N' -> -1<=m->m<=1000->(∀ N'',N'<=N''->Q (if m<0 then -1 else if(zI xs:Int)<=m then m - zI xs else -1) N'') ->
  vQ Q N m i (.ag [.j k,.sl a 2 es c]) N') ?_ ?_
 ·rw[i64_in _ aA];refine key (n - 1) N (oC _) aA aA λN' O=>Qi (hQ N' O) ?_;simp only[Ty.cnt]
  (repeat' split)<;>omega
 ·intro i aa _ m N' O h1 h2 J;refine pa ?_
  repeat' first|with_reducible intro _|simp only[aa,Y1]|with_reducible refine X ?_ ?_|refine⟨_,_,_,rfl,?_⟩|refine⟨_,rfl,?_⟩|refine X0 ?_|fail
  refine Qi (J _ aE) ?_;simp only[zI]
  (repeat' split)<;>omega
 ·intro i x xs I _ ab m N' O h1 h2 J;have hb:=I.b;refine pa ?_
  repeat' first|with_reducible intro _|simp only[I.lt,I.w,oI,Y1]|with_reducible refine X ?_ ?_|refine⟨_,_,_,rfl,?_⟩|refine⟨_,rfl,?_⟩|refine X0 ?_|refine(ih x I.m _ I.r m aA aA) _ _ ?_|fail
  ·refine ab _ _ aA (by split<;>omega) (by split<;>omega) λN'' ac=>Qi (J N'' aA) ?_;simp only[zI]
   (repeat' split)<;>omega
  ·refine Qi (J _ aE) ?_;rw[if_pos aA];omega
theorem sO:∀(t:Ty)(d:D),t.Is d->t.cnt<=1073741824->BK 98 [.dg 2 d] t.dep:=by
 refine Ty.ind λk l ih d hd hc N Q hQ=>?_;obtain⟨a,es,c,rfl,J,U⟩:=Ty.is_mk.1 hd;refine DO N _ Q λ_=>?_;simp only[Ty.cnt]at hc;have ab:=As l;have key:=up U J (λi xs=>∀(m:Nat) (N':Nat),N<=N'->max m (sj xs)=sj l->xL Q N (m:Int) i (.ag [.j k,.sl a 2 es c]) N') ?_ ?_
 ·exact key 0 N (oC _) aA
 ·intro i Y _ m N' O hm;simp only[sj]at hm;refine u4 ?_
  repeat' first|with_reducible intro _|simp only[Y,Y1]|with_reducible refine X ?_ ?_|refine⟨_,_,_,rfl,?_⟩|refine⟨_,rfl,?_⟩|refine X0 ?_|fail
  rw[i64_in _ aA];refine Qi (hQ _ (oR O aE)) ?_;simp only[Ty.dep];omega
 ·intro i x xs I _ aa m N' O hm;have hb:=I.b;have ac:=ww I.m;simp only[sj]at hm;refine u4 ?_
  repeat' first|with_reducible intro _|simp only[I.lt,I.w,oI,Y1]|with_reducible refine X ?_ ?_|refine⟨_,_,_,rfl,?_⟩|refine⟨_,rfl,?_⟩|refine X0 ?_|refine(ih x I.m _ I.r aA) _ _ ?_|refine(Eu _ _) _ _ ?_|fail
  have e:max (m:Int) (x.dep:Int)=((max m x.dep:Nat):Int):=aA
  rw[e];exact aa _ _ aA aA
theorem CZ:∀(t:Ty)(d:D),t.Is d->uE 99 [.dg 2 d] t.form:=by
 refine Ty.ind λk l ih d hd N Q hQ=>?_;obtain⟨a,es,c,rfl,O,U⟩:=Ty.is_mk.1 hd;have hl:=U.len;refine Ls N _ Q λ_=>?_;have key:=up U O (λi xs=>∀(N':Nat),N<=N'->(∀ N'',N'<=N''->Q (t8 xs&&pJ k l.length) N'')->vP Q N i (.ag [.j k,.sl a 2 es c]) N') ?_ ?_
 ·exact key N (oC _) hQ
 ·intro i Y _ N' aa J;refine pZ ?_
  repeat' first|with_reducible intro _|simp only[Y,Y1]|with_reducible refine X ?_ ?_|refine⟨_,_,_,rfl,?_⟩|refine⟨_,rfl,?_⟩|refine X0 ?_|fail
  all_goals(refine Qb (J _ aE) ?_;simp[t8,pJ, *])
 ·intro i x xs I _ ab N' aa J;have hb:=I.b;refine pZ ?_
  repeat' first|with_reducible intro _|simp only[I.lt,I.w,oI,Y1]|with_reducible refine X ?_ ?_|refine⟨_,_,_,rfl,?_⟩|refine⟨_,rfl,?_⟩|refine X0 ?_|refine(ih x I.m _ I.r) _ _ ?_|fail
  ·refine Qb (J _ aA) ?_;simp[t8, *]
  ·exact ab _ aA λN'' h=>Qb (J N'' aA) (by simp[t8, *])
theorem yL (t:Ty) d(hd:t.Is d)(hc:t.cnt<=1073741824):uE 49 [.dg 2 d] t.valid:=λN Q I=>by
 refine DS N _ Q λ_=>?_;by_cases O:t.cnt<=30
 ·have J:((t.cnt:Int)<=30):=aA
  repeat' first|with_reducible intro _|simp only[if_pos J,Y1]|with_reducible refine X ?_ ?_|refine⟨_,_,_,rfl,?_⟩|refine⟨_,rfl,?_⟩|refine X0 ?_|refine(Ca t d hd _ aA aA) _ _ ?_|refine(sO t d hd hc) _ _ ?_|refine(CZ t d hd) _ _ ?_|fail
  all_goals first | omega | skip
  ·have U:t.dep<=8:=aA
   refine Qb (I _ aA) ?_;simp[Ty.valid, *]
  ·have U:¬t.dep<=8:=aA
   refine Qb (I _ aA) ?_;simp[Ty.valid, *]
 ·have J:¬((t.cnt:Int)<=30):=aA
  repeat' first|with_reducible intro _|simp only[if_neg J,Y1]|with_reducible refine X ?_ ?_|refine⟨_,_,_,rfl,?_⟩|refine⟨_,rfl,?_⟩|refine X0 ?_|refine(Ca t d hd _ aA aA) _ _ ?_|refine(sO t d hd hc) _ _ ?_|refine(CZ t d hd) _ _ ?_|fail
  all_goals first | omega | skip
  refine Qb (I _ aA) ?_;simp[Ty.valid, *]
def FL f args(t:Ty):=∀(N:Nat) (Q:QT [.ag 2]),(∀ d' N',N<=N'->t.Is d'->Own N N' d'->Q d' N')->ACalls prog f [.ag 2] args N Q
def tInt:Ty:=.mk 1 []
def tBool:Ty:=.mk 2 []
def tZero:Ty:=.mk 0 []
def wP (a b:Ty):Ty:=.mk 3 [a,b]
def xW (a:Ty):Ty:=.mk 4 [a]
def Ty.base (t:Ty):Bool:=(t.k==1||t.k==2)&&(t.as.length:Int)==0
theorem wB k:(Ty.mk k []).Is (.ag [.j k,.sl none 2 [] 0]):=Ty.is_mk.2 ⟨_,_,_,rfl,aB,rfl⟩
theorem yo {x}:Own N N' (.ag [.lit x,.sl none 2 [] 0]):=⟨by simp[D.foot,zC],⟨trivial,⟨aB,trivial⟩,trivial⟩,by simp[D.foot,zC],by simp[D.foot,zC]⟩
theorem Bn:∀ l:aR,l.length<=zI l
 | []=>oC _
 | .mk k l::ts=>by simp only[zI,Ty.cnt,oJ];have:=Bn ts;omega
theorem wn:∀(t u:Ty)(d e:D),t.Is d->u.Is e->uE 199 [.dg 2 d,.dg 2 e] (rk t u):=by
 refine Ty.ind λk l ih u d e hd he N Q hQ=>?_;cases u with
 | mk k' l'=>
 obtain⟨a,es,c,rfl,U,Y⟩:=Ty.is_mk.1 hd;obtain⟨a',aa,c',rfl,ae,O⟩:=Ty.is_mk.1 he;have hl:=Y.len;have al:=O.len;simp only[rk]at hQ;have key:l.length=l'.length->∀(N':Nat),N<=N'->(∀ N'',N'<=N''->Q (qI l (l'.drop 0)) N'')->yx Q N (0:Nat) (.ag [.j k,.sl a 2 es c]) (.ag [.j k',.sl a' 2 aa c']) N':=by
  intro ao;refine up Y U (λi xs=>∀(N':Nat),N<=N'->(∀ N'',N'<=N''->Q (qI xs (l'.drop i)) N'')->yx Q N i (.ag [.j k,.sl a 2 es c]) (.ag [.j k',.sl a' 2 aa c']) N') ?_ ?_
  ·intro i ah hi N' ai I;refine sU ?_
   repeat' first|with_reducible intro _|simp only[ah,Y1]|with_reducible refine X ?_ ?_|refine⟨_,_,_,rfl,?_⟩|refine⟨_,rfl,?_⟩|refine X0 ?_|fail
   refine Qb (I _ aE) ?_;rw[mQ aA];rfl
  ·intro i x xs J _ aj N' ai I;have hb:=J.b;have ab:i<l'.length:=aA
   have hg:l'[i]?=some l'[i]:=oH ab;have ak:l'.drop i=l'[i]::l'.drop (i+1):=ml ab;refine sU ?_;rw[ak]at I
   repeat' first|with_reducible intro _|simp only[J.lt,J.w,oI,Y1]|with_reducible refine X ?_ ?_|refine⟨_,_,_,rfl,?_⟩|refine⟨_,rfl,?_⟩|refine X0 ?_|refine(ih x J.m _ _ _ J.r (O.get hg)) _ _ ?_|fail
   ·exact Qb (I _ aA) (by simp[qI, *])
   ·exact aj _ aA λN'' h=>Qb (I N'' aA) (by simp[qI, *])
 refine Fk N _ _ Q λ_ _=>?_
 repeat' first|with_reducible intro _|simp only[Y1]|with_reducible refine X ?_ ?_|refine⟨_,_,_,rfl,?_⟩|refine⟨_,rfl,?_⟩|refine X0 ?_|fail
 ·exact Qb (hQ _ aE) (by simp[*])
 ·exact Qb (hQ _ aE) (by rw[Ht aA,lM])
 ·exact key aA N (oC _) λN'' ac=>Qb (hQ _ ac) (by simp[*])
theorem rr (t:Ty) d(hd:t.Is d):uE 140 [.dg 2 d] t.base:=λN Q O=>by
 cases t with
 | mk k l=>
 obtain⟨a,es,c,rfl,J,I⟩:=Ty.is_mk.1 hd;have hl:=I.len;refine Lh N _ Q λ_=>?_
 repeat' first|with_reducible intro _|simp only[Y1]|with_reducible refine X ?_ ?_|refine⟨_,_,_,rfl,?_⟩|refine⟨_,rfl,?_⟩|refine X0 ?_|fail
 all_goals refine Qb (O _ aE) ?_
 all_goals simp[Ty.base,Ty.k,Ty.as,hl, *]
theorem xy:FL 69 [] tInt:=λN Q J=>Nw N Q λN' I=>J _ _ I (wB _) yo
theorem wH:FL 70 [] tBool:=λN Q J=>Lq N Q λN' I=>J _ _ I (wB _) yo
theorem vw {α:Type}{l:List α}{x}(h:l[i]?=some x):l.take (i+1)=l.take i++[x]:=by rw[List.take_add_one,h];rfl
theorem zL:∀(t:Ty)(d:D),t.Is d->t.cnt<=1073741824->FL 90 [.dg 2 d] t:=by
 refine Ty.ind λk l ih d hd hc N Q hQ=>?_;obtain⟨a,es,c,rfl,Y,aa⟩:=Ty.is_mk.1 hd;have hl:=aa.len;simp only[Ty.cnt]at hc;have al:=Bn l;refine Lr N _ Q λ_=>⟨_,rfl,?_⟩
 have key:=up aa Y (λi xs=>∀(N':Nat),N<=N'->(i=0->tR Q N i (.ag [.j k,.sl a 2 es c]) 0 none [] 0 k none [] 0 N')/\∀(m q:Nat) (r:aM),m=r.length->All2 Ty.Is (l.take i) r->OwnL N N' r ->
  xn Q N i (.ag [.j k,.sl a 2 es c]) 0 none [] 0 k m q r q N') ?_ ?_
 ·exact(key N (oC _)).1 rfl
 ·intro i ab hi N' ai;refine⟨λh0=>pY ?_,λm q r hm U ho=>sX ?_⟩
  ·repeat' first|with_reducible intro _|simp only[ab,Y1]|with_reducible refine X ?_ ?_|refine⟨_,_,_,rfl,?_⟩|refine⟨_,rfl,?_⟩|refine X0 ?_|fail
   have:l=[]:=oV aA;subst this;exact hQ _ _ aA (wB _) yo
  ·repeat' first|with_reducible intro _|simp only[ab,Y1]|with_reducible refine X ?_ ?_|refine⟨_,_,_,rfl,?_⟩|refine⟨_,rfl,?_⟩|refine X0 ?_|fail
   rename_i a' N3 J hf N4 aj;rw[o3 aA]at U;exact hQ _ _ aA (Ty.is_mk.2 ⟨_,_,_,rfl,by have:=U.len;omega,U⟩) (BW (zW (zf ((p8 ho hf aA).mono (oC _) aj))))
 ·intro i x xs I _ ac N' ai;have hb:=I.b;have ao:=ww I.m;refine⟨λh0=>pY ?_,λm q r hm U ho=>sX ?_⟩
  ·repeat' first|with_reducible intro _|simp only[I.lt,I.w,oI,Y1]|with_reducible refine X ?_ ?_|refine⟨_,_,_,rfl,?_⟩|refine⟨_,rfl,?_⟩|refine X0 ?_|refine(ih x I.m _ I.r aA) _ _ ?_|fail
   rename_i N2 ae d' N3 J hx O ak ah;subst h0;exact⟨by unfold zB;simp,λc2=>(ac _ aA).2 _ _ _ rfl (by rw[vw I.g];exact⟨_,_,rfl,hx,rfl⟩) (zf (O.mono aA (oC _)))⟩
  ·repeat' first|with_reducible intro _|simp only[I.lt,I.w,oI,Y1]|with_reducible refine X ?_ ?_|refine⟨_,_,_,rfl,?_⟩|refine⟨_,rfl,?_⟩|refine X0 ?_|refine(ih x I.m _ I.r aA) _ _ ?_|fail
   rename_i N2 ae d' N3 J hx O ak ah;have aq:=U.len;have au:(l.take i).length=i:=by rw[nO];omega
   refine⟨by unfold zB;simp only[oG,mE];omega,λc2=>?_⟩;exact(ac _ aA).2 _ _ _ rfl (by rw[vw I.g];exact U.snoc hx) (zg (ho.mono (oC _) ae) (zf O) aA J)
theorem xw t u d e(hd:t.Is d)(he:u.Is e)(I:t.cnt<=1073741824)(J:u.cnt<=1073741824):FL 72 [.dg 2 d,.dg 2 e] (wP t u):=λN Q hQ=>by
 refine FA N _ _ Q λ_ _=>?_
 repeat' first|with_reducible intro _|simp only[Y1]|with_reducible refine X ?_ ?_|refine⟨_,_,_,rfl,?_⟩|refine⟨_,rfl,?_⟩|refine X0 ?_|refine(zL t d hd I) _ _ ?_|refine(zL u e he J) _ _ ?_|fail
 rename_i N1 O d1 N2 ab h1 o1 ac b1 N3 U d2 N4 Y h2 o2 ae b2 a' N5 ah hf N6 aa;exact hQ _ _ aA (Ty.is_mk.2 ⟨_,_,_,rfl,aB,_,_,rfl,h1,_,_,rfl,h2,rfl⟩)
  (BW (zW (zf ((p8 (zg ((zf o1).mono O U) (zf o2) aA Y) hf aA).mono (oC _) aa))))
theorem wI t d(hd:t.Is d)(I:t.cnt<=1073741824):FL 71 [.dg 2 d] (xW t):=λN Q U=>by
 refine DW N _ Q λ_=>?_
 repeat' first|with_reducible intro _|simp only[Y1]|with_reducible refine X ?_ ?_|refine⟨_,_,_,rfl,?_⟩|refine⟨_,rfl,?_⟩|refine X0 ?_|refine(zL t d hd I) _ _ ?_|fail
 rename_i N1 J d1 N2 Y h1 o1 aa b1 a' N5 ab hf N6 O;exact U _ _ aA (Ty.is_mk.2 ⟨_,_,_,rfl,aB,_,_,rfl,h1,rfl⟩)
  (BW (zW (zf ((p8 ((zf o1).mono J (oC _)) hf aA).mono (oC _) O))))
theorem upN {n:Nat}(U:n<=4611686018427387904)(P:Nat->Prop)(J:decide ((n:Int)<(n:Int))=false->P n)(I:∀ i:Nat,i<n->decide ((i:Int)<(n:Int))=true->IntKind.i64.wrap ((i:Int)+1)=((i+1:Nat):Int)->P (i+1)->P i):P 0:=by
 have key : ∀(m i:Nat),i+m=n->P i:=by
  intro m
  induction m with
  | zero => intro i h;have:i=n:=aA
            subst this;exact J aB
  | succ m O=>intro i h;exact I i aA (nh aA) (by rw[i64_in _ aA];simp) (O (i+1) aA)
 exact key n 0 aA
abbrev BL (s:aG)(i:Nat):Int:=((s.data.getD i (OfNat.ofNat 0)).toNat:Int)
def Cf (s:aG)(i:Nat):Bool:=(decide (BL s i≥97)&&decide (BL s i<=122))||(!(decide ((i:Int)=0))&&(!(decide (BL s i<48))&&!(decide (BL s i>57))))
def tE (s:aG)(i:Nat):Bool:=(List.range' i (s.size - i)).all (Cf s)
theorem Cy (h:i<s.size):tE s i=(Cf s i&&tE s (i+1)):=by unfold tE;rw[show s.size - i=(s.size - (i+1))+1 by omega,List.range'_succ];rfl
theorem E2:tE s s.size=true:=by simp[tE]
def FB (s:aG):Bool:=inB s.size 1 4&&(!(decide (s=bytes [105,102]))&&(!(decide (s=bytes [108,101,116]))&&(!(decide (s=bytes [114,101,99]))&&(!(decide (s=bytes [114,117,110]))&&!(decide (s=bytes [108,105,102,116]))))))
def yN (s:aG):Bool:=tE s 0&&FB s
theorem rt s(hs:s.size<=4611686018427387904):uE 87 [.str s] (yN s):=λN Q Y=>by
 refine Li N s Q ?_;have key:=upN hs (λi=>∀ N',N<=N'->(∀ N'',N'<=N''->Q (tE s i&&FB s) N'')->xP Q N s i N') ?_ ?_
 ·exact key N (oC _) Y
 ·intro J N' O I;refine pR ?_
  repeat' first|with_reducible intro _|simp only[J,Y1]|with_reducible refine X ?_ ?_|refine⟨_,_,_,rfl,?_⟩|refine⟨_,rfl,?_⟩|refine X0 ?_|refine(xb _ _ _) _ _ ?_|fail
  all_goals(refine Qb (I _ aA) ?_;rw[E2])
  all_goals simp[FB,xa, *]
 ·intro i hi J hw U N' O I;refine pR ?_;rw[Cy hi]at I
  repeat' first|with_reducible intro _|simp only[J,hw,oI,Y1]|with_reducible refine X ?_ ?_|refine⟨_,_,_,rfl,?_⟩|refine⟨_,rfl,?_⟩|refine X0 ?_|fail
  all_goals first
   | (refine Qb (I _ aA) ?_;unfold Cf BL;simp only[*];simp;done)
   | (refine U _ aA λN'' h=>Qb (I N'' aA) ?_;unfold Cf BL;simp only[*];simp;done)
inductive Tm where
 | mk (k:Int) (nm ot:aG) (n:Int) (ty re:Ty) (l:List Tm)
abbrev aP:=List Tm
variable {e e0:Tm} {l:aP}
def Tm.as:Tm->aP
 | .mk _ _ _ _ _ _ l=>l
structure Tm.Hd (nm ot:aG) (ty re:Ty) (t0 t1 r0 r1:D):Prop where
 nm:nm.size<=4611686018427387904
 ot:ot.size<=4611686018427387904
 ty:ty.Is (.ag [t0,t1])
 re:re.Is (.ag [r0,r1])
mutual
def Tm.Is:Tm->D->Prop
 | .mk k nm ot n ty re l,d=>∃ t0 t1 r0 r1 a es c,d=.ag [.j k,.t nm,.t ot,.j n,t0,t1,r0,r1,.sl a 9 es c]/\Tm.Hd nm ot ty re t0 t1 r0 r1/\es.length<=4611686018427387904/\R1 l es
def R1:aP->aM->Prop
 | [],es=>es=[]
 | t::ts,es=>∃ d ds,es=d::ds/\t.Is d/\R1 ts ds
end
theorem LN:∀ {l:aP}{es:aM},R1 l es↔All2 Tm.Is l es
 | [],es=>by simp only[R1,All2]
 | t::ts,es=>by simp only[R1,All2];exact⟨λ⟨d,ds,I,J,O⟩=>⟨d,ds,I,J,LN.1 O⟩,λ⟨d,ds,I,J,O⟩=>⟨d,ds,I,J,LN.2 O⟩⟩
theorem Tm.is_mk {k}:(Tm.mk k nm ot n ty re l).Is d ↔
  ∃ t0 t1 r0 r1 a es c,d=.ag [.j k,.t nm,.t ot,.j n,t0,t1,r0,r1,.sl a 9 es c]/\Tm.Hd nm ot ty re t0 t1 r0 r1/\es.length<=4611686018427387904/\All2 Tm.Is l es:=by
 simp only[Tm.Is,LN]
theorem Tm.ind {P:Tm->Prop}(h:∀ k nm ot n ty re l,(∀ t∈l,P t)->P (.mk k nm ot n ty re l)):∀ t,P t:=λt=>
 Tm.rec (motive_1:=P) (motive_2:=λl=>∀ t∈l,P t) (λk nm ot n ty re l I=>h k nm ot n ty re l I) aB (λt l J O u hu=>by
  rcases oK.1 hu with rfl | hu
  ·exact J
  ·exact O u hu) t
mutual
def Tm.cnt:Tm->Nat
 | .mk _ _ _ _ ty re l=>1+ty.cnt+re.cnt+xC l
def xC:aP->Nat
 | []=>0
 | t::ts=>t.cnt+xC ts
end
theorem t6:∀ {l:aP}{t:Tm},t∈l->t.cnt<=xC l
 | u::us,t,h=>by
   simp only[xC];rcases oK.1 h with rfl | h
   ·omega
   ·have:=t6 h;omega
theorem tz:∀ l:aP,l.length<=xC l
 | []=>oC _
 | .mk _ _ _ _ _ _ _::ts=>by simp only[xC,Tm.cnt,oJ];have:=tz ts;omega
mutual
def Tm.dp:Tm->Nat
 | .mk _ _ _ _ _ _ l=>uh l+1
def uh:aP->Nat
 | []=>0
 | t::ts=>max t.dp (uh ts)
end
mutual
theorem Tm.dp_cnt:∀ t:Tm,t.dp<=t.cnt
 | .mk _ _ _ _ ty re l=>by simp only[Tm.dp,Tm.cnt];have:=C9 l;omega
theorem C9:∀ l:aP,uh l<=xC l
 | []=>oC _
 | t::ts=>by simp only[uh,xC];have:=t.dp_cnt;have:=C9 ts;omega
end
theorem Tm.dp_pos (t:Tm):1<=t.dp:=by cases t;simp only[Tm.dp];omega
theorem uM:∀ {l:aP}{t:Tm},t∈l->t.dp<=uh l
 | u::us,t,h=>by
   simp only[uh];rcases oK.1 h with rfl | h
   ·omega
   ·have:=uM h;omega
mutual
def Tm.G:Tm->Prop
 | .mk _ _ _ _ ty re l=>ty.cnt<=1073741824/\re.cnt<=1073741824/\l.length<=1073741824/\Qa l
def Qa:aP->Prop
 | []=>True
 | t::ts=>t.G/\Qa ts
end
theorem z8:∀ {l:aP}{x:Tm},Qa l->x∈l->x.G
 | t::ts,x,h,hx=>by
   rcases oK.1 hx with rfl | hx
   ·exact h.1
   ·exact z8 h.2 hx
theorem EQ:∀ {l:aP},(∀ x∈l,x.G)->Qa l
 | [],_=>trivial
 | t::ts,h=>⟨h t aB,EQ λx I=>h x (by simp[I])⟩
mutual
theorem Tm.G_cnt:∀ t:Tm,t.cnt<=1073741824->t.G
 | .mk _ _ _ _ ty re l,h=>by
   simp only[Tm.cnt]at h
   have:=tz l
   exact⟨aA,aA,aA,Qc l aA⟩
theorem Qc:∀ l:aP,xC l<=1073741824->Qa l
 | [],_=>trivial
 | t::ts,h=>by
   simp only[xC]at h
   exact⟨Tm.G_cnt t aA,Qc ts aA⟩
end
structure Tg where
 nm:aG
 ty:Ty
 lv:Int
abbrev aQ:=List Tg
variable {g:aQ}
def Tg.Is (g:Tg)(d:D):Prop:=∃ t0 t1,d=.ag [.t g.nm,t0,t1,.j g.lv]/\g.nm.size<=4611686018427387904/\g.ty.Is (.ag [t0,t1])
theorem Tg.is_mk {lv}:(Tg.mk nm ty lv).Is d↔∃ t0 t1,d=.ag [.t nm,t0,t1,.j lv]/\nm.size<=4611686018427387904/\ty.Is (.ag [t0,t1]):=lL
def rj (s:aG):Int:=if s=bytes [43]then 2 else if s=bytes [45]then 2 else if s=bytes [42]then 2 else if s=bytes [61]then 2 else if s=bytes [60]then 2 else if s=bytes [38]then 2 else if s=bytes [124]then 2 else if s=bytes [33]then 1 else 0
theorem su s:BK 161 [.str s] (rj s):=λN Q I=>by
 refine I9 N s Q ?_
 repeat' first|with_reducible intro _|simp only[Y1]|with_reducible refine X ?_ ?_|refine⟨_,_,_,rfl,?_⟩|refine⟨_,rfl,?_⟩|refine X0 ?_|fail
 all_goals(refine Qi (I _ aE) ?_;unfold rj;(repeat' split)<;>first | rfl | contradiction)
def Ty.zero (t:Ty):Bool:=t.k==0&&(t.as.length:Int)==0
theorem Cc (t:Ty) d(hd:t.Is d):uE 159 [.dg 2 d] t.zero:=λN Q O=>by
 cases t with
 | mk k l=>
 obtain⟨a,es,c,rfl,J,I⟩:=Ty.is_mk.1 hd;have hl:=I.len;refine Lw N _ Q λ_=>?_
 repeat' first|with_reducible intro _|simp only[Y1]|with_reducible refine X ?_ ?_|refine⟨_,_,_,rfl,?_⟩|refine⟨_,rfl,?_⟩|refine X0 ?_|fail
 all_goals refine Qb (O _ aE) ?_
 all_goals simp[Ty.zero,Ty.k,Ty.as,hl, *]
def zx (k:Int)(nm ot:aG):Bool:=
 if k=4 then decide (rj nm>0)&&decide (ot=bytes [])else if k=1\/k=6\/k=8 then yN nm&&decide (ot=bytes [])else if k=9 then yN nm&&(yN ot&&!decide (nm=ot))else decide (nm=bytes [])&&decide (ot=bytes [])
theorem zBG (a b:Int):(a==b)=decide (a=b):=by rw[mC];simp
def qh (k:Int):Bool:=k==6||k==9
def zH (k:Int)(nm ot:aG)(n:Int)(ty re:Ty):Bool:=
 (qh k==ty.valid)&&((qh k||ty.zero)&&(((k==9)==re.valid)&&((k==9||re.zero)&&(inB n 0 (if k=2 then 10006 else if k=3 then 1 else 0)&&zx k nm ot))))
def IL (k:Int)(nm:aG):Int:=
 if k=1\/k=2\/k=3 then 0 else if k=4 then rj nm else if k=6\/k=9\/k=10\/k=11\/k=12\/k=13 then 1 else if k=7\/k=8 then 2 else if k=5 then 3 else -1
mutual
def Tm.ok:Tm->Bool
 | .mk k nm ot n ty re l=>rZ l&&(zH k nm ot n ty re&&(l.length:Int)==IL k nm)
def rZ:aP->Bool
 | []=>true
 | t::ts=>t.ok&&rZ ts
end
theorem Ii {k}(h:Tm.Hd nm ot ty re t0 t1 r0 r1):uE 160 [.dg 9 (.ag [.j k,.t nm,.t ot,.j n,t0,t1,r0,r1,x])] (zx k nm ot):=λN Q I=>by
 refine JI N _ Q λ_=>?_
 repeat' first|with_reducible intro _|simp only[Y1]|with_reducible refine X ?_ ?_|refine⟨_,_,_,rfl,?_⟩|refine⟨_,rfl,?_⟩|refine X0 ?_|refine(su _) _ _ ?_|refine(rt _ h.nm) _ _ ?_|refine(rt _ h.ot) _ _ ?_|fail
 all_goals(refine Qb (I _ aA) ?_;simp[zx,xa, *])
theorem Gt {k}(h:Tm.Hd nm ot ty re t0 t1 r0 r1)(hc:ty.cnt<=1073741824)(I:re.cnt<=1073741824):
  uE 100 [.dg 9 (.ag [.j k,.t nm,.t ot,.j n,t0,t1,r0,r1,x])] (zH k nm ot n ty re):=λN Q J=>by
 refine IF N _ Q λ_=>?_
 repeat' first|with_reducible intro _|simp only[Y1]|with_reducible refine X ?_ ?_|refine⟨_,_,_,rfl,?_⟩|refine⟨_,rfl,?_⟩|refine X0 ?_|refine(yL _ _ h.ty hc) _ _ ?_|refine(yL _ _ h.re I) _ _ ?_|refine(Cc _ _ h.ty) _ _ ?_|refine(Cc _ _ h.re) _ _ ?_|refine(xb _ _ _) _ _ ?_|refine(Ii h) _ _ ?_|fail
 all_goals first | (exfalso;omega) | (refine Qb (J _ aA) ?_;simp[zH,qh, *];done) | (refine Qb (J _ aA) ?_;simp_all[zH,qh];done) | (refine Qb (J _ aA) ?_;simp_all only[zH,qh,zBG];simp_all;done)
theorem wS {k}:BK 101 [.dg 9 (.ag [.j k,.t nm,.t ot,.j n,t0,t1,r0,r1,x])] (IL k nm):=λN Q I=>by
 refine JG N _ Q λ_=>?_
 repeat' first|with_reducible intro _|simp only[Y1]|with_reducible refine X ?_ ?_|refine⟨_,_,_,rfl,?_⟩|refine⟨_,rfl,?_⟩|refine X0 ?_|refine(su _) _ _ ?_|fail
 all_goals(refine Qi (I _ aA) ?_;simp[IL, *])
theorem BO:∀(t:Tm)(d:D),t.Is d->t.G->uE 51 [.dg 9 d] t.ok:=by
 refine Tm.ind λk nm ot n ty re l ih d hd hc N Q hQ=>?_;obtain⟨t0,t1,r0,r1,a,es,c,rfl,hh,O,U⟩:=Tm.is_mk.1 hd;have hl:=U.len;obtain⟨g1,g2,_,g4⟩:=hc;refine Lj N _ Q λ_=>?_;have key:=up U O (λi xs=>∀(N':Nat),N<=N'->(∀ N'',N'<=N''->Q (rZ xs&&(zH k nm ot n ty re&&(l.length:Int)==IL k nm)) N'')->vL Q N i (.ag [.j k,.t nm,.t ot,.j n,t0,t1,r0,r1,.sl a 9 es c]) N') ?_ ?_
 ·exact key N (oC _) hQ
 ·intro i Y _ N' aa J;refine pT ?_
  repeat' first|with_reducible intro _|simp only[Y,Y1]|with_reducible refine X ?_ ?_|refine⟨_,_,_,rfl,?_⟩|refine⟨_,rfl,?_⟩|refine X0 ?_|refine(Gt hh aA aA) _ _ ?_|refine wS _ _ ?_|fail
  all_goals(refine Qb (J _ aA) ?_;simp[rZ, *])
 ·intro i x xs I _ ab N' aa J;have hb:=I.b;have ac:=z8 g4 I.m;refine pT ?_
  repeat' first|with_reducible intro _|simp only[I.lt,I.w,oI,Y1]|with_reducible refine X ?_ ?_|refine⟨_,_,_,rfl,?_⟩|refine⟨_,rfl,?_⟩|refine X0 ?_|refine(ih x I.m _ I.r ac) _ _ ?_|fail
  ·refine Qb (J _ aA) ?_;simp[rZ, *]
  ·exact ab _ aA λN'' h=>Qb (J N'' aA) (by simp[rZ, *])
theorem CX (t:Tm) d(h:t.Is d)(hc:t.cnt<=1073741824):uE 51 [.dg 9 d] t.ok:=BO t d h (Tm.G_cnt t hc)
theorem yE {a}:inB n a b=true↔a<=n/\n<=b:=by simp[inB]
def zK (k n:Int):Int:=if k=10 then n+1 else if k=11 then n - 1 else n
mutual
def Tm.lev:Tm->Int->Bool
 | .mk k _ _ _ _ _ l,n=>inB n 0 2&&rY l (zK k n)
def rY:aP->Int->Bool
 | [],_=>true
 | t::ts,n=>t.lev n&&rY ts n
end
theorem ru {k c1 c2 c4 c5 I J O}(h:0<=m/\m<=2):BK 151 [.dg 9 (.ag [.j k,c1,c2,.j n,c4,c5,I,J,O]),.j m] (zK k m):=λN Q U=>by
 refine DZ N _ m Q λ_=>?_;rw[i64_in (m+1) aA,i64_in (m - 1) aA]
 repeat' first|with_reducible intro _|simp only[Y1]|with_reducible refine X ?_ ?_|refine⟨_,_,_,rfl,?_⟩|refine⟨_,rfl,?_⟩|refine X0 ?_|fail
 all_goals(refine Qi (U _ aA) ?_;simp[zK, *])
theorem Gu:∀(t:Tm)(d:D),t.Is d->∀ m:Int,uE 88 [.dg 9 d,.j m] (t.lev m):=by
 refine Tm.ind λk nm ot n ty re l ih d hd m N Q hQ=>?_;obtain⟨t0,t1,r0,r1,a,es,c,rfl,hh,U,Y⟩:=Tm.is_mk.1 hd;have hl:=Y.len;refine PZ N _ m Q λ_=>?_;cases I:inB m 0 2 with
 | false=>
   repeat' first|with_reducible intro _|simp only[I,Y1]|with_reducible refine X ?_ ?_|refine⟨_,_,_,rfl,?_⟩|refine⟨_,rfl,?_⟩|refine X0 ?_|refine(xb _ _ _) _ _ ?_|fail
   exact Qb (hQ _ aA) (by simp[Tm.lev,I])
 | true=>
   have hb:=yE.1 I;have key:=up Y U (λi xs=>∀(N':Nat),N<=N'->(∀ N'',N'<=N''->Q (rY xs (zK k m)) N'')->tB Q N m i (.ag [.j k,.t nm,.t ot,.j n,t0,t1,r0,r1,.sl a 9 es c]) N') ?_ ?_
   ·repeat' first|with_reducible intro _|simp only[I,Y1]|with_reducible refine X ?_ ?_|refine⟨_,_,_,rfl,?_⟩|refine⟨_,rfl,?_⟩|refine X0 ?_|refine(xb _ _ _) _ _ ?_|fail
    exact key _ aA λN'' h=>Qb (hQ N'' aA) (by simp[Tm.lev,I])
   ·intro i aa _ N' ab O;refine Ct ?_
    repeat' first|with_reducible intro _|simp only[aa,Y1]|with_reducible refine X ?_ ?_|refine⟨_,_,_,rfl,?_⟩|refine⟨_,rfl,?_⟩|refine X0 ?_|fail
    exact Qb (O _ aA) (by simp[rY])
   ·intro i x xs J _ ac N' ab O;have ae:=J.b;refine Ct ?_
    repeat' first|with_reducible intro _|simp only[J.lt,J.w,oI,Y1]|with_reducible refine X ?_ ?_|refine⟨_,_,_,rfl,?_⟩|refine⟨_,rfl,?_⟩|refine X0 ?_|refine(ru hb) _ _ ?_|refine(ih x J.m _ J.r _) _ _ ?_|fail
    ·refine Qb (O _ aA) ?_;simp[rY, *]
    ·exact ac _ aA λN'' h=>Qb (O N'' aA) (by simp[rY, *])
def ut (t:Tm)(n:Int):Bool:=t.ok&&t.lev n
theorem ur t d(hd:t.Is d)(hc:t.G) m:uE 42 [.dg 9 d,.j m] (ut t m):=λN Q I=>by
 refine IC N _ m Q λ_=>?_
 repeat' first|with_reducible intro _|simp only[Y1]|with_reducible refine X ?_ ?_|refine⟨_,_,_,rfl,?_⟩|refine⟨_,rfl,?_⟩|refine X0 ?_|refine(BO t d hd hc) _ _ ?_|refine(Gu t d hd m) _ _ ?_|fail
 all_goals(refine Qb (I _ aA) ?_;simp[ut, *])
theorem Gr t d(hd:t.Is d)(hc:t.cnt<=1073741824) m:uE 42 [.dg 9 d,.j m] (ut t m):=ur t d hd (Tm.G_cnt t hc) m
structure Ctx (g:aQ) (es:aM):Prop where
 len:es.length<=4611686018427387904
 all:All2 Tg.Is g es
def Tg.ok (g:Tg):Bool:=yN g.nm&&(g.ty.valid&&inB g.lv 0 2)
def Iu:aQ->Bool
 | []=>true
 | g::I=>g.ok&&Iu I
def Ik (g:aQ):Bool:=Iu g&&decide ((g.length:Int)<=12)
theorem pF (h:Ctx g es)(hc:∀ x∈g,x.ty.cnt<=1073741824) a c:uE 41 [.sv a 4 es c] (Ik g):=λN Q hQ=>by
 have hl:=h.all.len;refine Nq N a es c Q λ_=>?_;have key:=up h.all h.len (λi xs=>∀(N':Nat),N<=N'->(∀ N'',N'<=N''->Q (Iu xs&&decide ((g.length:Int)<=12)) N'')->uS Q N a es c i N') ?_ ?_
 ·exact key N (oC _) hQ
 ·intro i O _ N' U J;refine BR ?_
  repeat' first|with_reducible intro _|simp only[O,Y1]|with_reducible refine X ?_ ?_|refine⟨_,_,_,rfl,?_⟩|refine⟨_,rfl,?_⟩|refine X0 ?_|fail
  refine Qb (J _ aA) ?_;simp[Iu,hl]
 ·intro i x xs I _ Y N' U J;have hb:=I.b;obtain⟨t0,t1,hd,hs,ht⟩:=I.r;refine BR ?_
  repeat' first|with_reducible intro _|simp only[I.lt,I.w,oI,hd,Y1]|with_reducible refine X ?_ ?_|refine⟨_,_,_,rfl,?_⟩|refine⟨_,rfl,?_⟩|refine X0 ?_|refine(rt _ hs) _ _ ?_|refine(yL _ _ ht (hc x I.m)) _ _ ?_|refine(xb _ _ _) _ _ ?_|fail
  all_goals first
   | (refine Y _ aA λN'' h=>Qb (J N'' aA) ?_;simp[Iu,Tg.ok, *];done)
   | (refine Qb (J _ aA) ?_;simp[Iu,Tg.ok, *];done)
def tg0:Tg:=⟨bytes [],tZero,0⟩
def BV (g:aQ)(s:aG):Nat->Int
 | 0 => -1
 | k+1=>if(g.getD k tg0).nm=s then k else BV g s k
def ym (g:aQ)(s:aG):Int:=BV g s g.length
theorem HK g s:∀ n:Nat,BV g s n = -1\/(0<=BV g s n/\BV g s n<n)
 | 0=>.inl rfl
 | n+1=>by
   simp only[BV];split
   ·exact .inr aA
   ·rcases HK g s n with h | h
    ·exact .inl h
    ·exact .inr aA
theorem zBm {α R}{l:List α}(h:All2 R l es)(I:es.length<=4611686018427387904)(P:Int->Prop)(U:P (-1))(hs:∀(i:Nat) x,At R l es i x->decide ((i:Int)≥0)=true->IntKind.i64.wrap ((i:Int) - 1)=(i:Int) - 1->P ((i:Int) - 1)->P i):P ((es.length:Int) - 1):=by
 have hl:=h.len;have key:∀ n:Nat,n<=l.length->P ((n:Int) - 1):=by
  intro n
  induction n with
  | zero=>intro _;exact U
  | succ n Y=>
    intro J;have O:l[n]?=some l[n]:=oH J;have e:((n+1:Nat):Int) - 1=n:=aA
    rw[e];exact hs n _ ⟨nh aA,⟨aA,aA⟩,by rw[i64_in _ aA];simp,h.get O,mN J,O⟩ (nh aA) (i64_in _ aA) (Y aA)
 rw[hl];exact key _ (oC _)
theorem K1 {α:Type}{l:List α}{x d}(h:l[i]?=some x):l.getD i d=x:=by simp[oA,h]
theorem tC (h:Ctx g es) a c s:BK 152 [.sv a 4 es c,.str s] (ym g s):=λN Q hQ=>by
 have hl:=h.all.len;have h1:=h.len;refine L1 N a es c s Q λ_=>?_;have key:=zBm h.all h.len (λm=>∀(N':Nat),N<=N'->(∀ N'',N'<=N''->Q (BV g s (m+1).toNat) N'')->vb Q N a es c s m N') ?_ ?_
 ·rw[i64_in _ aA];exact key N (oC _) λN' J=>Qi (hQ N' J) (by rw[ym,<-hl];congr 1;omega)
 ·intro N' J I;refine pv ?_
  repeat' first|with_reducible intro _|simp only[Y1]|with_reducible refine X ?_ ?_|refine⟨_,_,_,rfl,?_⟩|refine⟨_,rfl,?_⟩|refine X0 ?_|fail
  ·omega
  ·exact I _ aE
 ·intro i x O U hw ih N' J I;have hb:=O.b;obtain⟨t0,t1,hd,hs,ht⟩:=O.r;have e1:((i:Int)+1).toNat=i+1:=aA
  have e2:((i:Int) - 1+1).toNat=i:=aA
  rw[e1]at I;simp only[BV,K1 O.g]at I;rw[e2]at ih;refine pv ?_
  repeat' first|with_reducible intro _|simp only[U,hw,oI,hd,Y1]|with_reducible refine X ?_ ?_|refine⟨_,_,_,rfl,?_⟩|refine⟨_,rfl,?_⟩|refine X0 ?_|fail
  ·rename_i Y _ _;exact Qi (I _ aA) (by rw[if_pos Y])
  ·rename_i Y;exact ih _ aA λN'' h=>Qi (I N'' aA) (by rw[if_neg Y])
theorem Ty.is_cells (h:t.Is d):t.Is (.ag [D.cell d 0,D.cell d 1]):=by
 cases t with
 | mk k l=>obtain⟨a,es,c,rfl,_,_⟩:=Ty.is_mk.1 h;exact h
def Hh (g:aQ)(n:Int)(x:Tg)(i:Nat):Bool:=x.ty.base&&(decide (x.lv<=n)&&decide (ym g x.nm=(i:Int)))
def sf (g:aQ)(n:Int):aQ->Nat->aQ
 | [],_=>[]
 | x::xs,i=>if Hh g n x i then x::sf g n xs (i+1)else sf g n xs (i+1)
def tn (g:aQ)(n:Int):aQ:=sf g n g 0
theorem Ao g n:∀(l:aQ)(i:Nat),(∀ x∈sf g n l i,x∈l)/\(sf g n l i).length<=l.length
 | [],i=>by simp[sf]
 | x::xs,i=>by
   have h:=Ao g n xs (i+1);simp only[sf];split
   ·refine⟨λy hy=>?_,by simp;exact h.2⟩;rcases oK.1 hy with rfl | hy
    ·exact nW
    ·exact nj _ (h.1 y hy)
   ·exact⟨λy hy=>nj _ (h.1 y hy),by have:=h.2;simp;omega⟩
theorem sw (h:Ctx g es)(hg:g.length<=1073741824)(hc:∀ x∈g,x.ty.cnt<=1073741824) a c n:
  ∀(N:Nat) (Q:QT [.sl 4]),(∀ a' J c' N',N<=N'->Ctx (tn g n) J->Q a' J c' N')->ACalls prog 203 [.sl 4] [.sv a 4 es c,.j n] N Q:=λN Q hQ=>by
 have hl:=h.all.len;refine JC N a es c n Q λ_=>?_;have key:=up h.all h.len (λi xs=>∀(r:aM) (m q:Nat) (N':Nat) (done:aQ),N<=N'->m=r.length->All2 Tg.Is done r->done.length<=i->done++sf g n xs i=tn g n->yR Q N a es c n m q i r q N') ?_ ?_
 ·exact key [] 0 0 N [] (oC _) rfl rfl (oC _) rfl
 ·intro i Y hi r m q N' done aa hm O ab hd;refine qb ?_
  repeat' first|with_reducible intro _|simp only[Y,Y1]|with_reducible refine X ?_ ?_|refine⟨_,_,_,rfl,?_⟩|refine⟨_,rfl,?_⟩|refine X0 ?_|fail
  refine hQ _ _ _ _ aA ⟨by have:=O.len;omega,?_⟩;simp only[sf,o8]at hd;rwa[<-hd]
 ·intro i x xs I _ U r m q N' done aa hm O ab hd;have hb:=I.b;have ae:=O.len;obtain⟨t0,t1,he,hs,ht⟩:=I.r;simp only[sf]at hd;refine qb ?_
  repeat' first|with_reducible intro _|simp only[I.lt,I.w,oI,he,Y1]|with_reducible refine X ?_ ?_|refine⟨_,_,_,rfl,?_⟩|refine⟨_,rfl,?_⟩|refine X0 ?_|refine(rr _ _ ht) _ _ ?_|refine(tC h a c _) _ _ ?_|refine(zL _ _ ht (hc x I.m)) _ _ ?_|fail
  ·rename_i N2 ah x' N3 ai hx ho _ _;have ac:Hh g n x i=true:=by simp[Hh, *]
   rw[if_pos ac]at hd;refine⟨by unfold zB;simp only[oG,mE];omega,λc2=>U _ _ _ _ (done++[x]) aA rfl (O.snoc ⟨_,_,rfl,hs,Ty.is_cells hx⟩) aF (by simpa using hd)⟩
  all_goals(refine U _ _ _ _ done aA hm O aA ?_;rw[<-hd,if_neg (by simp[Hh, *])])
theorem yV (h:Ctx g es)(hg:g.length<=1073741824) a c(hs:s.size<=4611686018427387904)(J:t.Is d) n:
  ∀(N:Nat) (Q:QT [.sl 4]),(∀ O I U N',N<=N'->Ctx (g++[⟨s,t,n⟩]) I->Q O I U N')->ACalls prog 139 [.sl 4] [.sv a 4 es c,.str s,.dg 2 d,.j n] N Q:=λN Q Y=>by
 have hl:=h.all.len;have hb:∀ x:D,zB ([]++es) [x] 56:=λx=>by unfold zB;simp only[oa,oG,mE];omega
 have aa:zB [] es 56:=by unfold zB;simp only[oa];omega
 refine L6 N a es c s d n Q λ_ _=>?_
 repeat' first|with_reducible intro _|simp only[Y1]|with_reducible refine X ?_ ?_|refine⟨_,_,_,rfl,?_⟩|refine⟨_,rfl,?_⟩|refine X0 ?_|fail
 refine⟨hb _,λc2=>?_⟩
 repeat' first|with_reducible intro _|simp only[Y1]|with_reducible refine X ?_ ?_|refine⟨_,_,_,rfl,?_⟩|refine⟨_,rfl,?_⟩|refine X0 ?_|fail
 refine Y _ _ _ _ aA ⟨aF,?_⟩;simp only[oa];exact h.all.snoc ⟨_,_,rfl,hs,Ty.is_cells J⟩
def Qu (o:Option Ty)(d:D)(b:Bool):Prop:=match o with
 | some t=>b=true/\t.Is d
 | none=>b=false
def M4 (s:aG):Int:=if s=bytes [38]then 2 else if s=bytes [124]then 2 else if s=bytes [33]then 2 else 1
def HT (s:aG):Ty:=if s=bytes [43]then tInt else if s=bytes [45]then tInt else if s=bytes [42]then tInt else tBool
def Ul (w:Int):aR->Bool
 | []=>true
 | t::ts=>decide (t.k=w)&&Ul w ts
def YU (s:aG)(ts:aR):Option Ty:=if Ul (M4 s) ts then some (HT s)else none
theorem OR (h:All2 Ty.Is ts es)(O:es.length<=4611686018427387904) a c s:
  ∀(N:Nat) (Q:QT [.ag 2,.bool]),(∀ d b N',N<=N'->Qu (YU s ts) d b->(∀ x∈d.foot,N<=x)->Q d b N')->ACalls prog 206 [.ag 2,.bool] [.str s,.sv a 2 es c] N Q:=λN Q hQ=>by
 refine Pa N s a es c Q λ_=>?_;have key:yz Q N s a es c (M4 s) (0:Nat) 0 none [] 0 N:=by
  refine up h O (λi xs=>∀(N':Nat),N<=N'->Ul (M4 s) xs=Ul (M4 s) ts->yz Q N s a es c (M4 s) i 0 none [] 0 N') ?_ ?_ N (oC _) rfl
  ·intro i aa _ N' U Y;refine Cv ?_;have ho:YU s ts=some (HT s):=by rw[YU,<-Y];rfl
   rw[ho]at hQ
   repeat' first|with_reducible intro _|simp only[aa,Y1]|with_reducible refine X ?_ ?_|refine⟨_,_,_,rfl,?_⟩|refine⟨_,rfl,?_⟩|refine X0 ?_|refine xy _ _ ?_|refine wH _ _ ?_|fail
   all_goals
    rename_i hx ho _ _ _ _;refine hQ _ _ _ aA ⟨rfl,?_⟩ λb hb=>by have:=ho.lo b hb;omega
    have e:HT s=tInt\/HT s=tBool:=by unfold HT;(repeat' split)<;>simp
    first
     | (have e:HT s=tInt:=by unfold HT;(repeat' split)<;>first | rfl | contradiction
        rw[e];exact hx)
     | (have e:HT s=tBool:=by unfold HT;(repeat' split)<;>first | rfl | contradiction
        rw[e];exact hx)
  ·intro i x xs I _ ab N' U Y;have hb:=I.b;cases x with
   | mk k l=>
   obtain⟨a1,ac,c1,he,_,_⟩:=Ty.is_mk.1 I.r;refine Cv ?_
   repeat' first|with_reducible intro _|simp only[I.lt,I.w,oI,he,Y1]|with_reducible refine X ?_ ?_|refine⟨_,_,_,rfl,?_⟩|refine⟨_,rfl,?_⟩|refine X0 ?_|fail
   ·rename_i J _ _;refine hQ _ _ _ aA ?_ (by simp[D.foot,zC]);have:Ul (M4 s) ts=false:=by rw[<-Y];simp[Ul,Ty.k,J]
    rw[YU,this];rfl
   ·rename_i J;exact ab _ U (by rw[<-Y];simp[Ul,Ty.k,J])
 have e:M4 s=2\/M4 s=1:=by unfold M4;(repeat' split)<;>simp
 repeat' first|with_reducible intro _|simp only[Y1]|with_reducible refine X ?_ ?_|refine⟨_,_,_,rfl,?_⟩|refine⟨_,rfl,?_⟩|refine X0 ?_|fail
 all_goals
  first
   | (have e:M4 s=2:=by unfold M4;(repeat' split)<;>first | rfl | contradiction
      rw[e]at key;exact key)
   | (have e:M4 s=1:=by unfold M4;(repeat' split)<;>first | rfl | contradiction
      rw[e]at key;exact key)
def wL (k:Int)(s:aG)(ts:aR):Option Ty:=
 if k=4 then YU s ts
 else if k=5 then(if(ts.getD 0 tZero).k=2/\rk (ts.getD 1 tZero) (ts.getD 2 tZero)then some (ts.getD 1 tZero)else none)
 else if(ts.getD 0 tZero).k=3/\rk ((ts.getD 0 tZero).as.getD 0 tZero) (ts.getD 1 tZero)then some ((ts.getD 0 tZero).as.getD 1 tZero)else none
theorem Ty.form_len {k l}(h:(Ty.mk k l).valid=true):pJ k l.length=true:=by simp only[Ty.valid,Ty.form,oL]at h;exact h.2.2
theorem Ty.valid_cnt (h:t.valid=true):t.cnt<=30:=by simp only[Ty.valid,oL,oh]at h;exact h.1.1
theorem Kk (h:All2 Ty.Is ts es)(O:es.length<=4611686018427387904) a c{k c2 c4 c5 c6 c7 c8}(hv:∀ t∈ts,t.valid=true)(hk:k=4\/k=5/\ts.length=3\/k=7/\ts.length=2):
  ∀(N:Nat) (Q:QT [.ag 2,.bool]),(∀ d b N',N<=N'->Qu (wL k s ts) d b->(∀ x∈d.foot,x∈zC es\/N<=x)->Q d b N') ->
  ACalls prog 155 [.ag 2,.bool] [.dg 9 (.ag [.j k,.t s,c2,.j n,c4,c5,c6,c7,c8]),.sv a 2 es c] N Q:=λN Q hQ=>by
 refine L0 N _ a es c Q λ_ _=>?_;rcases hk with rfl | ⟨rfl,hl⟩ | ⟨rfl,hl⟩
 ·repeat' first|with_reducible intro _|simp only[Y1]|with_reducible refine X ?_ ?_|refine⟨_,_,_,rfl,?_⟩|refine⟨_,rfl,?_⟩|refine X0 ?_|refine(OR h O a c s) _ _ ?_|fail
  ·rename_i N1 ab d b N2 ac ho ae _ _ N3 ah;exact hQ _ _ _ aA (by simpa [wL]using ho) λx U=>.inr (by have:=ae x U;omega)
  all_goals(exfalso;omega)
 ·obtain⟨t0,t1,t2,rfl⟩:∃ t0 t1 t2,ts=[t0,t1,t2]:=by
   match ts,hl with
   | [t0,t1,t2],_=>exact⟨t0,t1,t2,rfl⟩
  obtain⟨d0,_,rfl,h0,d1,_,rfl,h1,d2,_,rfl,h2,rfl⟩:=h;cases t0 with
  | mk J l0=>
  obtain⟨a0,es0,c0,rfl,ai,Y⟩:=Ty.is_mk.1 h0;have hq:∀(b:Bool) (N':Nat),N<=N'->(J=2/\rk t1 t2=b\/¬J=2/\b=false)->Q d1 b N':=λb N' I hb=>by
   refine hQ _ _ _ I ?_ λx U=>.inl (by simp only[zC,oM];exact .inr (.inl U));rcases hb with⟨e1,e2⟩ | ⟨e1,rfl⟩
   ·cases b<;>simp[wL,Ty.k,e1,e2,Qu,h1]
   ·simp[wL,Ty.k,e1,Qu]
  repeat' first|with_reducible intro _|simp only[oJ,oN,Y1]|with_reducible refine X ?_ ?_|refine⟨_,_,_,rfl,?_⟩|refine⟨_,rfl,?_⟩|refine X0 ?_|refine(wn _ _ _ _ h1 h2) _ _ ?_|fail
  all_goals first | (exfalso;omega) | skip
  ·exact hq _ _ aA (.inl ⟨aE,rfl⟩)
  ·exact hq _ _ aA (.inr ⟨aE,rfl⟩)
 ·obtain⟨t0,t1,rfl⟩:∃ t0 t1,ts=[t0,t1]:=by
   match ts,hl with
   | [t0,t1],_=>exact⟨t0,t1,rfl⟩
  obtain⟨d0,_,rfl,h0,d1,_,rfl,h1,rfl⟩:=h;cases t0 with
  | mk J l0=>
  obtain⟨a0,es0,c0,rfl,ai,Y⟩:=Ty.is_mk.1 h0;have hf:=Ty.form_len (hv _ nW);have aj:=Ty.valid_cnt (hv _ nW);have hz:∀ N',N<=N'->¬(J=3/\rk (l0.getD 0 tZero) t1=true)->Q (.ag [.j 0,.sl none 2 [] 0]) false N':=λN' I hb=>by
   refine hQ _ _ _ I ?_ (by simp[D.foot,zC]);have:wL 7 s [.mk J l0,t1]=none:=by simp only[wL];rw[if_neg aA,if_neg aA];exact if_neg hb
   rw[this];rfl
  by_cases hk:J=3
  ·subst hk;have aa:(l0.length:Int)=2:=by simpa [pJ]using hf
   have aa:l0.length=2:=aA
   obtain⟨u0,u1,rfl⟩:∃ t0 t1,l0=[t0,t1]:=by
    match l0,aa with
    | [t0,t1],_=>exact⟨t0,t1,rfl⟩
   obtain⟨x0,_,rfl,ak,x1,_,rfl,al,rfl⟩:=Y;simp only[Ty.cnt,zI]at aj
   repeat' first|with_reducible intro _|simp only[oJ,oN,Y1]|with_reducible refine X ?_ ?_|refine⟨_,_,_,rfl,?_⟩|refine⟨_,rfl,?_⟩|refine X0 ?_|refine(wn _ _ _ _ ak h1) _ _ ?_|refine(zL _ _ al aA) _ _ ?_|fail
   all_goals first | (exfalso;omega) | skip
   ·rename_i he N1 ab d' N2 ac ao ho _ _ N3 ah;refine hQ _ _ _ aA ?_ λx U=>.inr (by have:=ho.lo x U;omega);simp[wL,Ty.k,Ty.as,he,Qu,ao]
   ·rename_i he _ _;exact hz _ aA (by simp[he])
  ·repeat' first|with_reducible intro _|simp only[oJ,oN,Y1]|with_reducible refine X ?_ ?_|refine⟨_,_,_,rfl,?_⟩|refine⟨_,rfl,?_⟩|refine X0 ?_|fail
   all_goals first | (exfalso;omega) | skip
   exact hz _ aA λhc=>hk hc.1
def vld (o:Option Ty):Option Ty:=match o with
 | some t=>if t.valid then some t else none
 | none=>none
def xV (k:Int)(t:Ty):Option Ty:=
 if k=10 then some (xW t)else if k=13 then(if t.base then some (xW t)else none)else if t.k=4 then some (t.as.getD 0 tZero)else none
def EV (g:aQ)(s:aG)(n:Int):Option Ty:=
 if ym g s<0 then none else if(g.getD (ym g s).toNat tg0).lv=n then some (g.getD (ym g s).toNat tg0).ty else none
mutual
def Tm.type:Tm->aQ->Int->Option Ty
 | .mk k nm ot _ ty re l,g,n=>vld (
   if k=1 then EV g nm n
   else if k=2 then some tInt
   else if k=3 then some tBool
   else if k=6 then(match tU l 0 (g++[⟨nm,ty,n⟩]) n with | some b=>some (wP ty b) | none=>none)
   else if k=8 then(match tU l 0 g n with | some a=>tU l 1 (g++[⟨nm,a,n⟩]) n | none=>none)
   else if k=9 then(match tU l 0 ((g++[⟨nm,wP ty re,n⟩])++[⟨ot,ty,n⟩]) n with | some b=>if rk b re then some (wP ty re)else none | none=>none)
   else if k=10\/k=11\/k=12\/k=13 then(match tU l 0 (if k=12 then tn g n else g) (zK k n)with | some t=>xV k t | none=>none)
   else(match yT l g n with | some ts=>wL k nm ts | none=>none))
def tU:aP->Nat->aQ->Int->Option Ty
 | [],_,_,_=>none
 | t::_,0,g,n=>t.type g n
 | _::ts,i+1,g,n=>tU ts i g n
def yT:aP->aQ->Int->Option (aR)
 | [],_,_=>some []
 | t::ts,g,n=>match t.type g n with
   | some u=>(match yT ts g n with | some us=>some (u::us) | none=>none)
   | none=>none
end
theorem WX {o}(h:vld o=some t):o=some t/\t.valid=true:=by
 cases o with
 | none=>cases h
 | some u=>
   simp only[vld]at h;split at h
   ·cases h;exact⟨rfl,aE⟩
   ·cases h
theorem Tm.type_valid (h:e.type g n=some t):t.valid=true:=by
 cases e with
 | mk k nm ot m ty re l=>simp only[Tm.type]at h;exact(WX h).2
theorem JN:∀ {l:aP}{g:aQ}{n:Int}{ts:aR},yT l g n=some ts->ts.length=l.length/\∀ t∈ts,t.valid=true
 | [],g,n,ts,h=>by simp[yT]at h;subst h;simp
 | e :: es,g,n,ts,h=>by
   simp only[yT]at h;split at h
   ·rename_i u J;split at h
    ·rename_i us I;cases h
     have:=JN I
     refine⟨by simp[this.1],λt ht=>?_⟩;rcases oK.1 ht with rfl | ht
     ·exact Tm.type_valid J
     ·exact this.2 t ht
    ·cases h
   ·cases h
structure Pre (g:aQ) (e:Tm) (n:Int):Prop where
 ok:e.ok=true
 lev:e.lev n=true
 len:g.length+2*e.dp<=1073741824
 ty:∀ x∈g,x.ty.cnt<=64
structure Node (k:Int) (nm ot:aG) (n:Int) (ty re:Ty) (l:aP):Prop where
 f:zH k nm ot n ty re=true
 ar:(l.length:Int)=IL k nm
 sub:∀ x∈l,x.ok=true
theorem NW:∀ {l:aP}{x:Tm},rZ l=true->x∈l->x.ok=true
 | t::ts,x,h,hx=>by
   simp only[rZ,oL]at h;rcases oK.1 hx with rfl | hx
   ·exact h.1
   ·exact NW h.2 hx
theorem J3:∀ {l:aP}{n:Int}{x:Tm},rY l n=true->x∈l->x.lev n=true
 | t::ts,n,x,h,hx=>by
   simp only[rY,oL]at h;rcases oK.1 hx with rfl | hx
   ·exact h.1
   ·exact J3 h.2 hx
theorem yn {k}(h:(Tm.mk k nm ot n ty re l).ok=true):Node k nm ot n ty re l:=by simp only[Tm.ok,oL]at h;exact⟨h.2.1,by simpa using h.2.2,λx I=>NW h.1 I⟩
theorem Node.vt {k}(h:Node k nm ot n ty re l)(I:k=6\/k=9):ty.valid=true:=by
 have:=h.f
 have e:qh k=true:=by rcases I with rfl | rfl<;>rfl
 simp only[zH,oL,e]at this;simpa using this.1
theorem Node.vr {k}(h:Node k nm ot n ty re l)(I:k=9):re.valid=true:=by
 have:=h.f
 subst I;simp only[zH,oL]at this;simpa using this.2.2.1
theorem Gd {k}(h:0<=IL k nm):k=1\/k=2\/k=3\/k=4\/k=5\/k=6\/k=7\/k=8\/k=9\/k=10\/k=11\/k=12\/k=13:=by
 unfold IL at h
 (repeat' split at h)<;>omega
theorem Ty.cnt_pos (t:Ty):1<=t.cnt:=by cases t;simp only[Ty.cnt];omega
theorem Pre.sub {g' k x}(h:Pre g (.mk k nm ot m ty re l) n)(I:x∈l)(hl:g'.length<=g.length+2)(J:∀ y∈g',y.ty.cnt<=64):Pre g' x (zK k n):=by
 have O:=h.len;have U:=uM I;simp only[Tm.dp]at O;refine⟨(yn h.ok).sub x I,?_,aA,J⟩
 have:=h.lev
 simp only[Tm.lev,oL]at this;exact J3 this.2 I
theorem tT k nm:IL k nm<=3:=by
 unfold IL
 (repeat' split)<;>first | omega | (unfold rj;(repeat' split)<;>omega)
theorem Pre.len1 (h:Pre g e n):g.length+2<=1073741824:=by have I:=h.len;have J:=Tm.dp_pos e;omega
theorem Pre.lv (h:Pre g e n):0<=n/\n<=2:=by
 have:=h.lev
 cases e;simp only[Tm.lev,oL]at this;exact yE.1 this.1
theorem AI (h:∀ y∈g,y.ty.cnt<=64){x}(I:x.ty.cnt<=64):∀ y∈g++[x],y.ty.cnt<=64:=λy hy=>by
 rcases oM.1 hy with hy | hy
 ·exact h y hy
 ·rw[oi]at hy;subst hy;exact I
theorem LQ (e:Tm) g n:((e.type g n).getD tZero).cnt<=30:=by
 cases h:e.type g n with
 | none=>simp[tZero,Ty.cnt,zI]
 | some t=>simpa using Ty.valid_cnt (Tm.type_valid h)
def Y4 f args(o:Option Ty):=∀(N:Nat) (Q:QT [.ag 2,.bool]),(∀ d N',N<=N'->(o.getD tZero).Is d->Q d o.isSome N')->ACalls prog f [.ag 2,.bool] args N Q
def ZO f args(o:Option Ty):=∀(N:Nat) (Q:QT [.ag 2,.bool]),(∀ d N',N<=N'->(∀ t,o=some t->t.Is d)->Q d o.isSome N')->ACalls prog f [.ag 2,.bool] args N Q
def IH (l:aP):Prop:=∀ x∈l,∀ d,x.Is d->∀ g es a c n,Pre g x n->Ctx g es->Y4 43 [.sv a 4 es c,.dg 9 d,.j n] (x.type g n)
theorem Xc (ih:IH [e0])(O:Tm.Hd nm ot ty re t0 t1 r0 r1)(h0:e0.Is d0)(pre:Pre g (.mk 6 nm ot m ty re [e0]) n)(U:Ctx g es):
  ZO 153 [.sv a 4 es c,.dg 9 (.ag [.j 6,.t nm,.t ot,.j m,t0,t1,r0,r1,.sl a1 9 [d0] c1]),.j n] (match e0.type (g++[⟨nm,ty,n⟩]) n with | some b=>some (wP ty b) | none=>none):=λN Q J=>by
 have Y:=pre.len1;have hv:=Ty.valid_cnt ((yn pre.ok).vt (.inl rfl));have hp:Pre (g++[⟨nm,ty,n⟩]) e0 n:=by simpa [zK]using pre.sub (x:=e0) aB (g':=g++[⟨nm,ty,n⟩]) aB (AI pre.ty (show ty.cnt<=64 by omega))
 have hc:=LQ e0 (g++[⟨nm,ty,n⟩]) n;refine qJ N a es c _ n Q λ_ _=>?_
 repeat' first|with_reducible intro _|simp only[oJ,oN,Y1]|with_reducible refine X ?_ ?_|refine⟨_,_,_,rfl,?_⟩|refine⟨_,rfl,?_⟩|refine X0 ?_|refine(yV U aA a c O.nm O.ty n) _ _ ?_|refine(ih e0 nW d0 h0 (g++[⟨nm,ty,n⟩]) _ _ _ n hp aE) _ _ ?_|refine(xw ty ((e0.type (g++[⟨nm,ty,n⟩]) n).getD tZero) _ _ O.ty aE aA aA) _ _ ?_|fail
 all_goals first | (exfalso;omega) | skip
 rename_i x1 N6 aa I ho _ _ N7 ab;cases h:e0.type (g++[⟨nm,ty,n⟩]) n with
 | none=>rw[h]at J;exact J _ _ aA aB
 | some b=>rw[h]at J I;exact J _ _ aA (by simpa using I)
theorem Xd {e1 d1}(Y:IH [e0,e1])(hh:Tm.Hd nm ot ty re t0 t1 r0 r1)(h0:e0.Is d0)(h1:e1.Is d1)(pre:Pre g (.mk 8 nm ot m ty re [e0,e1]) n)(J:Ctx g es):
  ZO 153 [.sv a 4 es c,.dg 9 (.ag [.j 8,.t nm,.t ot,.j m,t0,t1,r0,r1,.sl a1 9 [d0,d1] c1]),.j n] (match e0.type g n with | some b=>e1.type (g++[⟨nm,b,n⟩]) n | none=>none):=λN Q O=>by
 have aa:=pre.len1;have hp:Pre g e0 n:=by simpa [zK]using pre.sub (x:=e0) aB (g':=g) aB pre.ty
 have hc:=LQ e0 g n;have I:=Y e0 nW d0 h0 g es a c n hp J;refine qJ N a es c _ n Q λ_ _=>?_;cases h:e0.type g n with
 | none=>
   rw[h]at O I
   repeat' first|with_reducible intro _|simp only[oJ,oN,me,Y1]|with_reducible refine X ?_ ?_|refine⟨_,_,_,rfl,?_⟩|refine⟨_,rfl,?_⟩|refine X0 ?_|refine I _ _ ?_|fail
   all_goals first | (exfalso;omega) | skip
   exact O _ _ aA aB
 | some b=>
   rw[h]at O hc I;dsimp only at O;have U:Pre (g++[⟨nm,b,n⟩]) e1 n:=by simpa [zK]using pre.sub (x:=e1) aB (g':=g++[⟨nm,b,n⟩]) aB (AI pre.ty (by simpa using oR hc aA))
   repeat' first|with_reducible intro _|simp only[oJ,oN,mi,Y1]|with_reducible refine X ?_ ?_|refine⟨_,_,_,rfl,?_⟩|refine⟨_,rfl,?_⟩|refine X0 ?_|refine I _ _ ?_|refine(yV J aA a c hh.nm (t:=b) aE n) _ _ ?_|refine(Y e1 aB d1 h1 (g++[⟨nm,b,n⟩]) _ _ _ n U aE) _ _ ?_|fail
   all_goals first | (exfalso;omega) | skip
   rename_i hx _ _ _ _;refine O _ _ aA λt ht=>?_;rw[ht]at hx;exact hx
theorem Xe (ih:IH [e0])(I:Tm.Hd nm ot ty re t0 t1 r0 r1)(h0:e0.Is d0)(pre:Pre g (.mk 9 nm ot m ty re [e0]) n)(U:Ctx g es):
  ZO 153 [.sv a 4 es c,.dg 9 (.ag [.j 9,.t nm,.t ot,.j m,t0,t1,r0,r1,.sl a1 9 [d0] c1]),.j n]
   (match e0.type ((g++[⟨nm,wP ty re,n⟩])++[⟨ot,ty,n⟩]) n with | some b=>if rk b re then some (wP ty re)else none | none=>none):=λN Q J=>by
 have ab:=pre.len1;have hv:=Ty.valid_cnt ((yn pre.ok).vt (.inr rfl));have hr:=Ty.valid_cnt ((yn pre.ok).vr rfl);have aa:=AI (x:=⟨nm,wP ty re,n⟩) pre.ty (show(wP ty re).cnt<=64 by simp only[wP,Ty.cnt,zI];omega);have hp:=pre.sub (x:=e0) aB (g':=(g++[⟨nm,wP ty re,n⟩])++[⟨ot,ty,n⟩]) aB (AI aa (show ty.cnt<=64 by omega));rw[show zK 9 n=n by simp[zK]]at hp;have ac:1<=(Tm.mk 9 nm ot m ty re [e0]).cnt:=by simp only[Tm.cnt];omega
 have Y:(g++[⟨nm,wP ty re,n⟩]:aQ).length<=1073741824:=by rw[oG,mE];omega
 have O:∀ es a c,Ctx ((g++[⟨nm,wP ty re,n⟩])++[⟨ot,ty,n⟩]) es->Y4 43 [.sv a 4 es c,.dg 9 d0,.j n] (e0.type ((g++[⟨nm,wP ty re,n⟩])++[⟨ot,ty,n⟩]) n):=λes a c hc=>ih e0 nW d0 h0 _ es a c n hp hc;refine qJ N a es c _ n Q λ_ _=>?_;cases h:e0.type ((g++[⟨nm,wP ty re,n⟩])++[⟨ot,ty,n⟩]) n with
 | none=>
   rw[h]at J O;dsimp only at J
   repeat' first|with_reducible intro _|simp only[oJ,oN,me,Y1]|with_reducible refine X ?_ ?_|refine⟨_,_,_,rfl,?_⟩|refine⟨_,rfl,?_⟩|refine X0 ?_|refine(xw ty re _ _ I.ty I.re aA aA) _ _ ?_|refine(yV U aA a c I.nm (t:=wP ty re) aE n) _ _ ?_|refine(yV (g:=g++[⟨nm,wP ty re,n⟩]) aE Y _ _ I.ot I.ty n) _ _ ?_|refine(O _ _ _ aE) _ _ ?_|fail
   all_goals first | (exfalso;omega) | skip
   exact J _ _ aA aB
 | some b=>
   rw[h]at J O;dsimp only at J
   repeat' first|with_reducible intro _|simp only[oJ,oN,mi,Y1]|with_reducible refine X ?_ ?_|refine⟨_,_,_,rfl,?_⟩|refine⟨_,rfl,?_⟩|refine X0 ?_|refine(xw ty re _ _ I.ty I.re aA aA) _ _ ?_|refine(yV U aA a c I.nm (t:=wP ty re) aE n) _ _ ?_|refine(yV (g:=g++[⟨nm,wP ty re,n⟩]) aE Y _ _ I.ot I.ty n) _ _ ?_|refine(O _ _ _ aE) _ _ ?_|refine(wn b re _ _ aE I.re) _ _ ?_|fail
   all_goals first | (exfalso;omega) | skip
   cases he:rk b re with
   | false=>rw[he]at J;exact J _ _ aA aB
   | true=>rw[he]at J;exact J _ _ aA λt ht=>by cases ht;assumption
theorem Xi {k}(hk:k=10\/k=11\/k=12\/k=13)(ih:IH [e0])(h0:e0.Is d0)(pre:Pre g (.mk k nm ot m ty re [e0]) n)(ae:Ctx g es):
  ZO 154 [.sv a 4 es c,.dg 9 (.ag [.j k,.t nm,.t ot,.j m,t0,t1,r0,r1,.sl a1 9 [d0] c1]),.j n]
   (match e0.type (if k=12 then tn g n else g) (zK k n)with | some t=>xV k t | none=>none):=λN Q I=>by
 have ao:=pre.len1;have ah:=Ao g n g 0;have hp:=pre.sub (x:=e0) aB (g':=if k=12 then tn g n else g) (by split<;>simp[tn];omega) (by split;exact λy hy=>pre.ty y (ah.1 y hy);exact pre.ty);have Y:∀ es a c,Ctx (if k=12 then tn g n else g) es->Y4 43 [.sv a 4 es c,.dg 9 d0,.j (zK k n)] (e0.type (if k=12 then tn g n else g) (zK k n)):=λes a c hc=>ih e0 nW d0 h0 _ es a c _ hp hc;have ai:∀ x∈g,x.ty.cnt<=1073741824:=λx hx=>oR (pre.ty x hx) aA;refine JL N a es c _ n Q λ_ _=>?_;cases h:e0.type (if k=12 then tn g n else g) (zK k n)with
 | none=>
   rw[h]at I Y;dsimp only at I
   repeat' first|with_reducible intro _|simp only[oJ,oN,me,Y1]|with_reducible refine X ?_ ?_|refine⟨_,_,_,rfl,?_⟩|refine⟨_,rfl,?_⟩|refine X0 ?_|refine(sw ae aA ai a c n) _ _ ?_|refine(ru pre.lv) _ _ ?_|refine(Y _ _ _ (by first | (rw[if_pos aE];assumption) | (rw[if_neg aE];assumption))) _ _ ?_|fail
   all_goals first | (exfalso;omega) | skip
   all_goals exact I _ _ aA aB
 | some t=>
   have hv:=Tm.type_valid h;rw[h]at I Y;dsimp only at I;cases t with
   | mk J l0=>
   have hf:=Ty.form_len hv;have aj:=Ty.valid_cnt hv
   repeat' first|with_reducible intro _|simp only[oJ,oN,mi,Y1]|with_reducible refine X ?_ ?_|refine⟨_,_,_,rfl,?_⟩|refine⟨_,rfl,?_⟩|refine X0 ?_|refine(sw ae aA ai a c n) _ _ ?_|refine(ru pre.lv) _ _ ?_|refine(Y _ _ _ (by first | (rw[if_pos aE];assumption) | (rw[if_neg aE];assumption))) _ _ ?_|refine(wI (.mk J l0) _ aE aA) _ _ ?_|refine(rr (.mk J l0) _ aE) _ _ ?_|fail
   all_goals first | (exfalso;omega) | skip
   ·rename_i hd _ _ O U;obtain⟨a2,ak,c2,rfl,al,aa⟩:=Ty.is_mk.1 hd;by_cases h4:J=4
    ·subst h4;have ab:(l0.length:Int)=1:=by simpa [pJ]using hf
     obtain⟨u,rfl⟩:∃ u,l0=[u]:=by
      match l0,ab with
      | [u],_=>exact⟨u,rfl⟩
      | [],h=>simp at h
      | _::_::_,h=>simp at h;omega
     obtain⟨x0,_,rfl,ac,rfl⟩:=aa;simp only[Ty.cnt,zI]at aj;have hs:xV k (.mk 4 [u])=some u:=by simp[xV,O,U,Ty.k,Ty.as]
     rw[hs]at I
     repeat' first|with_reducible intro _|simp only[oJ,oN,Y1]|with_reducible refine X ?_ ?_|refine⟨_,_,_,rfl,?_⟩|refine⟨_,rfl,?_⟩|refine X0 ?_|refine(zL u _ ac aA) _ _ ?_|fail
     all_goals first | (exfalso;omega) | skip
     exact I _ _ aA λt ht=>by cases ht;assumption
    ·have hs:xV k (.mk J l0)=none:=by simp[xV,O,U,Ty.k,h4]
     rw[hs]at I
     repeat' first|with_reducible intro _|simp only[oJ,oN,Y1]|with_reducible refine X ?_ ?_|refine⟨_,_,_,rfl,?_⟩|refine⟨_,rfl,?_⟩|refine X0 ?_|fail
     all_goals first | (exfalso;omega) | skip
     exact I _ _ aA aB
   ·have hs:xV k (.mk J l0)=some (xW (.mk J l0)):=by rw[xV,if_pos aE]
    rw[hs]at I;exact I _ _ aA λt ht=>by cases ht;assumption
   ·have hs:xV k (.mk J l0)=if(Ty.mk J l0).base then some (xW (.mk J l0))else none:=by rw[xV,if_neg aE,if_pos aE]
    rw[hs]at I;cases hb:(Ty.mk J l0).base with
    | false=>rw[hb]at I;exact I _ _ aA aB
    | true=>rw[hb]at I;exact I _ _ aA λt ht=>by cases ht;assumption
   ·rename_i hd _ _ O U;obtain⟨a2,ak,c2,rfl,al,aa⟩:=Ty.is_mk.1 hd;by_cases h4:J=4
    ·subst h4;have ab:(l0.length:Int)=1:=by simpa [pJ]using hf
     obtain⟨u,rfl⟩:∃ u,l0=[u]:=by
      match l0,ab with
      | [u],_=>exact⟨u,rfl⟩
      | [],h=>simp at h
      | _::_::_,h=>simp at h;omega
     obtain⟨x0,_,rfl,ac,rfl⟩:=aa;simp only[Ty.cnt,zI]at aj;have hs:xV k (.mk 4 [u])=some u:=by simp[xV,O,U,Ty.k,Ty.as]
     rw[hs]at I
     repeat' first|with_reducible intro _|simp only[oJ,oN,Y1]|with_reducible refine X ?_ ?_|refine⟨_,_,_,rfl,?_⟩|refine⟨_,rfl,?_⟩|refine X0 ?_|refine(zL u _ ac aA) _ _ ?_|fail
     all_goals first | (exfalso;omega) | skip
     exact I _ _ aA λt ht=>by cases ht;assumption
    ·have hs:xV k (.mk J l0)=none:=by simp[xV,O,U,Ty.k,h4]
     rw[hs]at I
     repeat' first|with_reducible intro _|simp only[oJ,oN,Y1]|with_reducible refine X ?_ ?_|refine⟨_,_,_,rfl,?_⟩|refine⟨_,rfl,?_⟩|refine X0 ?_|fail
     all_goals first | (exfalso;omega) | skip
     exact I _ _ aA aB
def Tm.raw:Tm->aQ->Int->Option Ty
 | .mk k nm ot _ ty re l,g,n=>
   if k=1 then EV g nm n
   else if k=2 then some tInt
   else if k=3 then some tBool
   else if k=6 then(match tU l 0 (g++[⟨nm,ty,n⟩]) n with | some b=>some (wP ty b) | none=>none)
   else if k=8 then(match tU l 0 g n with | some a=>tU l 1 (g++[⟨nm,a,n⟩]) n | none=>none)
   else if k=9 then(match tU l 0 ((g++[⟨nm,wP ty re,n⟩])++[⟨ot,ty,n⟩]) n with | some b=>if rk b re then some (wP ty re)else none | none=>none)
   else if k=10\/k=11\/k=12\/k=13 then(match tU l 0 (if k=12 then tn g n else g) (zK k n)with | some t=>xV k t | none=>none)
   else(match yT l g n with | some ts=>wL k nm ts | none=>none)
theorem Tm.type_eq (e:Tm) g n:e.type g n=vld (e.raw g n):=by cases e;simp only[Tm.type,Tm.raw]<;>rfl
theorem Z9 {r}(ha:ApA a r)(hb:xj N [a])(h:∀ x∈d.foot,x∈zC r\/N<=x):Off [a] d:=by
 intro a' I ad J O;rw[oi]at I;subst I;rcases h _ O with h | h
 ·have:∀ r:aM,ad.block∈zC r->∃ d∈r,ad.block∈d.foot:=by
   intro r
   induction r with
   | nil=>intro h;simp[zC]at h
   | cons x r ih=>
     intro h;simp only[zC,oM]at h;rcases h with h | h
     ·exact⟨x,aB,h⟩
     ·obtain⟨d,hd,O⟩:=ih h;exact⟨d,by simp[hd],O⟩
  obtain⟨d',U,Y⟩:=this r h;exact ha ad J d' U Y
 ·have:=hb a' aB ad J
  omega
theorem SP {k O}(hk:k=4\/k=5\/k=7)(ih:IH l)(h0:All2 Tm.Is l O)(ae:O.length<=4611686018427387904)(pre:Pre g (.mk k nm ot m ty re l) n)(ah:Ctx g es) N(Q:QT [.ag 2,.bool])(U:∀ d N',N<=N'->(∀ t,Tm.raw (.mk k nm ot m ty re l) g n=some t->t.Is d)->Q d (Tm.raw (.mk k nm ot m ty re l) g n).isSome N'):
  xc Q N a es c n 0 0 (0:Nat) (.ag [.j k,.t nm,.t ot,.j m,t0,t1,r0,r1,.sl a1 9 O c1]) 0 none [] 0 [] 0 N:=by
 have ay:=pre.len1;have a7:=h0.len;have nd:=yn pre.ok;have a8:=nd.ar;have az:=tT k nm;have aa:Tm.raw (.mk k nm ot m ty re l) g n=(match yT l g n with | some ts=>wL k nm ts | none=>none):=by simp only[Tm.raw];rw[if_neg aA,if_neg aA,if_neg aA,if_neg aA,if_neg aA,if_neg aA,if_neg aA]
 rw[aa]at U;refine up h0 ae (λi xs=>∀(r:aM) (q p:Nat) (N':Nat) (ts:aR),N<=N'->p=r.length->All2 Ty.Is ts r->ts.length=i->(∀ t∈ts,t.valid=true) ->
  yT l g n=(match yT xs g n with | some us=>some (ts++us) | none=>none) ->
  xc Q N a es c n p q i (.ag [.j k,.t nm,.t ot,.j m,t0,t1,r0,r1,.sl a1 9 O c1]) 0 none [] 0 r q N') ?_ ?_ [] 0 0 N [] (oC _) rfl rfl rfl aB ?_
 ·intro i ai hi r q p N' ts aj hp hr ab hv I;have ak:=hr.len;simp only[yT,o8]at I;rw[I]at U;dsimp only at U;have al:k=4\/k=5/\ts.length=3\/k=7/\ts.length=2:=by
   have:=nd.ar
   rcases hk with rfl | rfl | rfl
   ·exact .inl rfl
   ·exact .inr (.inl ⟨rfl, by have:(l.length:Int)=3:=this
                              omega⟩)
   ·exact .inr (.inr ⟨rfl, by have:(l.length:Int)=2:=this
                              omega⟩)
  refine qg ?_
  repeat' first|with_reducible intro _|simp only[ai,Y1]|with_reducible refine X ?_ ?_|refine⟨_,_,_,rfl,?_⟩|refine⟨_,rfl,?_⟩|refine X0 ?_|refine(Kk hr aA _ _ hv al) _ _ ?_|fail
  rename_i a2 ao a6 N4 ba aq d b N5 bb ho au _;refine⟨Z9 ao aq au,λ_ N6 bc=>?_⟩;cases h:wL k nm ts with
  | none=>rw[h]at ho U;simp only[Qu]at ho;subst ho;exact U _ _ aA aB
  | some t=>rw[h]at ho U;obtain⟨rfl,ho⟩:=ho;exact U _ _ aA λt ht=>by cases ht;exact ho
 ·intro i x xs J _ aw r q p N' ts aj hp hr ab hv I;have hb:=J.b;have ak:=hr.len;have ac:=pre.sub J.m (g':=g) aA pre.ty;rw[show zK k n=n by simp only[zK];rw[if_neg aA,if_neg aA]]at ac;have Y:=ih x J.m _ J.r g es a c n ac ah;simp only[yT]at I;refine qg ?_;cases h:x.type g n with
  | none=>
    rw[h]at Y I;dsimp only at I;rw[I]at U
    repeat' first|with_reducible intro _|simp only[J.lt,J.w,oI,me,Y1]|with_reducible refine X ?_ ?_|refine⟨_,_,_,rfl,?_⟩|refine⟨_,rfl,?_⟩|refine X0 ?_|refine Y _ _ ?_|fail
    all_goals first | (exfalso;omega) | skip
    exact U _ _ aA aB
  | some t=>
    have ax:=Tm.type_valid h;rw[h]at Y I;dsimp only at I
    repeat' first|with_reducible intro _|simp only[J.lt,J.w,oI,mi,Y1]|with_reducible refine X ?_ ?_|refine⟨_,_,_,rfl,?_⟩|refine⟨_,rfl,?_⟩|refine X0 ?_|refine Y _ _ ?_|fail
    all_goals first | (exfalso;omega) | skip
    rename_i N2 bg d N3 bh hd _ _;refine⟨by unfold zB;simp only[oG,mE];omega,λc2=>aw _ _ _ _ (ts++[t]) aA rfl (hr.snoc hd) (by simp[ab]) (λu hu=>?_) ?_⟩
    ·rcases oM.1 hu with hu | hu
     ·exact hv u hu
     ·rw[oi]at hu;subst hu;exact ax
    ·rw[I];cases yT xs g n<;>simp
 ·cases yT l g n<;>simp
theorem E3 {α:Type}{l:List α}(h:l.length=1):∃ a,l=[a]:=by
 match l,h with
 | [a],_=>exact⟨a,rfl⟩
theorem Qf {α:Type}{l:List α}(h:l.length=2):∃ a b,l=[a,b]:=by
 match l,h with
 | [a,b],_=>exact⟨a,b,rfl⟩
theorem Kl (he:e.Is d)(ih:match e with | .mk _ _ _ _ _ _ l=>IH l)(pre:Pre g e n)(O:Ctx g es):
  ZO 89 [.sv a 4 es c,.dg 9 d,.j n] (e.raw g n):=λN Q U=>by
 cases e with
 | mk k nm ot m ty re l=>
 dsimp only at ih;obtain⟨t0,t1,r0,r1,a1,ae,c1,rfl,hh,Y,J⟩:=Tm.is_mk.1 he;have hl:=J.len;have ah:=O.all.len;have nd:=yn pre.ok;have aa:=nd.ar;have ab:=Gd (k:=k) (nm:=nm) aA;refine L2 N a es c _ n Q λ_ _=>?_;rcases ab with rfl | rfl | rfl | h | h | rfl | h | rfl | rfl | h | h | h | h
 ·-- a variable
  have I:Tm.raw (.mk 1 nm ot m ty re l) g n=EV g nm n:=by simp[Tm.raw]
  rw[I]at U;rcases HK g nm g.length with hlx | hlx
  ·have hlx:ym g nm = -1:=hlx;have:EV g nm n=none:=by simp[EV,hlx]
   rw[this]at U
   repeat' first|with_reducible intro _|simp only[hlx,Y1]|with_reducible refine X ?_ ?_|refine⟨_,_,_,rfl,?_⟩|refine⟨_,rfl,?_⟩|refine X0 ?_|refine(tC O a c nm) _ _ ?_|fail
   all_goals first | (exfalso;omega) | skip
   exact U _ _ aA aB
  ·have hlx:0<=ym g nm/\ym g nm<g.length:=hlx;have hg:g[(ym g nm).toNat]?=some g[(ym g nm).toNat]:=oH aA;have hx:=O.all.get hg;have ac:g.getD (ym g nm).toNat tg0=g[(ym g nm).toNat]:=K1 hg;obtain⟨u0,u1,hd,hs,ht⟩:=hx;have hm:g[(ym g nm).toNat]∈g:=mN _;have ai:=pre.ty _ hm;have:EV g nm n=if g[(ym g nm).toNat].lv=n then some g[(ym g nm).toNat].ty else none:=by rw[EV,if_neg aA,ac]
   rw[this]at U;generalize g[(ym g nm).toNat]=x at *
   repeat' first|with_reducible intro _|simp only[hd,Y1]|with_reducible refine X ?_ ?_|refine⟨_,_,_,rfl,?_⟩|refine⟨_,rfl,?_⟩|refine X0 ?_|refine(tC O a c nm) _ _ ?_|refine(zL _ _ ht aA) _ _ ?_|fail
   all_goals first | (exfalso;omega) | skip
   ·rw[if_neg aE]at U;exact U _ _ aA aB
   ·rw[if_pos aE]at U;exact U _ _ aA λt ht=>by cases ht;assumption
 ·have I:Tm.raw (.mk 2 nm ot m ty re l) g n=some tInt:=by simp[Tm.raw]
  rw[I]at U
  repeat' first|with_reducible intro _|simp only[Y1]|with_reducible refine X ?_ ?_|refine⟨_,_,_,rfl,?_⟩|refine⟨_,rfl,?_⟩|refine X0 ?_|refine xy _ _ ?_|fail
  all_goals first | (exfalso;omega) | skip
  exact U _ _ aA λt ht=>by cases ht;assumption
 ·have I:Tm.raw (.mk 3 nm ot m ty re l) g n=some tBool:=by simp[Tm.raw]
  rw[I]at U
  repeat' first|with_reducible intro _|simp only[Y1]|with_reducible refine X ?_ ?_|refine⟨_,_,_,rfl,?_⟩|refine⟨_,rfl,?_⟩|refine X0 ?_|refine wH _ _ ?_|fail
  all_goals first | (exfalso;omega) | skip
  exact U _ _ aA λt ht=>by cases ht;assumption
 ·have hk:k=4\/k=5\/k=7:=aA
  have:=SP hk ih J Y pre O (a:=a) (c:=c) (t0:=t0) (t1:=t1) (r0:=r0) (r1:=r1) (a1:=a1) (c1:=c1) N Q U
  repeat' first|with_reducible intro _|simp only[Y1]|with_reducible refine X ?_ ?_|refine⟨_,_,_,rfl,?_⟩|refine⟨_,rfl,?_⟩|refine X0 ?_|fail
  all_goals first | (exfalso;omega) | exact this
 ·have hk:k=4\/k=5\/k=7:=aA
  have:=SP hk ih J Y pre O (a:=a) (c:=c) (t0:=t0) (t1:=t1) (r0:=r0) (r1:=r1) (a1:=a1) (c1:=c1) N Q U
  repeat' first|with_reducible intro _|simp only[Y1]|with_reducible refine X ?_ ?_|refine⟨_,_,_,rfl,?_⟩|refine⟨_,rfl,?_⟩|refine X0 ?_|fail
  all_goals first | (exfalso;omega) | exact this
 ·have h1 : l.length = 1 := by have:(l.length:Int)=1:=aa
                               omega
  obtain⟨e0,rfl⟩:=E3 h1;obtain⟨d0,_,rfl,h0,rfl⟩:=J;have I:Tm.raw (.mk 6 nm ot m ty re [e0]) g n=(match e0.type (g++[⟨nm,ty,n⟩]) n with | some b=>some (wP ty b) | none=>none):=by simp[Tm.raw,tU]
  rw[I]at U
  repeat' first|with_reducible intro _|simp only[Y1]|with_reducible refine X ?_ ?_|refine⟨_,_,_,rfl,?_⟩|refine⟨_,rfl,?_⟩|refine X0 ?_|refine(Xc ih hh h0 pre O) _ _ ?_|fail
  all_goals first | (exfalso;omega) | skip
  exact U _ _ aA aE
 ·have hk:k=4\/k=5\/k=7:=aA
  have:=SP hk ih J Y pre O (a:=a) (c:=c) (t0:=t0) (t1:=t1) (r0:=r0) (r1:=r1) (a1:=a1) (c1:=c1) N Q U
  repeat' first|with_reducible intro _|simp only[Y1]|with_reducible refine X ?_ ?_|refine⟨_,_,_,rfl,?_⟩|refine⟨_,rfl,?_⟩|refine X0 ?_|fail
  all_goals first | (exfalso;omega) | exact this
 ·have h1 : l.length = 2 := by have:(l.length:Int)=2:=aa
                               omega
  obtain⟨e0,e1,rfl⟩:=Qf h1;obtain⟨d0,_,rfl,h0,d1,_,rfl,h1,rfl⟩:=J;have I:Tm.raw (.mk 8 nm ot m ty re [e0,e1]) g n=(match e0.type g n with | some b=>e1.type (g++[⟨nm,b,n⟩]) n | none=>none):=by simp[Tm.raw,tU]
  rw[I]at U
  repeat' first|with_reducible intro _|simp only[Y1]|with_reducible refine X ?_ ?_|refine⟨_,_,_,rfl,?_⟩|refine⟨_,rfl,?_⟩|refine X0 ?_|refine(Xd ih hh h0 h1 pre O) _ _ ?_|fail
  all_goals first | (exfalso;omega) | skip
  exact U _ _ aA aE
 ·have h1 : l.length = 1 := by have:(l.length:Int)=1:=aa
                               omega
  obtain⟨e0,rfl⟩:=E3 h1;obtain⟨d0,_,rfl,h0,rfl⟩:=J;have I:Tm.raw (.mk 9 nm ot m ty re [e0]) g n=(match e0.type ((g++[⟨nm,wP ty re,n⟩])++[⟨ot,ty,n⟩]) n with | some b=>if rk b re then some (wP ty re)else none | none=>none):=by simp only[Tm.raw,tU];rfl
  rw[I]at U
  repeat' first|with_reducible intro _|simp only[Y1]|with_reducible refine X ?_ ?_|refine⟨_,_,_,rfl,?_⟩|refine⟨_,rfl,?_⟩|refine X0 ?_|refine(Xe ih hh h0 pre O) _ _ ?_|fail
  all_goals first | (exfalso;omega) | skip
  exact U _ _ aA aE
 all_goals
  have h1:l.length=1:=by
   have hk:k=10\/k=11\/k=12\/k=13:=aA
   have:(l.length:Int)=1:=by rw[aa];rcases hk with rfl | rfl | rfl | rfl<;>rfl
   omega
  obtain⟨e0,rfl⟩:=E3 h1;obtain⟨d0,_,rfl,h0,rfl⟩:=J;have hk:k=10\/k=11\/k=12\/k=13:=aA
  have I:Tm.raw (.mk k nm ot m ty re [e0]) g n=(match e0.type (if k=12 then tn g n else g) (zK k n)with | some t=>xV k t | none=>none):=by simp only[Tm.raw,tU];rw[if_neg aA,if_neg aA,if_neg aA,if_neg aA,if_neg aA,if_neg aA,if_pos hk]
  rw[I]at U
  repeat' first|with_reducible intro _|simp only[Y1]|with_reducible refine X ?_ ?_|refine⟨_,_,_,rfl,?_⟩|refine⟨_,rfl,?_⟩|refine X0 ?_|refine(Xi hk ih h0 pre O) _ _ ?_|fail
  all_goals first | (exfalso;omega) | skip
  exact U _ _ aA aE
theorem rp:∀ {l:aP}{i:Nat}{g:aQ}{n:Int}{t:Ty},tU l i g n=some t->t.valid=true
 | [],i,g,n,t,h=>by simp[tU]at h
 | e::es,0,g,n,t,h=>by simp only[tU]at h;exact Tm.type_valid h
 | e::es,i+1,g,n,t,h=>by simp only[tU]at h;exact rp h
theorem Kz {l:aR}{m}(h:∀ t∈l,t.cnt<=m)(I:1<=m) i:(l.getD i tZero).cnt<=m:=by
 rw[oA];cases hi:l[i]? with
 | none=>simpa [tZero,Ty.cnt,zI]using I
 | some t=>exact h t (oB hi)
theorem Wg (t:Ty) i:(t.as.getD i tZero).cnt<=t.cnt:=by
 cases t with
 | mk k l=>exact Kz (l:=l) (λu I=>by have:=ww (l:=l) I;simp only[Ty.cnt];omega) (by simp only[Ty.cnt];omega) i
theorem Ys {m}(h:∀ x∈g,x.ty.cnt<=m)(I:1<=m) i:(g.getD i tg0).ty.cnt<=m:=by
 rw[oA];cases hi:g[i]? with
 | none=>simpa [tg0,tZero,Ty.cnt,zI]using I
 | some t=>exact h t (oB hi)
theorem RH {k}(I:∀ t∈ts,t.cnt<=64)(h:wL k s ts=some t):t.cnt<=64:=by
 simp only[wL]at h;split at h
 ·simp only[YU]at h;split at h
  ·cases h;unfold HT;(repeat' split)<;>simp[tInt,tBool,Ty.cnt,zI]
  ·cases h
 ·split at h
  ·split at h
   ·cases h;exact Kz I aA _
   ·cases h
  ·split at h
   ·cases h;exact oR (Wg _ _) (Kz I aA _)
   ·cases h
theorem PG {k u}(J:u.cnt<=30)(h:xV k u=some t):t.cnt<=64:=by
 have I:(xW u).cnt<=64:=by simp only[xW,Ty.cnt,zI];omega
 have O:=Wg u 0;simp only[xV]at h
 (repeat' split at h)<;>cases h<;>first | exact I | omega
theorem Tp (pre:Pre g e n)(h:e.raw g n=some t):t.cnt<=64:=by
 cases e with
 | mk k nm ot m ty re l=>
 have nd:=yn pre.ok;simp only[Tm.raw]at h;split at h
 ·simp only[EV]at h
  (repeat' split at h)<;>cases h
  exact Ys pre.ty aA _
 split at h
 ·cases h;simp[tInt,Ty.cnt,zI]
 split at h
 ·cases h;simp[tBool,Ty.cnt,zI]
 split at h
 ·rename_i O;have U:=Ty.valid_cnt (nd.vt (.inl O));split at h
  ·rename_i b hb
   have:=Ty.valid_cnt (rp hb)
   cases h;simp only[wP,Ty.cnt,zI];omega
  ·cases h
 split at h
 ·split at h
  ·have:=Ty.valid_cnt (rp h);omega
  ·cases h
 split at h
 ·rename_i J;have U:=Ty.valid_cnt (nd.vt (.inr J));have hr:=Ty.valid_cnt (nd.vr J);split at h
  ·split at h
   ·cases h;simp only[wP,Ty.cnt,zI];omega
   ·cases h
  ·cases h
 split at h
 ·split at h
  ·rename_i b hb;exact PG (Ty.valid_cnt (rp hb)) h
  ·cases h
 ·split at h
  ·rename_i ts I;exact RH (λu Y=>oR (Ty.valid_cnt ((JN I).2 u Y)) aA) h
  ·cases h
theorem xG:tZero.Is (.ag [.j 0,.sl none 2 [] 0]):=wB 0
theorem Km:∀(e:Tm),∀ d,e.Is d->∀ g es a c n,Pre g e n->Ctx g es->Y4 43 [.sv a 4 es c,.dg 9 d,.j n] (e.type g n):=by
 refine Tm.ind λk nm ot m ty re l U d hd g es a c n pre O N Q I=>?_;have hs:=Kl (a:=a) (c:=c) hd U pre O;rw[Tm.type_eq]at I;refine L4 N a es c _ n Q λ_ _=>?_;cases h:Tm.raw (.mk k nm ot m ty re l) g n with
 | none=>
   rw[h]at hs I
   repeat' first|with_reducible intro _|simp only[me,Y1]|with_reducible refine X ?_ ?_|refine⟨_,_,_,rfl,?_⟩|refine⟨_,rfl,?_⟩|refine X0 ?_|refine hs _ _ ?_|fail
   all_goals first | (exfalso;omega) | skip
   exact I _ _ aA xG
 | some t=>
   have hc:=Tp pre h;rw[h]at hs I;simp only[vld]at I;cases J:t.valid with
   | false=>
     rw[J]at I
     repeat' first|with_reducible intro _|simp only[mi,J,Y1]|with_reducible refine X ?_ ?_|refine⟨_,_,_,rfl,?_⟩|refine⟨_,rfl,?_⟩|refine X0 ?_|refine hs _ _ ?_|refine(yL t _ (by rename_i h _ _ _ _;exact h t rfl) aA) _ _ ?_|fail
     all_goals first | (exfalso;omega) | skip
     exact I _ _ aA xG
   | true=>
     rw[J]at I
     repeat' first|with_reducible intro _|simp only[mi,J,Y1]|with_reducible refine X ?_ ?_|refine⟨_,_,_,rfl,?_⟩|refine⟨_,rfl,?_⟩|refine X0 ?_|refine hs _ _ ?_|refine(yL t _ (by rename_i h _ _ _ _;exact h t rfl) aA) _ _ ?_|fail
     all_goals first | (exfalso;omega) | skip
     rename_i Y _ _ _ _ _ _ _ _ _;exact I _ _ aA (Y t rfl)
def ui (g:aQ)(e:Tm)(n:Int):Option Ty:=if Ik g/\ut e n then e.type g n else none
theorem Mb:∀ {g:aQ},Iu g=true->∀ x∈g,x.ty.valid=true
 | y::ys,h,x,hx=>by
   simp only[Iu,Tg.ok,oL]at h;rcases oK.1 hx with rfl | hx
   ·exact h.1.2.1
   ·exact Mb h.2 x hx
theorem Tj (J:Ik g=true)(I:ut e n=true)(hc:e.dp<=1048576000 / 2):Pre g e n:=by simp only[Ik,oL,oh]at J;simp only[ut,oL]at I;exact⟨I.1,I.2,aA,λx O=>oR (Ty.valid_cnt (Mb J.1 x O)) aA⟩
theorem zAE (I:Ik g=true)(J:ut e n=true)(hc:e.cnt<=1048576000 / 2):Pre g e n:=Tj I J (oR e.dp_cnt hc)
theorem Ih (I:Ctx g es)(Y:∀ x∈g,x.ty.cnt<=1073741824)(he:e.Is d)(hG:e.G)(hc:e.dp<=1048576000 / 2) a c n:
  Y4 17 [.sv a 4 es c,.dg 9 d,.j n] (ui g e n):=λN Q J=>by
 refine Lm N a es c d n Q λ_ _=>?_;cases O:Ik g with
 | false=>
   rw[ui,if_neg (by simp[O])]at J
   repeat' first|with_reducible intro _|simp only[O,Y1]|with_reducible refine X ?_ ?_|refine⟨_,_,_,rfl,?_⟩|refine⟨_,rfl,?_⟩|refine X0 ?_|refine(pF I Y a c) _ _ ?_|fail
   exact J _ _ aA xG
 | true=>
   cases U:ut e n with
   | false=>
     rw[ui,if_neg (by simp[U])]at J
     repeat' first|with_reducible intro _|simp only[O,U,Y1]|with_reducible refine X ?_ ?_|refine⟨_,_,_,rfl,?_⟩|refine⟨_,rfl,?_⟩|refine X0 ?_|refine(pF I Y a c) _ _ ?_|refine(ur e d he hG n) _ _ ?_|fail
     exact J _ _ aA xG
   | true=>
     rw[ui,if_pos ⟨O,U⟩]at J
     repeat' first|with_reducible intro _|simp only[O,U,Y1]|with_reducible refine X ?_ ?_|refine⟨_,_,_,rfl,?_⟩|refine⟨_,rfl,?_⟩|refine X0 ?_|refine(pF I Y a c) _ _ ?_|refine(ur e d he hG n) _ _ ?_|refine(Km e d he g es a c n (Tj O U hc) I) _ _ ?_|fail
     exact J _ _ aA aE
theorem CY (I:Ctx g es)(J:∀ x∈g,x.ty.cnt<=1073741824)(O:e.Is d)(hc:e.cnt<=1048576000 / 2) a c n:
 Y4 17 [.sv a 4 es c,.dg 9 d,.j n] (ui g e n):=Ih I J O (Tm.G_cnt e aA) (oR e.dp_cnt hc) a c n
theorem rV (h:t.Is d)(I:Own N N' d):OwnL N N' [D.cell d 0,D.cell d 1]:=by
 cases t with
 | mk k l=>obtain⟨a,es,c,rfl,_,_⟩:=Ty.is_mk.1 h;show OwnL N N' [.j k,.sl a 2 es c];exact⟨by simpa only[D.foot]using I.nd,I.fl,by simpa only[D.foot]using I.lo,by simpa only[D.foot]using I.hi⟩
def Cop f z args(P:D->Prop):=∀(N:Nat) (Q:QT [.ag z]),(∀ d' N',N<=N'->P d'->Own N N' d'->Q d' N')->ACalls prog f [.ag z] args N Q
end Go.Proofs.YtlaniepnglheoaaGreatDoor
