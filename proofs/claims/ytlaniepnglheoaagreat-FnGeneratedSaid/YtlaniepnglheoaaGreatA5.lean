/- Parameters: what they are; the laws' sizes, copies, equality and marks on them. -/
import Derived.Test.YtlaniepnglheoaaGreatA1
import Derived.Test.YtlaniepnglheoaaGreatKa
import Derived.RangeFuncLeaves
import Derived.RangeFuncRecord
import Derived.RangeFuncOwn
import Derived.Below
import Derived.RangeFuncNested
import Derived.RangeFuncBound
import Derived.RangeFuncCalls
import Derived.Shelf.Abstract
import Derived.WalkKit
import Derived.OwnWalkIn
import Derived.TacticsInMore
import Derived.LoopNIn
import Derived.LoopIn
import Derived.Test.YtlaniepnglheoaaGreatProg
set_option linter.unusedVariables false
set_option linter.unusedSimpArgs false
namespace Go.Proofs.YtlaniepnglheoaaGreat
open Go Go.Proofs Go.Proofs.Tryz Go.IntWalk
variable {N c c1 z:Nat} {a a1:Option Addr} {d r1 t0 t1 x:D} {e e0:Tm} {es es1:List D} {g:List Tg} {k m n:Int} {l:List Tm} {nm ot s:ByteArray} {re t ty:Ty}
structure Pm where
 nm:ByteArray
 ty:Ty
 dy:Bool
def Pm.Is (g:Pm)(d:D):Prop:=∃ t0 t1,d=.ag [.t g.nm,t0,t1,.lit (.bool g.dy)]/\g.nm.size<=4611686018427387904/\g.ty.Is (.ag [t0,t1])
structure Pms (g:List Pm) (es:List D):Prop where
 len:es.length<=4611686018427387904
 all:All2 Pm.Is g es
theorem yN (n a b:Int):vM 46 [.j n,.j a,.j b] (inB n a b):=λN Q I=>by
 refine LQ N n a b Q ?_
 repeat' first|with_reducible intro _|simp only[Y1]|with_reducible refine X ?_ ?_|refine⟨_,_,_,rfl,?_⟩|refine⟨_,rfl,?_⟩|refine X0 ?_|fail
 all_goals simpa [inB, *]using I _ (by omega)
def Bg {α:Type}(p:α->Bool):List α->Int->Int
 | [],_ => -1
 | x::xs,i=>if p x then i else Bg p xs (i+1)
theorem tE {α:Type}(p:α->Bool):∀(l:List α)(i:Int),0<=i->decide (Bg p l i≥0)=l.any p
 | [],i,h=>by simp[Bg]
 | x::xs,i,h=>by
   have I:=tE p xs (i+1) (by omega);rw[mG,nh]at I ⊢;simp only[Bg,mv,nB];by_cases J:p x=true
   ·simp only[J,nj,true_or,iff_true];exact h
   ·simpa [J]using I
def zD (l:List ByteArray):List D:=l.map λs=>.t s
theorem um:∀ l:List ByteArray,All2 (λs d=>d=.t s) l (zD l)
 | []=>rfl
 | s::l=>⟨_,_,rfl,rfl,um l⟩
theorem GJ (l:List ByteArray)(hl:l.length<=4611686018427387904)(a:Option Addr)(c:Nat)(s:ByteArray):pI 145 [.sv a 0 (zD l) c,.str s] (Bg (λx=>decide (s=x)) l 0):=λN Q hQ=>by
 have O:=um l;have U:(zD l).length<=4611686018427387904:=by rw[O.len];exact hl
 refine Bu N a _ c s Q λ_=>?_;refine up O U (λi xs=>∀(N':Nat),N<=N'->(∀ N'',N'<=N''->Q (Bg (λx=>decide (s=x)) xs i) N'')->yx Q N a (zD l) c s ((zD l).length:Int) i N') ?_ ?_ N (oD _) hQ
 ·intro i aa _ N' Y I;refine ub ?_
  repeat' first|with_reducible intro _|simp only[aa,Y1]|with_reducible refine X ?_ ?_|refine⟨_,_,_,rfl,?_⟩|refine⟨_,rfl,?_⟩|refine X0 ?_|fail
  exact I _ (by omega)
 ·intro i x xs J _ ab N' Y I;have hb:=J.b;have hr:=J.r;simp only[Bg]at I;refine ub ?_
  repeat' first|with_reducible intro _|simp only[J.lt,J.w,oI,hr,Y1]|with_reducible refine X ?_ ?_|refine⟨_,_,_,rfl,?_⟩|refine⟨_,rfl,?_⟩|refine X0 ?_|fail
  ·rename_i h _ _;subst h;exact Qi (I _ (by omega)) (by simp)
  ·rename_i h;exact ab _ Y λN'' h2=>Qi (I _ h2) (by rw[if_neg (by simpa using h)];simp)
theorem H6 (l:List ByteArray)(I:l.length<=4611686018427387904)(a:Option Addr)(c:Nat)(s:ByteArray):vM 144 [.sv a 0 (zD l) c,.str s] (l.any λx=>decide (s=x)):=λN Q J=>by
 refine pH N a _ c s Q λ_=>?_
 repeat' first|with_reducible intro _|simp only[Y1]|with_reducible refine X ?_ ?_|refine⟨_,_,_,rfl,?_⟩|refine⟨_,rfl,?_⟩|refine X0 ?_|refine(GJ l I a c s) _ _ ?_|fail
 exact Qb (J _ (by omega)) (tE _ l 0 (by omega)).symm
theorem tB (s:ByteArray)(hs:s.size<=4611686018427387904):vM 93 [.str s] (yk s):=λN Q Y=>by
 refine LG N s Q ?_;have key:=upN hs (λi=>∀ N',N<=N'->(∀ N'',N'<=N''->Q (sn s i&&Jn s) N'')->xO Q N s (s.size:Int) i N') ?_ ?_
 ·exact key N (oD _) Y
 ·intro J N' O I;have hc:=H6 [bytes [105,102],bytes [108,101,116],bytes [108,105,102,116],bytes [114,101,99],bytes [114,117,110]] (by simp);simp only[zD,List.map]at hc;refine pa ?_
  repeat' first|with_reducible intro _|simp only[J,Y1]|with_reducible refine X ?_ ?_|refine⟨_,_,_,rfl,?_⟩|refine⟨_,rfl,?_⟩|refine X0 ?_|refine(yN _ _ _) _ _ ?_|refine(hc _ _ _) _ _ ?_|fail
  all_goals(refine Qb (I _ (by omega)) ?_;rw[Ep])
  ·simp only[Jn,mv,List.any_nil,Bool.or_false, *];cases decide (s=bytes [105,102])<;>cases decide (s=bytes [108,101,116])<;>cases decide (s=bytes [108,105,102,116])<;>cases decide (s=bytes [114,101,99])<;>cases decide (s=bytes [114,117,110])<;>rfl
  ·simp[Jn, *]
 ·intro i hi J hw U N' O I;refine pa ?_;rw[C3 hi]at I
  repeat' first|with_reducible intro _|simp only[J,hw,oI,Y1]|with_reducible refine X ?_ ?_|refine⟨_,_,_,rfl,?_⟩|refine⟨_,rfl,?_⟩|refine X0 ?_|fail
  all_goals first
   | (refine Qb (I _ (by omega)) ?_;unfold I4 Eg;simp only[*];simp;done)
   | (refine U _ (by omega) λN'' h=>Qb (I N'' (by omega)) ?_;unfold I4 Eg;simp only[*];simp;done)
theorem Dm:∀(t:Ty)(d:D),t.Is d->t.cnt<=1073741824->pI 162 [.dg 2 d] t.cnt:=by
 refine Ty.ind λk l ih d hd hc N Q hQ=>?_;obtain⟨a,es,c,rfl,J,O⟩:=Ty.is_mk.1 hd;simp only[Ty.cnt]at hc;refine EQ N _ Q λ_=>⟨_,_,_,rfl,?_⟩
 refine up O J (λi xs=>∀(m:Nat) (N':Nat),N<=N'->m+zN xs=1+zN l->xY Q N m a es c es.length i N') ?_ ?_ 1 N (oD _) rfl
 ·intro i U _ m N' Y hm;refine th ?_;simp only[zN]at hm
  repeat' first|with_reducible intro _|simp only[U,Y1]|with_reducible refine X ?_ ?_|refine⟨_,_,_,rfl,?_⟩|refine⟨_,rfl,?_⟩|refine X0 ?_|fail
  exact Qi (hQ _ (by omega)) (by simp only[Ty.cnt];omega)
 ·intro i x xs I _ aa m N' Y hm;have hb:=I.b;have ab:=vD I.m;simp only[zN]at hm;refine th ?_
  repeat' first|with_reducible intro _|simp only[I.lt,I.w,oI,Y1]|with_reducible refine X ?_ ?_|refine⟨_,_,_,rfl,?_⟩|refine⟨_,rfl,?_⟩|refine X0 ?_|refine(ih x I.m _ I.r (by omega)) _ _ ?_|fail
  rw[i64_in _ (by omega)];exact aa (m+x.cnt) _ (by omega) (by omega)
theorem CV:∀(t:Ty)(d:D),t.Is d->t.cnt<=1073741824->pI 163 [.dg 2 d] t.dep:=by
 refine Ty.ind λk l ih d hd hc N Q hQ=>?_;obtain⟨a,es,c,rfl,J,O⟩:=Ty.is_mk.1 hd;simp only[Ty.cnt]at hc;have ab:=Ar l;refine DJ N _ Q λ_=>⟨_,_,_,rfl,?_⟩
 refine up O J (λi xs=>∀(m:Nat) (N':Nat),N<=N'->max m (rq xs)=rq l->xK Q N m a es c es.length i N') ?_ ?_ 0 N (oD _) (by omega)
 ·intro i U _ m N' Y hm;refine ux ?_;simp only[rq]at hm
  repeat' first|with_reducible intro _|simp only[U,Y1]|with_reducible refine X ?_ ?_|refine⟨_,_,_,rfl,?_⟩|refine⟨_,rfl,?_⟩|refine X0 ?_|fail
  rw[i64_in _ (by omega)];exact Qi (hQ _ (by omega)) (by simp only[Ty.dep];omega)
 ·intro i x xs I _ aa m N' Y hm;have hb:=I.b;have ac:=vD I.m;simp only[rq]at hm;refine ux ?_
  repeat' first|with_reducible intro _|simp only[I.lt,I.w,oI,Y1]|with_reducible refine X ?_ ?_|refine⟨_,_,_,rfl,?_⟩|refine⟨_,rfl,?_⟩|refine X0 ?_|refine(ih x I.m _ I.r (by omega)) _ _ ?_|fail
  have e:(if(x.dep:Int)>(m:Int)then(x.dep:Int)else(m:Int))=((max m x.dep:Nat):Int):=by split<;>omega
  rw[e];exact aa _ _ (by omega) (by omega)
theorem GK (t:Ty)(d:D)(hd:t.Is d):vM 165 [.dg 2 d] (s7 t.k t.as.length):=λN Q J=>by
 cases t with
 | mk k l=>
 obtain⟨a,es,c,rfl,U,O⟩:=Ty.is_mk.1 hd;have Y:=O.len;simp only[Ty.k,Ty.as]at J;refine A2 N _ Q λ_=>?_;cases I:inB k 1 4 with
 | false=>
   repeat' first|with_reducible intro _|simp only[I,Y1]|with_reducible refine X ?_ ?_|refine⟨_,_,_,rfl,?_⟩|refine⟨_,rfl,?_⟩|refine X0 ?_|refine(yN _ _ _) _ _ ?_|fail
   refine Qb (J _ (by omega)) ?_;have:¬(1<=k/\k<=4):=λh=>by rw[za.2 h]at I;cases I
   unfold s7;rw[if_neg (by omega),if_neg (by omega),if_neg (by omega)]
 | true=>
   have hb:=za.1 I;have w0:IntKind.i64.wrap 0=0:=rfl;have w1:IntKind.i64.wrap 1=1:=rfl;have w2:IntKind.i64.wrap 2=2:=rfl;have w3:IntKind.i64.wrap 3=3:=rfl;have hk:k=1\/k=2\/k=3\/k=4:=by omega
   rcases hk with rfl | rfl | rfl | rfl
   all_goals
    repeat' first|with_reducible intro _|simp only[I,w0,w1,w2,w3,Y1]|with_reducible refine X ?_ ?_|refine⟨_,_,_,rfl,?_⟩|refine⟨_,rfl,?_⟩|refine X0 ?_|refine(yN _ _ _) _ _ ?_|fail
    refine Qb (J _ (by omega)) ?_;simp[s7,Y]
theorem HU:∀ l:List Ty,uC l=!(l.any λx=>!x.form)
 | []=>rfl
 | t::I=>by simp only[uC,mv,HU I];cases t.form<;>simp
theorem GI {p:Ty->Bool}{l:List Ty}(h:All2 Ty.Is l es)(O:es.length<=4611686018427387904)(ad:Addr)(hp:∀ x∈l,∀ d,x.Is d->vM 195 [.dg 2 d,.pd ad 0 (.fn 165 [])] (p x))(a:Option Addr)(c:Nat):
  vM 194 [.sv a 2 es c,.fn 195 [.pd ad 0 (.fn 165 [])]] (l.any p):=λN Q U=>by
 have hi:pI 202 [.sv a 2 es c,.fn 195 [.pd ad 0 (.fn 165 [])]] (Bg p l 0):=λN Q U=>by
  refine sI N a es c ad Q λ_=>?_;refine up h O (λi xs=>∀(N':Nat),N<=N'->(∀ N'',N'<=N''->Q (Bg p xs i) N'')->yM Q N a es c ad es.length i N') ?_ ?_ N (oD _) U
  ·intro i Y _ N' aa I;refine wk ?_
   repeat' first|with_reducible intro _|simp only[Y,Y1]|with_reducible refine X ?_ ?_|refine⟨_,_,_,rfl,?_⟩|refine⟨_,rfl,?_⟩|refine X0 ?_|fail
   exact I _ (by omega)
  ·intro i x xs J _ ab N' aa I;have hb:=J.b;simp only[Bg]at I;refine wk ?_
   repeat' first|with_reducible intro _|simp only[J.lt,J.w,oI,Y1]|with_reducible refine X ?_ ?_|refine⟨_,_,_,rfl,?_⟩|refine⟨_,rfl,?_⟩|refine X0 ?_|refine(hp x J.m _ J.r) _ _ ?_|fail
   ·exact Qi (I _ (by omega)) (by rw[if_pos (by assumption)])
   ·rename_i h;exact ab _ (by omega) λN'' h2=>Qi (I _ (by omega)) (by rw[h];simp)
 refine uw N a es c ad Q λ_=>?_
 repeat' first|with_reducible intro _|simp only[Y1]|with_reducible refine X ?_ ?_|refine⟨_,_,_,rfl,?_⟩|refine⟨_,rfl,?_⟩|refine X0 ?_|refine hi _ _ ?_|fail
 exact Qb (U _ (by omega)) (tE _ l 0 (by omega)).symm
theorem Qs:∀(t:Ty)(d:D),t.Is d->vM 164 [.dg 2 d,.fn 165 []] t.form:=by
 refine Ty.ind λk l Y d hd N Q I=>?_;have O:=hd;obtain⟨a,es,c,rfl,J,U⟩:=Ty.is_mk.1 hd;refine DO N _ Q λ_=>?_;simp only[Ty.form,HU]at I
 repeat' first|with_reducible intro _|simp only[Y1]|with_reducible refine X ?_ ?_|refine⟨_,_,_,rfl,?_⟩|refine⟨_,rfl,?_⟩|refine X0 ?_|refine(GK _ _ O) _ _ ?_|refine(GI U J _ (λx hx d hd=>λN Q I=>A5 N d _ Q λ_ N1 aa=>Y x hx d hd N1 _ λN2 ab ac N3 ae=>I N3 (by omega)) _ _) _ _ ?_|fail
 ·have h:s7 (Ty.mk k l).k (Ty.mk k l).as.length=true:=by assumption
  exact Qb (I _ (by omega)) (by simp only[Ty.k,Ty.as]at h;rw[h,Bool.and_true])
 ·rename_i h _ _;exact Qb (I _ (by omega)) (by simp only[Ty.k,Ty.as]at h;rw[h,lT])
theorem wB (t:Ty)(d:D)(hd:t.Is d)(hc:t.cnt<=1073741824):vM 107 [.dg 2 d] t.valid:=λN Q I=>by
 refine DL N _ Q λ_=>?_
 repeat' first|with_reducible intro _|simp only[Y1]|with_reducible refine X ?_ ?_|refine⟨_,_,_,rfl,?_⟩|refine⟨_,rfl,?_⟩|refine X0 ?_|refine(Dm t d hd hc) _ _ ?_|refine(CV t d hd hc) _ _ ?_|refine(Qs t d hd) _ _ ?_|fail
 ·refine Qb (I _ (by omega)) ?_;have J:t.cnt<=30:=by omega
  have O:t.dep<=8:=by omega
  simp[Ty.valid, *]
 ·refine Qb (I _ (by omega)) ?_;have O:¬t.dep<=8:=by omega
  simp[Ty.valid, *]
 ·refine Qb (I _ (by omega)) ?_;have J:¬t.cnt<=30:=by omega
  simp[Ty.valid, *]
theorem zh:∀(t u:Ty)(d e:D),t.Is d->u.Is e->vM 159 [.dg 2 d,.dg 2 e] (sB t u):=by
 refine Ty.ind λk l ih u d e hd he N Q U=>?_;cases u with
 | mk k' l'=>
 obtain⟨a,es,c,rfl,Y,aa⟩:=Ty.is_mk.1 hd;obtain⟨a',es',c',rfl,ac,O⟩:=Ty.is_mk.1 he;have hl:=aa.len;have ak:=O.len;simp only[sB]at U;have hf:vM 190 [.sv a 2 es c,.sv a' 2 es' c',.fn 159 []] (qT l l'):=λN Q U=>by
  have key:l.length=l'.length->∀(N':Nat),N<=N'->(∀ N'',N'<=N''->Q (qT l (l'.drop 0)) N'')->ze Q N a' es' c' a es c es.length (0:Nat) N':=by
   intro al;refine up aa Y (λi xs=>∀(N':Nat),N<=N'->(∀ N'',N'<=N''->Q (qT xs (l'.drop i)) N'')->ze Q N a' es' c' a es c es.length i N') ?_ ?_
   ·intro i ae hi N' ah I;refine wi ?_
    repeat' first|with_reducible intro _|simp only[ae,Y1]|with_reducible refine X ?_ ?_|refine⟨_,_,_,rfl,?_⟩|refine⟨_,rfl,?_⟩|refine X0 ?_|fail
    refine Qb (I _ (by assumption)) ?_;rw[mg (by omega)];rfl
   ·intro i x xs J _ ai N' ah I;have hb:=J.b;have ab:i<l'.length:=by omega
    have hg:l'[i]?=some l'[i]:=oF ab;have aj:l'.drop i=l'[i]::l'.drop (i+1):=mW ab;refine wi ?_;rw[aj]at I
    repeat' first|with_reducible intro _|simp only[J.lt,J.w,oI,Y1]|with_reducible refine X ?_ ?_|refine⟨_,_,_,rfl,?_⟩|refine⟨_,rfl,?_⟩|refine X0 ?_|refine(ih x J.m _ _ _ J.r (O.get hg)) _ _ ?_|fail
    ·exact Qb (I _ (by omega)) (by simp[qT, *])
    ·exact ai _ (by omega) λN'' h=>Qb (I N'' (by omega)) (by simp[qT, *])
  refine sG N _ _ _ _ _ _ Q λ_ _=>?_
  repeat' first|with_reducible intro _|simp only[Y1]|with_reducible refine X ?_ ?_|refine⟨_,_,_,rfl,?_⟩|refine⟨_,rfl,?_⟩|refine X0 ?_|fail
  ·exact Qb (U _ (by assumption)) (HS (by omega))
  ·exact key (by omega) N (oD _) U
 refine FR N _ _ Q λ_ _=>?_
 repeat' first|with_reducible intro _|simp only[Y1]|with_reducible refine X ?_ ?_|refine⟨_,_,_,rfl,?_⟩|refine⟨_,rfl,?_⟩|refine X0 ?_|refine hf _ _ ?_|fail
 ·exact Qb (U _ (by omega)) (by simp[*])
 ·exact Qb (U _ (by omega)) (by simp[*])
theorem r9 (t:Ty)(d:D)(hd:t.Is d):vM 94 [.dg 2 d] t.base:=λN Q U=>by
 cases t with
 | mk k l=>
 obtain⟨a,es,c,rfl,O,I⟩:=Ty.is_mk.1 hd;have Y:=I.len;have J:inB k 1 2=(k==1||k==2):=by rw[mG,za];simp;omega
 refine LF N _ Q λ_=>?_
 repeat' first|with_reducible intro _|simp only[Y1]|with_reducible refine X ?_ ?_|refine⟨_,_,_,rfl,?_⟩|refine⟨_,rfl,?_⟩|refine X0 ?_|refine(yN _ _ _) _ _ ?_|fail
 all_goals(rename_i h _ _;rw[J]at h;exact Qb (U _ (by omega)) (by simp only[Ty.base,Ty.k,Ty.as,h,Y];simp))
theorem BM (s:ByteArray):pI 201 [.str s] (JO s):=λN Q I=>by
 refine IQ N s Q ?_
 repeat' first|with_reducible intro _|simp only[Y1]|with_reducible refine X ?_ ?_|refine⟨_,_,_,rfl,?_⟩|refine⟨_,rfl,?_⟩|refine X0 ?_|fail
 all_goals(refine Qi (I _ (by assumption)) ?_;unfold JO;(repeat' split)<;>first | rfl | contradiction)
def arI (k:Int)(nm:ByteArray):Int:=
 if k=4 then JO nm else if k=5 then 3 else if k=7\/k=8 then 2 else if k=6\/k=9\/k=10\/k=11\/k=12\/k=13 then 1 else 0
theorem MA {r0:D}:pI 185 [.dg 9 (.ag [.j k,.t nm,.t ot,.j n,t0,t1,r0,r1,x])] (arI k nm):=λN Q I=>by
 refine NZ N _ Q λ_=>?_
 repeat' first|with_reducible intro _|simp only[Y1]|with_reducible refine X ?_ ?_|refine⟨_,_,_,rfl,?_⟩|refine⟨_,rfl,?_⟩|refine X0 ?_|refine(BM _) _ _ ?_|fail
 all_goals(refine Qi (I _ (by omega)) ?_;simp[arI, *])
theorem vm (n:Int):vM 101 [.j n] (inB n 0 10006):=λN Q I=>by
 refine Hg N n Q ?_
 repeat' first|with_reducible intro _|simp only[Y1]|with_reducible refine X ?_ ?_|refine⟨_,_,_,rfl,?_⟩|refine⟨_,rfl,?_⟩|refine X0 ?_|refine(yN _ _ _) _ _ ?_|fail
 exact I _ (by omega)
def JF (k:Int)(nm ot:ByteArray)(n:Int)(ty re:Ty):Bool:=
 if k=1\/k=8 then yk nm else if k=2 then inB n 0 10006 else if k=3 then inB n 0 1 else if k=4 then decide (JO nm>0)
 else if k=6 then yk nm&&ty.valid else if k=9 then yk nm&&(yk ot&&(!decide (nm=ot)&&(ty.valid&&re.valid)))else inB k 1 13
theorem IB {r0:D}(h:Tm.Hd nm ot ty re t0 t1 r0 r1)(hc:ty.cnt<=1073741824)(I:re.cnt<=1073741824):
  vM 186 [.dg 9 (.ag [.j k,.t nm,.t ot,.j n,t0,t1,r0,r1,x])] (JF k nm ot n ty re):=λN Q J=>by
 refine IT N _ Q λ_=>?_
 repeat' first|with_reducible intro _|simp only[Y1]|with_reducible refine X ?_ ?_|refine⟨_,_,_,rfl,?_⟩|refine⟨_,rfl,?_⟩|refine X0 ?_|refine(BM _) _ _ ?_|refine(tB _ h.nm) _ _ ?_|refine(tB _ h.ot) _ _ ?_|refine(vm _) _ _ ?_|refine(yN _ _ _) _ _ ?_|refine(wB _ _ h.ty hc) _ _ ?_|refine(wB _ _ h.re I) _ _ ?_|fail
 all_goals(refine Qb (J _ (by omega)) ?_;simp[JF, *])
theorem DH (t:Ty):sB t t=true:=(w6 t t).2 rfl
def Q4 (k:Int)(nm ot:ByteArray)(n:Int)(ty re:Ty)(m:Int):Bool:=
 decide (m=arI k nm)&&(JF k nm ot n ty re&&((decide (k=1\/k=8\/k=4\/k=6\/k=9)||decide (nm=bytes []))&&((decide (k=9)||decide (ot=bytes []))&&((decide (k=2\/k=3)||decide (n=0)) &&
  ((decide (k=6\/k=9)||sB ty tZero)&&(decide (k=9)||sB re tZero))))))
theorem IA {r0:D}(h:Tm.Hd nm ot ty re t0 t1 r0 r1)(hc:ty.cnt<=1073741824)(I:re.cnt<=1073741824):
  vM 146 [.dg 9 (.ag [.j k,.t nm,.t ot,.j n,t0,t1,r0,r1,.sl a 9 es c])] (Q4 k nm ot n ty re es.length):=λN Q J=>by
 refine LM N _ Q λ_=>?_
 repeat' first|with_reducible intro _|simp only[Y1]|with_reducible refine X ?_ ?_|refine⟨_,_,_,rfl,?_⟩|refine⟨_,rfl,?_⟩|refine X0 ?_|refine MA _ _ ?_|refine(IB h hc I) _ _ ?_|refine(zh ty tZero _ _ h.ty xi) _ _ ?_|refine(zh re tZero _ _ h.re xi) _ _ ?_|refine(zh ty ty _ _ h.ty h.ty) _ _ ?_|refine(zh re re _ _ h.re h.re) _ _ ?_|fail
 all_goals first | (exfalso;omega) | (refine Qb (J _ (by omega)) ?_;simp[Q4,DH, *];done) | (refine Qb (J _ (by omega)) ?_;simp_all[Q4,DH];done)
theorem YF (t:Ty):sB t tZero=t.zero:=by
 cases t with
 | mk k l => cases l<;>simp[sB,tZero,qT,Ty.zero,Ty.k,Ty.as]
             try omega
theorem Rh (h:t.zero=true):t.valid=false:=by
 cases t with
 | mk k l=>simp only[Ty.zero,Ty.k,Ty.as,oE,nF]at h;simp[Ty.valid,Ty.form,s7,h.1]
theorem zBF (n:Int):inB n 0 0=decide (n=0):=by rw[mG,za,nh];omega
theorem zp (t:Ty)(b:Bool):(!t.valid&&(t.zero&&b))=(t.zero&&b):=by
 cases h:t.zero with
 | false=>simp
 | true=>rw[Rh h];simp
theorem VD (k:Int)(nm ot:ByteArray)(n:Int)(ty re:Ty)(m:Int)(hm:0<=m):Q4 k nm ot n ty re m=(zK k nm ot n ty re&&m==sA k nm):=by
 by_cases hk:k=1\/k=2\/k=3\/k=4\/k=5\/k=6\/k=7\/k=8\/k=9\/k=10\/k=11\/k=12\/k=13
 ·rw[zAb m];have b5:inB 5 1 13=true:=rfl;have Y:inB 7 1 13=true:=rfl;have I:inB 10 1 13=true:=rfl;have J:inB 11 1 13=true:=rfl;have O:inB 12 1 13=true:=rfl;have U:inB 13 1 13=true:=rfl;rcases hk with rfl | rfl | rfl | rfl | rfl | rfl | rfl | rfl | rfl | rfl | rfl | rfl | rfl
  all_goals
   simp[Q4,arI,JF,zK,rp,xV,sA,YF,zBF,zp,b5,Y,I,J,O,U]
   try(rw[mG];simp[and_comm,and_left_comm,and_assoc])
 ·have h1:sA k nm = -1:=by unfold sA;rw[if_neg (by omega),if_neg (by omega),if_neg (by omega),if_neg (by omega),if_neg (by omega)]
  have h2:inB k 1 13=false:=by
   cases h:inB k 1 13 with
   | false=>rfl
   | true=>have:=za.1 h;omega
  have h3:JF k nm ot n ty re=false:=by unfold JF;rw[if_neg (by omega),if_neg (by omega),if_neg (by omega),if_neg (by omega),if_neg (by omega),if_neg (by omega),h2]
  have h4:(m==sA k nm)=false:=by rw[h1,zAb];exact md (by omega)
  rw[h4,Q4,h3];simp
theorem Um {r0:D}(h:Tm.Hd nm ot ty re t0 t1 r0 r1)(hc:ty.cnt<=1073741824)(I:re.cnt<=1073741824):
  vM 146 [.dg 9 (.ag [.j k,.t nm,.t ot,.j n,t0,t1,r0,r1,.sl a 9 es c])] (zK k nm ot n ty re&&(es.length:Int)==sA k nm):=by
 rw[<-VD _ _ _ _ _ _ _ (by omega)];exact IA h hc I
theorem NO:∀ l:List Tm,AR l=!(l.any λx=>!x.ok)
 | []=>rfl
 | t::I=>by simp only[AR,mv,NO I];cases t.ok<;>simp
theorem GH {p:Tm->Bool}(h:All2 Tm.Is l es)(O:es.length<=4611686018427387904)(ad:Addr)(hp:∀ x∈l,∀ d,x.Is d->vM 91 [.dg 9 d,.pd ad 0 (.fn 146 [])] (p x))(a:Option Addr)(c:Nat):
  vM 90 [.sv a 9 es c,.fn 91 [.pd ad 0 (.fn 146 [])]] (l.any p):=λN Q U=>by
 have hi:pI 143 [.sv a 9 es c,.fn 91 [.pd ad 0 (.fn 146 [])]] (Bg p l 0):=λN Q U=>by
  refine sH N a es c ad Q λ_=>?_;refine up h O (λi xs=>∀(N':Nat),N<=N'->(∀ N'',N'<=N''->Q (Bg p xs i) N'')->yL Q N a es c ad es.length i N') ?_ ?_ N (oD _) U
  ·intro i Y _ N' aa I;refine wj ?_
   repeat' first|with_reducible intro _|simp only[Y,Y1]|with_reducible refine X ?_ ?_|refine⟨_,_,_,rfl,?_⟩|refine⟨_,rfl,?_⟩|refine X0 ?_|fail
   exact I _ (by omega)
  ·intro i x xs J _ ab N' aa I;have hb:=J.b;simp only[Bg]at I;refine wj ?_
   repeat' first|with_reducible intro _|simp only[J.lt,J.w,oI,Y1]|with_reducible refine X ?_ ?_|refine⟨_,_,_,rfl,?_⟩|refine⟨_,rfl,?_⟩|refine X0 ?_|refine(hp x J.m _ J.r) _ _ ?_|fail
   ·exact Qi (I _ (by omega)) (by rw[if_pos (by assumption)])
   ·rename_i h;exact ab _ (by omega) λN'' h2=>Qi (I _ (by omega)) (by rw[h];simp)
 refine uv N a es c ad Q λ_=>?_
 repeat' first|with_reducible intro _|simp only[Y1]|with_reducible refine X ?_ ?_|refine⟨_,_,_,rfl,?_⟩|refine⟨_,rfl,?_⟩|refine X0 ?_|refine hi _ _ ?_|fail
 exact Qb (U _ (by omega)) (tE _ l 0 (by omega)).symm
theorem Qr:∀(t:Tm)(d:D),t.Is d->t.G->vM 44 [.dg 9 d,.fn 146 []] t.ok:=by
 refine Tm.ind λk nm ot n ty re l U d hd hc N Q I=>?_;obtain⟨t0,t1,r0,r1,a,es,c,rfl,Y,J,O⟩:=Tm.is_mk.1 hd;have hl:=O.len;obtain⟨g1,g2,_,g4⟩:=hc;refine DN N _ Q λ_=>?_;simp only[Tm.ok,NO,<-hl]at I
 repeat' first|with_reducible intro _|simp only[Y1]|with_reducible refine X ?_ ?_|refine⟨_,_,_,rfl,?_⟩|refine⟨_,rfl,?_⟩|refine X0 ?_|refine(Um Y (by omega) (by omega)) _ _ ?_|refine(GH O J _ (λx hx d hd=>λN Q I=>A4 N d _ Q λ_ N1 aa=>U x hx d hd (yb g4 hx) N1 _ λN2 ab ac N3 ae=>I N3 (by omega)) _ _) _ _ ?_|fail
 ·have h:(zK k nm ot n ty re&&(es.length:Int)==sA k nm)=true:=by assumption
  exact Qb (I _ (by omega)) (by rw[h,Bool.and_true])
 ·have h:(zK k nm ot n ty re&&(es.length:Int)==sA k nm)=false:=by assumption
  exact Qb (I _ (by omega)) (by rw[h,lT])
theorem BL (t:Tm)(d:D)(hd:t.Is d)(hc:t.G):vM 96 [.dg 9 d] t.ok:=λN Q I=>by
 refine LH N _ Q λ_=>?_
 repeat' first|with_reducible intro _|simp only[Y1]|with_reducible refine X ?_ ?_|refine⟨_,_,_,rfl,?_⟩|refine⟨_,rfl,?_⟩|refine X0 ?_|refine(Qr t d hd hc) _ _ ?_|fail
 exact I _ (by omega)
theorem KB (t:Tm)(d:D)(hd:t.Is d)(hc:t.cnt<=1073741824):vM 96 [.dg 9 d] t.ok:=BL t d hd (Tm.G_cnt t hc)
theorem OE {c1 I J O U Y c8:D}(h:0<=m/\m<=2):pI 188 [.dg 9 (.ag [.j k,c1,I,.j n,J,O,U,Y,c8]),.j m] (zP k m):=λN Q hQ=>by
 refine FU N _ m Q λ_=>?_;rw[i64_in (m+1) (by omega),i64_in (m - 1) (by omega)]
 repeat' first|with_reducible intro _|simp only[Y1]|with_reducible refine X ?_ ?_|refine⟨_,_,_,rfl,?_⟩|refine⟨_,rfl,?_⟩|refine X0 ?_|fail
 all_goals(refine Qi (hQ _ (by omega)) ?_;simp[zP, *])
theorem Eh (d:D)(m:Int):vM 150 [.dg 9 d,.j m] (inB m 0 2):=λN Q I=>by
 refine EP N _ m Q λ_=>?_
 repeat' first|with_reducible intro _|simp only[Y1]|with_reducible refine X ?_ ?_|refine⟨_,_,_,rfl,?_⟩|refine⟨_,rfl,?_⟩|refine X0 ?_|refine(yN _ _ _) _ _ ?_|fail
 exact I _ (by omega)
theorem Us:∀(t:Tm)(d:D),t.Is d->∀ m:Int,vM 149 [.dg 9 d,.j m,.fn 150 []] (t.lev m):=by
 refine Tm.ind λk nm ot n ty re l ih d hd m N Q hQ=>?_;obtain⟨t0,t1,r0,r1,a,es,c,rfl,hh,U,Y⟩:=Tm.is_mk.1 hd;have hl:=Y.len;refine FT N _ m Q λ_=>?_;cases I:inB m 0 2 with
 | false=>
   repeat' first|with_reducible intro _|simp only[I,Y1]|with_reducible refine X ?_ ?_|refine⟨_,_,_,rfl,?_⟩|refine⟨_,rfl,?_⟩|refine X0 ?_|refine(Eh _ _) _ _ ?_|fail
   exact Qb (hQ _ (by omega)) (by simp[Tm.lev,I])
 | true=>
   have hb:=za.1 I;have key:=up Y U (λi xs=>∀(N':Nat),N<=N'->(∀ N'',N'<=N''->Q (ui xs (zP k m)) N'')->vT Q N m a es c es.length i (.ag [.j k,.t nm,.t ot,.j n,t0,t1,r0,r1,.sl a 9 es c]) N') ?_ ?_
   ·repeat' first|with_reducible intro _|simp only[I,Y1]|with_reducible refine X ?_ ?_|refine⟨_,_,_,rfl,?_⟩|refine⟨_,rfl,?_⟩|refine X0 ?_|refine(Eh _ _) _ _ ?_|fail
    exact key _ (by omega) λN'' h=>Qb (hQ N'' (by omega)) (by simp[Tm.lev,I])
   ·intro i aa _ N' ab O;refine ph ?_
    repeat' first|with_reducible intro _|simp only[aa,Y1]|with_reducible refine X ?_ ?_|refine⟨_,_,_,rfl,?_⟩|refine⟨_,rfl,?_⟩|refine X0 ?_|fail
    exact Qb (O _ (by omega)) (by simp[ui])
   ·intro i x xs J _ ac N' ab O;have ae:=J.b;refine ph ?_
    repeat' first|with_reducible intro _|simp only[J.lt,J.w,oI,Y1]|with_reducible refine X ?_ ?_|refine⟨_,_,_,rfl,?_⟩|refine⟨_,rfl,?_⟩|refine X0 ?_|refine(OE hb) _ _ ?_|refine(ih x J.m _ J.r _) _ _ ?_|fail
    ·refine Qb (O _ (by omega)) ?_;simp[ui, *]
    ·exact ac _ (by omega) λN'' h=>Qb (O N'' (by omega)) (by simp[ui, *])
theorem FB (t:Tm)(d:D)(hd:t.Is d)(hc:t.G)(m:Int):vM 100 [.dg 9 d,.j m] (s9 t m):=λN Q I=>by
 refine Hb N _ m Q λ_=>?_
 repeat' first|with_reducible intro _|simp only[Y1]|with_reducible refine X ?_ ?_|refine⟨_,_,_,rfl,?_⟩|refine⟨_,rfl,?_⟩|refine X0 ?_|refine(BL t d hd hc) _ _ ?_|refine(Us t d hd m) _ _ ?_|fail
 all_goals(refine Qb (I _ (by omega)) ?_;simp[s9, *])
theorem pQ (t:Tm)(d:D)(hd:t.Is d)(hc:t.cnt<=1073741824)(m:Int):vM 100 [.dg 9 d,.j m] (s9 t m):=FB t d hd (Tm.G_cnt t hc) m
theorem R5 (x:Tg)(d:D)(hd:x.Is d)(hc:x.ty.cnt<=1073741824):vM 148 [.dg 4 d] (!x.ok):=λN Q I=>by
 obtain⟨t0,t1,rfl,hs,J⟩:=hd;refine IP N _ Q λ_=>?_
 repeat' first|with_reducible intro _|simp only[Y1]|with_reducible refine X ?_ ?_|refine⟨_,_,_,rfl,?_⟩|refine⟨_,rfl,?_⟩|refine X0 ?_|refine(tB _ hs) _ _ ?_|refine(wB _ _ J hc) _ _ ?_|refine(yN _ _ _) _ _ ?_|fail
 all_goals(refine Qb (I _ (by omega)) ?_;simp[Tg.ok, *])
theorem NK:∀ l:List Tg,NJ l=!(l.any λx=>!x.ok)
 | []=>rfl
 | t::I=>by simp only[NJ,mv,NK I];cases t.ok<;>simp
theorem pP (h:Ctx g es)(hc:∀ x∈g,x.ty.cnt<=1073741824)(a:Option Addr)(c:Nat):vM 99 [.sv a 4 es c] (IG g):=fun N Q hQ=>by
 have hl:=h.all.len;have hi:pI 187 [.sv a 4 es c,.fn 148 []] (Bg (fun x=>!x.ok) g 0):=fun N Q hQ=>by
  refine tF N a es c Q fun _=>?_;refine up h.all h.len (fun i xs=>∀(N':Nat),N<=N'->(∀ N'',N'<=N''->Q (Bg (fun x=>!x.ok) xs i) N'')->zn Q N a es c es.length i N') ?_ ?_ N (oD _) hQ
  ·intro i hlt _ N' hN' hQ';refine wJ ?_
   repeat' first|with_reducible intro _|simp only[hlt,Y1]|with_reducible refine X ?_ ?_|refine⟨_,_,_,rfl,?_⟩|refine⟨_,rfl,?_⟩|refine X0 ?_|fail
   exact hQ' _ (by omega)
  ·intro i x xs hat _ ih2 N' hN' hQ';have hb:=hat.b;simp only[Bg]at hQ';refine wJ ?_
   repeat' first|with_reducible intro _|simp only[hat.lt,hat.w,oI,Y1]|with_reducible refine X ?_ ?_|refine⟨_,_,_,rfl,?_⟩|refine⟨_,rfl,?_⟩|refine X0 ?_|refine(R5 x _ hat.r (hc x hat.m)) _ _ ?_|fail
   all_goals first
    | exact Qi (hQ' _ (by omega)) (by rw[if_pos (by simp[*])])
    | exact ih2 _ (by omega) fun N'' h2=>Qi (hQ' _ (by omega)) (by rw[if_neg (by simp[*])];simp)
 have hcf:vM 147 [.sv a 4 es c,.fn 148 []] (g.any fun x=>!x.ok):=fun N Q hQ=>by
  refine uR N a es c Q fun _=>?_
  repeat' first|with_reducible intro _|simp only[Y1]|with_reducible refine X ?_ ?_|refine⟨_,_,_,rfl,?_⟩|refine⟨_,rfl,?_⟩|refine X0 ?_|refine hi _ _ ?_|fail
  exact Qb (hQ _ (by omega)) (tE _ g 0 (by omega)).symm
 refine NY N a es c Q fun _=>?_
 repeat' first|with_reducible intro _|simp only[Y1]|with_reducible refine X ?_ ?_|refine⟨_,_,_,rfl,?_⟩|refine⟨_,rfl,?_⟩|refine X0 ?_|refine hcf _ _ ?_|fail
 ·exact Qb (hQ _ (by omega)) (by have:(g.length:Int)<=12:=by omega
                                 simp[IG,NK,this])
 ·exact Qb (hQ _ (by omega)) (by have:¬(g.length:Int)<=12:=by omega
                                 simp[IG,this])
theorem Dk (h:Ctx g es)(a:Option Addr)(c:Nat)(s:ByteArray):pI 155 [.sv a 4 es c,.str s] (zL g s):=λN Q hQ=>by
 have hl:=h.all.len;have h1:=h.len;refine Hf N a es c s Q λ_=>?_;have key:=zA1 h.all h.len (λm=>∀(N':Nat),N<=N'->(∀ N'',N'<=N''->Q (wZ g s (m+1).toNat) N'')->wP Q N a es c s m N') ?_ ?_
 ·rw[i64_in _ (by omega)];exact key N (oD _) λN' J=>Qi (hQ N' J) (by rw[zL,<-hl];congr 1;omega)
 ·intro N' J I;refine rV ?_
  repeat' first|with_reducible intro _|simp only[Y1]|with_reducible refine X ?_ ?_|refine⟨_,_,_,rfl,?_⟩|refine⟨_,rfl,?_⟩|refine X0 ?_|fail
  ·omega
  ·exact I _ (by assumption)
 ·intro i x O U hw Y N' J I;have hb:=O.b;obtain⟨t0,t1,hd,hs,ht⟩:=O.r;have e1:((i:Int)+1).toNat=i+1:=by omega
  have e2:((i:Int) - 1+1).toNat=i:=by omega
  rw[e1]at I;simp only[wZ,KZ O.g]at I;rw[e2]at Y;refine rV ?_
  repeat' first|with_reducible intro _|simp only[U,hw,oI,hd,Y1]|with_reducible refine X ?_ ?_|refine⟨_,_,_,rfl,?_⟩|refine⟨_,rfl,?_⟩|refine X0 ?_|fail
  ·rename_i hx _ _;exact Qi (I _ (by omega)) (by rw[if_pos hx])
  ·rename_i hx;exact Y _ (by omega) λN'' h=>Qi (I N'' (by omega)) (by rw[if_neg hx])
theorem GS:∀(t:Ty)(d:D),t.Is d->t.cnt<=1073741824->E8 38 [.dg 2 d] t:=by
 refine Ty.ind λk l ih d hd hc N Q hQ=>?_;obtain⟨a,es,c,rfl,U,Y⟩:=Ty.is_mk.1 hd;have hl:=Y.len;simp only[Ty.cnt]at hc;have ak:=Bp l;refine He N _ Q λ_=>⟨_,rfl,_,_,_,rfl,?_⟩
 have key:=up Y U (λi xs=>∀(N':Nat),N<=N'->(i=0->uK Q N a es c es.length i 0 none [] 0 k none [] 0 N')/\∀(m q:Nat) (r:List D),m=r.length->All2 Ty.Is (l.take i) r->OwnL N N' r ->
  xM Q N a es c es.length i 0 none [] 0 k m q r q N') ?_ ?_
 ·exact(key N (oD _)).1 rfl
 ·intro i aa hi N' ah;refine⟨λh0=>rU ?_,λm q r hm hr ho=>u3 ?_⟩
  ·repeat' first|with_reducible intro _|simp only[aa,Y1]|with_reducible refine X ?_ ?_|refine⟨_,_,_,rfl,?_⟩|refine⟨_,rfl,?_⟩|refine X0 ?_|fail
   have:l=[]:=oL (by omega);subst this;exact hQ _ _ (by omega) (xm _) yZ
  ·repeat' first|with_reducible intro _|simp only[aa,Y1]|with_reducible refine X ?_ ?_|refine⟨_,_,_,rfl,?_⟩|refine⟨_,rfl,?_⟩|refine X0 ?_|fail
   rename_i a' N3 J hf N4 ai;rw[oX (by omega)]at hr;exact hQ _ _ (by omega) (Ty.is_mk.2 ⟨_,_,_,rfl,by have:=hr.len;omega,hr⟩) (tv (zH (zl ((AH ho hf (by omega)).mono (oD _) ai))))
 ·intro i x xs I _ ab N' ah;have hb:=I.b;have al:=vD I.m;refine⟨λh0=>rU ?_,λm q r hm hr ho=>u3 ?_⟩
  ·repeat' first|with_reducible intro _|simp only[I.lt,I.w,oI,Y1]|with_reducible refine X ?_ ?_|refine⟨_,_,_,rfl,?_⟩|refine⟨_,rfl,?_⟩|refine X0 ?_|refine(ih x I.m _ I.r (by omega)) _ _ ?_|fail
   rename_i N2 ac d' N3 J hx O aj ae;subst h0;exact⟨by unfold zA;simp,λc2=>(ab _ (by omega)).2 _ _ _ rfl (by rw[zX I.g];exact⟨_,_,rfl,hx,rfl⟩) (zl (O.mono (by omega) (oD _)))⟩
  ·repeat' first|with_reducible intro _|simp only[I.lt,I.w,oI,Y1]|with_reducible refine X ?_ ?_|refine⟨_,_,_,rfl,?_⟩|refine⟨_,rfl,?_⟩|refine X0 ?_|refine(ih x I.m _ I.r (by omega)) _ _ ?_|fail
   rename_i N2 ac d' N3 J hx O aj ae;have am:=hr.len;have ao:(l.take i).length=i:=by rw[nC];omega
   refine⟨by unfold zA;simp only[oK,nc];omega,λc2=>?_⟩;exact(ab _ (by omega)).2 _ _ _ rfl (by rw[zX I.g];exact hr.snoc hx) (xJ (ho.mono (oD _) ac) (zl O) (by omega) J)
theorem SK:E8 156 [] tInt:=λN Q J=>Nh N Q λN' I=>J _ _ I (xm _) yZ
theorem KL:E8 157 [] tBool:=λN Q J=>LO N Q λN' I=>J _ _ I (xm _) yZ
theorem SJ (t u:Ty)(d e:D)(hd:t.Is d)(he:u.Is e)(I:t.cnt<=1073741824)(J:u.cnt<=1073741824):E8 160 [.dg 2 d,.dg 2 e] (wD t u):=λN Q hQ=>by
 refine Ng N _ _ Q λ_ _=>?_
 repeat' first|with_reducible intro _|simp only[Y1]|with_reducible refine X ?_ ?_|refine⟨_,_,_,rfl,?_⟩|refine⟨_,rfl,?_⟩|refine X0 ?_|refine(GS t d hd I) _ _ ?_|refine(GS u e he J) _ _ ?_|fail
 rename_i N1 O d1 N2 ab h1 o1 ac b1 N3 U d2 N4 Y h2 o2 ae b2 a' N5 ah hf N6 aa;exact hQ _ _ (by omega) (Ty.is_mk.2 ⟨_,_,_,rfl,by simp,_,_,rfl,h1,_,_,rfl,h2,rfl⟩)
  (tv (zH (zl ((AH (xJ ((zl o1).mono O U) (zl o2) (by omega) Y) hf (by omega)).mono (oD _) aa))))
theorem PT (t:Ty)(d:D)(hd:t.Is d)(I:t.cnt<=1073741824):E8 191 [.dg 2 d] (wM t):=λN Q U=>by
 refine LP N _ Q λ_=>?_
 repeat' first|with_reducible intro _|simp only[Y1]|with_reducible refine X ?_ ?_|refine⟨_,_,_,rfl,?_⟩|refine⟨_,rfl,?_⟩|refine X0 ?_|refine(GS t d hd I) _ _ ?_|fail
 rename_i N1 J d1 N2 Y h1 o1 aa b1 a' N5 ab hf N6 O;exact U _ _ (by omega) (Ty.is_mk.2 ⟨_,_,_,rfl,by simp,_,_,rfl,h1,rfl⟩)
  (tv (zH (zl ((AH ((zl o1).mono J (oD _)) hf (by omega)).mono (oD _) O))))
def Ej (t:Ty):Ty:=if t.k=4 then t.as.getD 0 tZero else tZero
theorem PR (t:Ty)(d:D)(hd:t.Is d)(hv:t.valid=true\/t=tZero):E8 192 [.dg 2 d] (Ej t):=λN Q I=>by
 cases t with
 | mk k l=>
 obtain⟨a,es,c,rfl,aa,J⟩:=Ty.is_mk.1 hd;refine LL N _ Q λ_=>?_;by_cases hk:k=4
 ·subst hk;rcases hv with hv | hv
  ·have hf:=Ty.form_len hv;have O:=Ty.valid_cnt hv;have U:(l.length:Int)=1:=by simpa [s7]using hf
   obtain⟨u,rfl⟩:=Er (l:=l) (by omega);obtain⟨x0,_,rfl,Y,rfl⟩:=J;simp only[Ty.cnt,zN]at O;have e:Ej (.mk 4 [u])=u:=rfl;rw[e]at I
   repeat' first|with_reducible intro _|simp only[oJ,oN,Y1]|with_reducible refine X ?_ ?_|refine⟨_,_,_,rfl,?_⟩|refine⟨_,rfl,?_⟩|refine X0 ?_|refine(GS u _ Y (by omega)) _ _ ?_|fail
   all_goals first | (exfalso;omega) | skip
   rename_i N1 ab d1 N2 ac h1 o1 U b1 N3 ae;exact I _ _ (by omega) h1 (o1.mono (by omega) (by omega))
  ·cases hv
 ·have e:Ej (.mk k l)=tZero:=by unfold Ej;exact if_neg hk
  rw[e]at I
  repeat' first|with_reducible intro _|simp only[Y1]|with_reducible refine X ?_ ?_|refine⟨_,_,_,rfl,?_⟩|refine⟨_,rfl,?_⟩|refine X0 ?_|fail
  all_goals first | (exfalso;omega) | skip
  exact I _ _ (by omega) xi yZ
def Df (u:Ty):List Ty->Bool
 | []=>true
 | t::I=>sB t u&&Df u I
def Bi (s:ByteArray):Ty:=if s=bytes [61]then tInt else if s=bytes [60]then tInt else if s=bytes [38]then tBool else if s=bytes [124]then tBool else if s=bytes [33]then tBool else tInt
def Es (s:ByteArray):Ty:=if s=bytes [61]then tBool else if s=bytes [60]then tBool else if s=bytes [38]then tBool else if s=bytes [124]then tBool else if s=bytes [33]then tBool else tInt
theorem Ut {Y:List Ty}(h:All2 Ty.Is Y es)(O:es.length<=4611686018427387904)(a:Option Addr)(c:Nat)(s:ByteArray):
  E8 158 [.str s,.sv a 2 es c] (if Df (Bi s) Y then Es s else tZero):=λN Q U=>by
 have key:∀(u v:Ty) (d e:D) (N0 N1:Nat),u.Is d->v.Is e->Own N N1 e->N<=N1->Bi s=u->Es s=v->zY Q N a es c es.length (0:Nat) 0 none [] 0 d e N1:=by
  intro u v d e N0 N1 hd he ho ae hu hv;subst hu hv;refine up h O (λi xs=>∀(N':Nat),N1<=N'->Df (Bi s) xs=Df (Bi s) Y->zY Q N a es c es.length i 0 none [] 0 d e N') ?_ ?_ N1 (oD _) rfl
  ·intro i aa _ N' ab hk;refine qn ?_;rw[<-hk]at U
   repeat' first|with_reducible intro _|simp only[aa,Y1]|with_reducible refine X ?_ ?_|refine⟨_,_,_,rfl,?_⟩|refine⟨_,rfl,?_⟩|refine X0 ?_|fail
   exact U _ _ (by omega) he (ho.mono (oD _) (by omega))
  ·intro i x xs I _ ac N' ab hk;have hb:=I.b;refine qn ?_
   repeat' first|with_reducible intro _|simp only[I.lt,I.w,oI,Y1]|with_reducible refine X ?_ ?_|refine⟨_,_,_,rfl,?_⟩|refine⟨_,rfl,?_⟩|refine X0 ?_|refine(zh x _ _ _ I.r hd) _ _ ?_|fail
   ·rename_i J _ _;rw[<-hk,Df,J]at U;exact U _ _ (by omega) xi yZ
   ·rename_i J;exact ac _ (by omega) (by rw[<-hk,Df,J,lB])
 refine LN N s a es c Q λ_=>?_
 repeat' first|with_reducible intro _|simp only[Y1]|with_reducible refine X ?_ ?_|refine⟨_,_,_,rfl,?_⟩|refine⟨_,rfl,?_⟩|refine X0 ?_|refine SK _ _ ?_|refine KL _ _ ?_|fail
 all_goals first
  | exact key tInt tBool _ _ 0 _ (by assumption) (by assumption) (Own.mono (by assumption) (by omega) (by omega)) (by omega) (by unfold Bi;(repeat' split)<;>first | rfl | contradiction) (by unfold Es;(repeat' split)<;>first | rfl | contradiction)
  | exact key tBool tBool _ _ 0 _ (by assumption) (by assumption) (Own.mono (by assumption) (by omega) (by omega)) (by omega) (by unfold Bi;(repeat' split)<;>first | rfl | contradiction) (by unfold Es;(repeat' split)<;>first | rfl | contradiction)
  | exact key tInt tInt _ _ 0 _ (by assumption) (by assumption) (Own.mono (by assumption) (by omega) (by omega)) (by omega) (by unfold Bi;(repeat' split)<;>first | rfl | contradiction) (by unfold Es;(repeat' split)<;>first | rfl | contradiction)
theorem WH {f:FuncId}{rs:List Sh}{args:List PV}{Q:QT rs}(hc:wS prog f=true)(O:PV.sv none z es c∈args)(I:es≠[]):ACalls prog f rs args N Q:=
 ⟨hc,λav w0 _ _ J=>by have h:=(J _ O).1.1;cases h;exact absurd rfl I⟩
theorem XA (h:Ctx g es)(hg:g.length<=1073741824)(a:Option Addr)(c:Nat)(N:Nat)(Q:QT [.row 51 4])(U:∀ Y N',N<=N'->Q es Y N'):ACalls prog 166 [.row 51 4] [.sv a 4 es c] N Q:=by
 have hl:=h.all.len;have aa:zA [] es 56:=by unfold zA;simp only[oV];omega
 have I:(a=none->es=[])->ACalls prog 166 [.row 51 4] [.sv a 4 es c] N Q:=λhn=>by
  refine AW N a es c Q λ_=>?_
  repeat' first|with_reducible intro _|simp only[Y1]|with_reducible refine X ?_ ?_|refine⟨_,_,_,rfl,?_⟩|refine⟨_,rfl,?_⟩|refine X0 ?_|fail
  ·rename_i hi N1 O;have:es=[]:=hn (by simpa using hi);subst this;exact U _ _ O
  ·simp only[oV];exact U _ _ (by omega)
 cases a with
 | some ad=>exact I (by simp)
 | none=>
   by_cases J:es=[]
   ·exact I λ_=>J
   ·exact WH (z:=4) (c:=c) (es:=es) (by kernel_rfl) (by simp) J
theorem xe:∀ x∈(D.sl a z es c).foot,x∈zF es\/∃ ad,a=some ad/\x=ad.block:=by
 intro x hx;cases a with
 | none=>simp only[D.foot]at hx;exact .inl hx
 | some ad=>
   simp only[D.foot]at hx;split at hx
   ·simp at hx
   ·rcases oH.1 hx with rfl | hx
    ·exact .inr ⟨ad,rfl,rfl⟩
    ·exact .inl hx
theorem VB:∀ x∈zF es,x∈(D.sl a z es c).foot:=by
 intro x hx;cases a with
 | none=>simpa only[D.foot]using hx
 | some ad=>
   simp only[D.foot];split
   ·rename_i h;cases es with
    | nil=>simp[zF]at hx
    | cons=>simp at h
   ·exact nz _ hx
theorem PU {h:List Tg}{fs:List D}(I:Ctx g es)(O:Ctx h fs)(Y:g.length+h.length<=1073741824)(a b:Option Addr)(c e:Nat)(N:Nat)(Q:QT [.sl 4])(hQ:∀ J es' U N',N<=N'->Ctx (g++h) es'->(∀ x∈(D.sl J 4 es' U).foot,x∈zF es\/x∈zF fs\/N<=x)->Q J es' U N'):ACalls prog 108 [.sl 4] [.sv a 4 es c,.sv b 4 fs e] N Q:=by
 have hl:=I.all.len;have aa:=O.all.len;have hb:zA es fs 56:=by unfold zA;simp only[oK];omega
 refine PG N a es c b fs e Q λ_ _=>?_
 repeat' first|with_reducible intro _|simp only[Y1]|with_reducible refine X ?_ ?_|refine⟨_,_,_,rfl,?_⟩|refine⟨_,rfl,?_⟩|refine X0 ?_|refine(XA I (by omega) _ _) _ _ ?_|fail
 rename_i J N3 ab hf N4 ac;refine hQ _ _ _ _ (by omega) ⟨by simp;omega,I.all.app O.all⟩ λx hx=>?_;rcases xe x hx with h1 | ⟨ad,rfl,rfl⟩
 ·rw[zC]at h1;rcases oM.1 h1 with h1 | h1
  ·exact .inl h1
  ·exact .inr (.inl h1)
 ·have:=hf.lo ad rfl
  exact .inr (.inr (by omega))
theorem R6 (h:Ctx g es)(hg:g.length<=1073741824)(hc:∀ x∈g,x.ty.cnt<=1073741824)(a:Option Addr)(c:Nat)(n:Int):
  ∀(N:Nat) (Q:QT [.sl 4]),(∀ a' es' c' N',N<=N'->Ctx (uE g n) es'->Q a' es' c' N')->ACalls prog 193 [.sl 4] [.sv a 4 es c,.j n] N Q:=λN Q hQ=>by
 have hl:=h.all.len;refine IR N a es c n Q λ_=>?_;have key:=up h.all h.len (λi xs=>∀(r:List D) (m q:Nat) (N':Nat) (done:List Tg),N<=N'->m=r.length->All2 Tg.Is done r->done.length<=i->done++vL g n xs i=uE g n->yT Q N a es c n m q a es c es.length i r q N') ?_ ?_
 ·exact key [] 0 0 N [] (oD _) rfl rfl (oD _) rfl
 ·intro i O hi r m q N' done U hm hr Y hd;refine ql ?_
  repeat' first|with_reducible intro _|simp only[O,Y1]|with_reducible refine X ?_ ?_|refine⟨_,_,_,rfl,?_⟩|refine⟨_,rfl,?_⟩|refine X0 ?_|fail
  refine hQ _ _ _ _ (by omega) ⟨by have:=hr.len;omega,?_⟩;simp only[vL,ou]at hd;rwa[<-hd]
 ·intro i x xs I _ J r m q N' done U hm hr Y hd;have hb:=I.b;have ab:=hr.len;obtain⟨t0,t1,he,hs,ht⟩:=I.r;simp only[vL]at hd;refine ql ?_
  repeat' first|with_reducible intro _|simp only[I.lt,I.w,oI,he,Y1]|with_reducible refine X ?_ ?_|refine⟨_,_,_,rfl,?_⟩|refine⟨_,rfl,?_⟩|refine X0 ?_|refine(r9 _ _ ht) _ _ ?_|refine(Dk h a c _) _ _ ?_|refine(GS _ _ ht (hc x I.m)) _ _ ?_|fail
  ·rename_i N2 ac x' N3 ae hx ho _ _;have aa:rj g n x i=true:=by simp[rj, *]
   rw[if_pos aa]at hd;refine⟨by unfold zA;simp only[oK,nc];omega,λc2=>J _ _ _ _ (done++[x]) (by omega) rfl (hr.snoc ⟨_,_,rfl,hs,Ty.is_cells hx⟩) (by simp;omega) (by simpa using hd)⟩
  all_goals(refine J _ _ _ _ done (by omega) hm hr (by omega) ?_;rw[<-hd,if_neg (by simp[rj, *])])
theorem xI {bs:List (Option Addr)}{N':Nat}(J:wm N bs)(O:Own N N' d):Off bs d:=λa U ad I Y=>by
 have:=J a U ad I
 have:=O.lo _ Y
 omega
theorem Ko {x b:Option Addr}{fs O:List D}{U:Nat}(h1:ApA a fs)(h2:Off [a] (.sl x 4 es c))(h3:wm N [a])(h4:∀ y∈(D.sl b 4 O U).foot,y∈zF es\/y∈zF fs\/N<=y):Off [a] (.sl b 4 O U):=λY J ad I hm=>by
 have e:=oW.1 J;subst e;rcases h4 _ hm with h | h | h
 ·exact h2 Y J ad I (VB _ h)
 ·obtain⟨d,hd,hx⟩:=zQ.1 h;exact h1 ad I d hd hx
 ·have:=h3 Y J ad I
  omega
theorem Ty.valid_k (h:t.valid=true):t.k=1/\t.as=[]\/t.k=2/\t.as=[]\/(t.k=3/\∃ a b,t.as=[a,b])\/(t.k=4/\∃ a,t.as=[a]):=by
 cases t with
 | mk k l=>
   have I:=Ty.form_len h;simp only[Ty.k,Ty.as];unfold s7 at I;split at I
   ·rename_i hk;have J:l=[]:=by simpa using I
    rcases hk with hk | hk
    ·exact .inl ⟨hk,J⟩
    ·exact .inr (.inl ⟨hk,J⟩)
   ·split at I
    ·rename_i hk;exact .inr (.inr (.inl ⟨hk,QW (by simp at I;omega)⟩))
    ·split at I
     ·rename_i hk;exact .inr (.inr (.inr ⟨hk,Er (by simp at I;omega)⟩))
     ·cases I
theorem Ty.valid_nz (h:t.valid=true):t.k≠0:=by rcases Ty.valid_k h with h | h | h | h<;>omega
theorem Sg (h:t.valid=true):sB t tZero=false/\sB tZero t=false:=by
 have hk:=Ty.valid_nz h;cases t with
 | mk k l=>have hk:k≠0:=hk;have I:0≠k:=λh=>hk h.symm;constructor<;>simp[sB,tZero,hk,I]
theorem Sf (h:t.valid=true):sB t tBool=decide (t.k=2):=by
 have hk:=Ty.valid_k h;cases t with
 | mk k l=>
   simp only[Ty.k,Ty.as]at hk;rw[mG,w6,nh];simp only[tBool,Ty.k,Ty.mk.injEq];rcases hk with⟨hk,I⟩ | ⟨hk,I⟩ | ⟨hk,_⟩ | ⟨hk,_⟩<;>simp[hk]
   exact I
theorem Y6 (h:t.valid=true):sB t tInt=decide (t.k=1):=by
 have hk:=Ty.valid_k h;cases t with
 | mk k l=>
   simp only[Ty.k,Ty.as]at hk;rw[mG,w6,nh];simp only[tInt,Ty.k,Ty.mk.injEq];rcases hk with⟨hk,I⟩ | ⟨hk,I⟩ | ⟨hk,_⟩ | ⟨hk,_⟩<;>simp[hk]
   exact I
def tyZ (e:Tm)(g:List Tg)(n:Int):Ty:=(e.type g n).getD tZero
theorem K7 (e:Tm)(g:List Tg)(n:Int):(tyZ e g n).cnt<=30:=K8 e g n
theorem ro (e:Tm)(g:List Tg)(n:Int):(e.type g n=none/\tyZ e g n=tZero)\/(e.type g n=some (tyZ e g n)/\(tyZ e g n).valid=true):=by
 cases h:e.type g n with
 | none=>exact .inl ⟨rfl,by simp[tyZ,h]⟩
 | some t=>exact .inr ⟨by simp[tyZ,h],by simpa [tyZ,h]using Tm.type_valid h⟩
def IHi (l:List Tm):Prop:=∀ x∈l,∀ d,x.Is d->∀ g es a c n,Pre g x n->Ctx g es->E8 55 [.sv a 4 es c,.dg 9 d,.j n] (tyZ x g n)
theorem GT {r0:D}{I:List D}(hk:zP k n=n)(ih:IHi l)(O:All2 Tm.Is l I)(aa:I.length<=4611686018427387904)(pre:Pre g (.mk k nm ot m ty re l) n)(J:Ctx g es)(i:Nat){x:Tm}(hx:l[i]?=some x)(U Y b3:Addr):
  E8 154 [.j i,.pd U 0 (.sl a 4 es c),.pd Y 9 (.ag [.j k,.t nm,.t ot,.j m,t0,t1,r0,r1,.sl a1 9 I c1]),.pd b3 0 (.j n)] (tyZ x g n):=λN Q hQ=>by
 have ab:=(oC.1 hx).1;have ac:=O.len;have hm:=oA hx;have hp:=pre.sub hm (g':=g) (by omega) pre.ty;rw[hk]at hp;refine A6 N i U _ Y _ b3 _ Q ?_;refine⟨_,_,_,rfl,_,_,_,rfl,⟨by omega,by omega⟩,_,rfl,?_⟩
 repeat' first|with_reducible intro _|simp only[oI,Y1]|with_reducible refine X ?_ ?_|refine⟨_,_,_,rfl,?_⟩|refine⟨_,rfl,?_⟩|refine X0 ?_|refine(ih x hm _ (O.get hx) g _ _ _ n hp J) _ _ ?_|fail
 exact hQ _ _ (by omega) (by assumption) (Own.mono (by assumption) (by omega) (by omega))
theorem zBC {e1 I:Tm}:((match zS [e0,e1,I] g n with | some Y=>zm 5 s Y | none=>none):Option Ty).getD tZero =
  if sB (tyZ e0 g n) tBool&&sB (tyZ e1 g n) (tyZ I g n)then tyZ e1 g n else tZero:=by
 rcases ro e0 g n with⟨J,z0⟩ | ⟨J,v0⟩
 ·simp only[zS,J,z0];rfl
 ·rcases ro e1 g n with⟨O,z1⟩ | ⟨O,v1⟩
  ·simp only[zS,J,O,z1];split<;>rfl
  ·rcases ro I g n with⟨U,z2⟩ | ⟨U,v2⟩
   ·simp only[zS,J,O,U,z2,(Sg v1).1,lT];rfl
   ·simp only[zS,J,O,U];rw[Sf v0];show(zm 5 s [tyZ e0 g n,tyZ e1 g n,tyZ I g n]).getD tZero=_;unfold zm;rw[if_neg (by omega),if_pos rfl];simp only[nk,mV];by_cases hc:(tyZ e0 g n).k=2/\sB (tyZ e1 g n) (tyZ I g n)=true
    ·rw[if_pos hc,if_pos (by simp[hc.1,hc.2])];rfl
    ·rw[if_neg hc,if_neg (by simpa using hc)];rfl
theorem zAX {e1:Tm}:((match zS [e0,e1] g n with | some Y=>zm 7 s Y | none=>none):Option Ty).getD tZero =
  if(tyZ e0 g n).k=3/\sB ((tyZ e0 g n).as.getD 0 tZero) (tyZ e1 g n)then(tyZ e0 g n).as.getD 1 tZero else tZero:=by
 rcases ro e0 g n with⟨J,z0⟩ | ⟨J,v0⟩
 ·simp only[zS,J,z0];rfl
 ·rcases ro e1 g n with⟨O,z1⟩ | ⟨O,v1⟩
  ·simp only[zS,J,O,z1];rw[if_neg]
   ·rfl
   ·rintro⟨hk,U⟩
    rcases Ty.valid_k v0 with h | h | ⟨_,a,b,I⟩ | h
    ·omega
    ·omega
    ·rw[I,w6]at U;simp only[nk]at U;subst U;have:(tyZ e0 g n).form=true:=by simp only[Ty.valid,oE]at v0;exact v0.2
     cases hz:tyZ e0 g n with
     | mk k l=>rw[hz]at I this;simp only[Ty.as]at I;subst I;simp[Ty.form,uC,s7,tZero]at this
    ·omega
  ·simp only[zS,J,O];show(zm 7 s [tyZ e0 g n,tyZ e1 g n]).getD tZero=_;unfold zm;rw[if_neg (by omega),if_neg (by omega)];simp only[nk,mV];split<;>rfl
theorem zBD (hs:0<JO s):((match zS l g n with | some I=>zm 4 s I | none=>none):Option Ty).getD tZero =
  if Df (Bi s) (l.map λe=>tyZ e g n)then Es s else tZero:=by
 have h2:Es s=rh s/\(Bi s=tInt/\G3 s=1\/Bi s=tBool/\G3 s=2):=by
  unfold JO at hs
  (repeat' split at hs)<;>first | omega | (subst_vars;exact⟨rfl,.inl ⟨rfl,rfl⟩⟩) | (subst_vars;exact⟨rfl,.inr ⟨rfl,rfl⟩⟩) | skip
 obtain⟨h3,J⟩:=h2
 have key:∀ l:List Tm,(∀ I,zS l g n=some I->Df (Bi s) (l.map λe=>tyZ e g n)=Qj (G3 s) I)/\(zS l g n=none->Df (Bi s) (l.map λe=>tyZ e g n)=false):=by
  intro l
  induction l with
  | nil=>exact⟨λI h=>by simp[zS]at h;subst h;rfl,λh=>by simp[zS]at h⟩
  | cons e l Y=>
    rcases ro e g n with⟨U,z0⟩ | ⟨U,v0⟩
    ·have:sB tZero (Bi s)=false:=by rcases J with⟨J,_⟩ | ⟨J,_⟩<;>rw[J]<;>rfl
     refine⟨λI h=>by simp[zS,U]at h,λ_=>by simp[Df,z0,this]⟩
    ·have hk:sB (tyZ e g n) (Bi s)=decide ((tyZ e g n).k=G3 s):=by
      rcases J with⟨J,h5⟩ | ⟨J,h5⟩<;>rw[J,h5]
      ·exact Y6 v0
      ·exact Sf v0
     cases O:zS l g n with
     | none=>exact⟨λI h=>by simp[zS,U,O]at h,λ_=>by simp[Df,Y.2 O]⟩
     | some us=>refine⟨λI h=>?_,λh=>by simp[zS,U,O]at h⟩;simp only[zS,U,O,nL]at h;subst h;simp only[oZ,Df,Qj,hk,Y.1 us O]
 cases O:zS l g n with
 | none=>rw[(key l).2 O];rfl
 | some I=>rw[(key l).1 I O,h3];show(zm 4 s I).getD tZero=_;unfold zm Ri;rw[if_pos rfl];split<;>rfl
abbrev II (k:Int)(nm ot:ByteArray)(m:Int)(t0 t1 r0 r1:D)(a:Option Addr)(es:List D)(c:Nat):D:=.ag [.j k,.t nm,.t ot,.j m,t0,t1,r0,r1,.sl a 9 es c]
theorem f5 {r0:D}(ih:IHi l)(hh:Tm.Hd nm ot ty re t0 t1 r0 r1)(h0:All2 Tm.Is l es1)(hl1:es1.length<=4611686018427387904)(pre:Pre g (.mk 5 nm ot m ty re l) n)(ctx:Ctx g es):
  E8 106 [.sv a 4 es c,.dg 9 (II 5 nm ot m t0 t1 r0 r1 a1 es1 c1),.j n] ((Tm.raw (.mk 5 nm ot m ty re l) g n).getD tZero):=fun N Q hQ=>by
 have hl : l.length = 3 := by have:(l.length:Int)=3:=(zT pre.ok).ar
                              omega
 obtain⟨e0,e1,e2,rfl⟩:∃ a b c,l=[a,b,c]:=by
  match l,hl with
  | [a,b,c],_=>exact⟨a,b,c,rfl⟩
 have hraw:(Tm.raw (.mk 5 nm ot m ty re [e0,e1,e2]) g n).getD tZero=if sB (tyZ e0 g n) tBool&&sB (tyZ e1 g n) (tyZ e2 g n)then tyZ e1 g n else tZero:=by rw[<-zBC (s:=nm)];simp only[Tm.raw];rfl
 rw[hraw]at hQ;have hn:zP 5 n=n:=by simp[zP]
 refine zf N a es c _ n Q fun _ _=>⟨_,rfl,?_⟩
 repeat' first|with_reducible intro _|simp only[Y1]|with_reducible refine X ?_ ?_|refine⟨_,_,_,rfl,?_⟩|refine⟨_,rfl,?_⟩|refine X0 ?_|refine(GT hn ih h0 hl1 pre ctx 1 rfl _ _ _) _ _ ?_|refine(GT hn ih h0 hl1 pre ctx 2 rfl _ _ _) _ _ ?_|refine(GT hn ih h0 hl1 pre ctx 0 rfl _ _ _) _ _ ?_|refine KL _ _ ?_|refine(zh (tyZ e0 g n) tBool _ _ (by assumption) (by assumption)) _ _ ?_|refine(zh (tyZ e1 g n) (tyZ e2 g n) _ _ (by assumption) (by assumption)) _ _ ?_|(((with_reducible refine And.intro ?_ ?_);· exact xI (by assumption) (by assumption)))|fail
 all_goals first | (exfalso;omega) | skip
 all_goals first
  | exact hQ _ _ (by omega) (by rw[if_pos (by simp[*])];assumption) (Own.mono (by assumption) (by omega) (by omega))
  | exact hQ _ _ (by omega) (by rw[if_neg (by simp[*])];exact xi) yZ
def Rt (I J:Ty):Ty:=if I.k=3/\sB (I.as.getD 0 tZero) J then I.as.getD 1 tZero else tZero
theorem f7 {r0:D}(ih:IHi l)(hh:Tm.Hd nm ot ty re t0 t1 r0 r1)(h0:All2 Tm.Is l es1)(hl1:es1.length<=4611686018427387904)(pre:Pre g (.mk 7 nm ot m ty re l) n)(ctx:Ctx g es):
  E8 106 [.sv a 4 es c,.dg 9 (II 7 nm ot m t0 t1 r0 r1 a1 es1 c1),.j n] ((Tm.raw (.mk 7 nm ot m ty re l) g n).getD tZero):=fun N Q hQ=>by
 have hl : l.length = 2 := by have:(l.length:Int)=2:=(zT pre.ok).ar
                              omega
 obtain⟨e0,e1,rfl⟩:=QW hl;have hraw:(Tm.raw (.mk 7 nm ot m ty re [e0,e1]) g n).getD tZero=Rt (tyZ e0 g n) (tyZ e1 g n):=by unfold Rt;rw[<-zAX (s:=nm)];simp only[Tm.raw];rfl
 rw[hraw]at hQ;have hn:zP 7 n=n:=by simp[zP]
 refine zf N a es c _ n Q fun _ _=>⟨_,rfl,?_⟩
 repeat' first|with_reducible intro _|simp only[Y1]|with_reducible refine X ?_ ?_|refine⟨_,_,_,rfl,?_⟩|refine⟨_,rfl,?_⟩|refine X0 ?_|refine(GT hn ih h0 hl1 pre ctx 0 rfl _ _ _) _ _ ?_|refine(GT hn ih h0 hl1 pre ctx 1 rfl _ _ _) _ _ ?_|(((with_reducible refine And.intro ?_ ?_);· exact xI (by assumption) (by assumption)))|fail
 all_goals first | (exfalso;omega) | skip
 rename_i hd0 ho0 _ _ _ _ _ _ _ _ _ _ _ _ _ _ hd1 ho1 _ _;have hv:=ro e0 g n;generalize tyZ e0 g n=z0 at *;cases z0 with
 | mk k0 l0=>
 obtain⟨a2,es2,c2,rfl,hl2,he2⟩:=Ty.is_mk.1 hd0;by_cases hk:k0=3
 ·subst hk;have hv:(Ty.mk 3 l0).valid=true:=by
   rcases hv with⟨_,hv⟩ | ⟨_,hv⟩
   ·cases hv
   ·exact hv
  have hcn:=Ty.valid_cnt hv;rcases Ty.valid_k hv with⟨hk,_⟩ | ⟨hk,_⟩ | ⟨_,u,v,huv⟩ | ⟨hk,_⟩
  ·cases hk
  ·cases hk
  ·simp only[Ty.as]at huv;subst huv;obtain⟨x0,_,rfl,hx0,x1,_,rfl,hx1,rfl⟩:=he2;simp only[Ty.cnt,zN]at hcn;have q1:sB u (tyZ e1 g n)=true->Rt (.mk 3 [u,v]) (tyZ e1 g n)=v:=fun h=>if_pos ⟨rfl,h⟩;have q2:sB u (tyZ e1 g n)=false->Rt (.mk 3 [u,v]) (tyZ e1 g n)=tZero:=fun h=>if_neg fun hc=>by rw[show(Ty.mk 3 [u,v]).as.getD 0 tZero=u from rfl,h]at hc;cases hc.2
   repeat' first|with_reducible intro _|simp only[oJ,oN,Y1]|with_reducible refine X ?_ ?_|refine⟨_,_,_,rfl,?_⟩|refine⟨_,rfl,?_⟩|refine X0 ?_|refine(zh u (tyZ e1 g n) _ _ hx0 hd1) _ _ ?_|refine(GS v _ hx1 (by omega)) _ _ ?_|fail
   all_goals first | (exfalso;omega) | skip
   all_goals first
    | exact hQ _ _ (by omega) (by rw[q1 (by assumption)];assumption) (Own.mono (by assumption) (by omega) (by omega))
    | exact hQ _ _ (by omega) (by rw[q2 (by assumption)];exact xi) yZ
  ·cases hk
 ·repeat' first|with_reducible intro _|simp only[Y1]|with_reducible refine X ?_ ?_|refine⟨_,_,_,rfl,?_⟩|refine⟨_,rfl,?_⟩|refine X0 ?_|fail
  all_goals first | (exfalso;omega) | skip
  exact hQ _ _ (by omega) (by rw[show Rt (.mk k0 l0) (tyZ e1 g n)=tZero from if_neg fun h=>hk h.1];exact xi) yZ
def VP (t z:Ty):Ty:=if z.k=0 then tZero else wD t z
theorem f6 {r0:D}(ih:IHi l)(hh:Tm.Hd nm ot ty re t0 t1 r0 r1)(h0:All2 Tm.Is l es1)(hl1:es1.length<=4611686018427387904)(pre:Pre g (.mk 6 nm ot m ty re l) n)(ctx:Ctx g es):
  E8 106 [.sv a 4 es c,.dg 9 (II 6 nm ot m t0 t1 r0 r1 a1 es1 c1),.j n] ((Tm.raw (.mk 6 nm ot m ty re l) g n).getD tZero):=fun N Q hQ=>by
 have hl : l.length = 1 := by have:(l.length:Int)=1:=(zT pre.ok).ar
                              omega
 obtain⟨e0,rfl⟩:=Er hl;obtain⟨d0,_,rfl,h0,rfl⟩:=h0;have hlen:=pre.len1;have hpc:1<=(Tm.mk 6 nm ot m ty re [e0]).cnt:=by simp only[Tm.cnt];omega
 have hv:=Ty.valid_cnt ((zT pre.ok).vt (.inl rfl));have hp:=pre.sub (x:=e0) (by simp) (g':=g++[⟨nm,ty,n⟩]) (by simp) (qR pre.ty (show ty.cnt<=64 by omega));rw[show zP 6 n=n by simp[zP]]at hp;have hc:=K7 e0 (g++[⟨nm,ty,n⟩]) n;have hz:=ro e0 (g++[⟨nm,ty,n⟩]) n;have hraw:(Tm.raw (.mk 6 nm ot m ty re [e0]) g n).getD tZero=VP ty (tyZ e0 (g++[⟨nm,ty,n⟩]) n):=by
  have:Tm.raw (.mk 6 nm ot m ty re [e0]) g n=(match e0.type (g++[⟨nm,ty,n⟩]) n with | some b=>some (wD ty b) | none=>none):=by simp only[Tm.raw,uo];rfl
  rw[this];unfold VP;rcases hz with⟨h1,h2⟩ | ⟨h1,h2⟩
  ·rw[h1,h2];rfl
  ·rw[h1,if_neg (Ty.valid_nz h2)];rfl
 rw[hraw]at hQ;have hctx:Ctx [⟨nm,ty,n⟩] [.ag [.t nm,t0,t1,.j n]]:=⟨by simp,_,_,rfl,⟨_,_,rfl,hh.nm,hh.ty⟩,rfl⟩
 refine zf N a es c _ n Q fun _ _=>⟨_,rfl,?_⟩
 repeat' first|with_reducible intro _|simp only[oJ,oN,Y1]|with_reducible refine X ?_ ?_|refine⟨_,_,_,rfl,?_⟩|refine⟨_,rfl,?_⟩|refine X0 ?_|refine(PU ctx hctx (by simp;omega) _ _ _ _) _ _ ?_|refine(ih e0 nf d0 h0 (g++[⟨nm,ty,n⟩]) _ _ _ n hp (by assumption)) _ _ ?_|(((with_reducible refine And.intro ?_ ?_);· exact Ko (by assumption) (by assumption) (by assumption) (by assumption)))|fail
 all_goals first | (exfalso;omega) | skip
 rename_i hd0 ho0 _ _;generalize tyZ e0 (g++[⟨nm,ty,n⟩]) n=z0 at *;cases z0 with
 | mk k0 l0=>
 have hd1:=hd0;obtain⟨a2,es2,c2,rfl,hl2,he2⟩:=Ty.is_mk.1 hd0
 repeat' first|with_reducible intro _|simp only[Y1]|with_reducible refine X ?_ ?_|refine⟨_,_,_,rfl,?_⟩|refine⟨_,rfl,?_⟩|refine X0 ?_|refine(SJ ty (.mk k0 l0) _ _ hh.ty hd1 (by omega) (by omega)) _ _ ?_|fail
 all_goals first
  | exact hQ _ _ (by omega) (by rw[show VP ty (.mk k0 l0)=tZero from if_pos (by assumption)];exact xi) yZ
  | exact hQ _ _ (by omega) (by rw[show VP ty (.mk k0 l0)=wD ty (.mk k0 l0)from if_neg (by assumption)];assumption) (Own.mono (by assumption) (by omega) (by omega))
def VQ (e1:Tm)(g:List Tg)(nm:ByteArray)(n:Int)(z:Ty):Ty:=if z.k=0 then tZero else tyZ e1 (g++[⟨nm,z,n⟩]) n
theorem f8 {r0:D}(ih:IHi l)(hh:Tm.Hd nm ot ty re t0 t1 r0 r1)(h0:All2 Tm.Is l es1)(hl1:es1.length<=4611686018427387904)(pre:Pre g (.mk 8 nm ot m ty re l) n)(ctx:Ctx g es):
  E8 106 [.sv a 4 es c,.dg 9 (II 8 nm ot m t0 t1 r0 r1 a1 es1 c1),.j n] ((Tm.raw (.mk 8 nm ot m ty re l) g n).getD tZero):=fun N Q hQ=>by
 have hl : l.length = 2 := by have:(l.length:Int)=2:=(zT pre.ok).ar
                              omega
 obtain⟨e0,e1,rfl⟩:=QW hl;have hes1:=h0;obtain⟨d0,_,rfl,h0,d1,_,rfl,h1,rfl⟩:=h0;have hlen:=pre.len1;have hpc:1<=(Tm.mk 8 nm ot m ty re [e0,e1]).cnt:=by simp only[Tm.cnt];omega
 have hz:=ro e0 g n;have hc:=K7 e0 g n;have hraw:(Tm.raw (.mk 8 nm ot m ty re [e0,e1]) g n).getD tZero=VQ e1 g nm n (tyZ e0 g n):=by
  have:Tm.raw (.mk 8 nm ot m ty re [e0,e1]) g n=(match e0.type g n with | some b=>e1.type (g++[⟨nm,b,n⟩]) n | none=>none):=by simp only[Tm.raw,uo];rfl
  rw[this];unfold VQ;rcases hz with⟨h1,h2⟩ | ⟨h1,h2⟩
  ·rw[h1,h2];rfl
  ·rw[h1,if_neg (Ty.valid_nz h2)];rfl
 rw[hraw]at hQ;have hn:zP 8 n=n:=by simp[zP]
 refine zf N a es c _ n Q fun _ _=>⟨_,rfl,?_⟩
 repeat' first|with_reducible intro _|simp only[oJ,oN,Y1]|with_reducible refine X ?_ ?_|refine⟨_,_,_,rfl,?_⟩|refine⟨_,rfl,?_⟩|refine X0 ?_|refine(GT hn ih hes1 hl1 pre ctx 0 rfl _ _ _) _ _ ?_|(((with_reducible refine And.intro ?_ ?_);· exact xI (by assumption) (by assumption)))|fail
 all_goals first | (exfalso;omega) | skip
 rename_i hd0 ho0 _ _;generalize tyZ e0 g n=z0 at *;cases z0 with
 | mk k0 l0=>
 have hd1:=hd0;obtain⟨a2,es2,c2,rfl,hl2,he2⟩:=Ty.is_mk.1 hd0;by_cases hk:k0=0
 ·have q:VQ e1 g nm n (.mk k0 l0)=tZero:=if_pos hk;rw[q]at hQ
  repeat' first|with_reducible intro _|simp only[Y1]|with_reducible refine X ?_ ?_|refine⟨_,_,_,rfl,?_⟩|refine⟨_,rfl,?_⟩|refine X0 ?_|fail
  all_goals first | (exfalso;omega) | exact hQ _ _ (by omega) xi yZ
 ·have q:VQ e1 g nm n (.mk k0 l0)=tyZ e1 (g++[⟨nm,.mk k0 l0,n⟩]) n:=if_neg hk;rw[q]at hQ;have hp:=pre.sub (x:=e1) (by simp) (g':=g++[⟨nm,.mk k0 l0,n⟩]) (by simp) (qR pre.ty (oP hc (by omega)));rw[hn]at hp;have hctx:Ctx [⟨nm,.mk k0 l0,n⟩] [.ag [.t nm,.j k0,.sl a2 2 es2 c2,.j n]]:=⟨by simp,_,_,rfl,⟨_,_,rfl,hh.nm,hd1⟩,rfl⟩
  repeat' first|with_reducible intro _|simp only[oJ,oN,Y1]|with_reducible refine X ?_ ?_|refine⟨_,_,_,rfl,?_⟩|refine⟨_,rfl,?_⟩|refine X0 ?_|refine(PU ctx hctx (by simp;omega) _ _ _ _) _ _ ?_|refine(ih e1 (by simp) d1 h1 (g++[⟨nm,.mk k0 l0,n⟩]) _ _ _ n hp (by assumption)) _ _ ?_|(((with_reducible refine And.intro ?_ ?_);· exact Ko (by assumption) (by assumption) (by assumption) (by assumption)))|fail
  all_goals first | (exfalso;omega) | skip
  exact hQ _ _ (by omega) (by assumption) (Own.mono (by assumption) (by omega) (by omega))
theorem zBB {r0:D}(I:Tm.Hd nm ot ty re t0 t1 r0 r1)(hx:(wD ty re).Is x)(n:Int):
  Ctx [⟨nm,wD ty re,n⟩,⟨ot,ty,n⟩] [.ag [.t nm,D.cell x 0,D.cell x 1,.j n],.ag [.t ot,t0,t1,.j n]]:=
 ⟨by simp,_,_,rfl,⟨_,_,rfl,I.nm,Ty.is_cells hx⟩,_,_,rfl,⟨_,_,rfl,I.ot,I.ty⟩,rfl⟩
theorem f9 {r0:D}(ih:IHi l)(hh:Tm.Hd nm ot ty re t0 t1 r0 r1)(h0:All2 Tm.Is l es1)(hl1:es1.length<=4611686018427387904)(pre:Pre g (.mk 9 nm ot m ty re l) n)(ctx:Ctx g es):
  E8 106 [.sv a 4 es c,.dg 9 (II 9 nm ot m t0 t1 r0 r1 a1 es1 c1),.j n] ((Tm.raw (.mk 9 nm ot m ty re l) g n).getD tZero):=fun N Q hQ=>by
 have hl : l.length = 1 := by have:(l.length:Int)=1:=(zT pre.ok).ar
                              omega
 obtain⟨e0,rfl⟩:=Er hl;obtain⟨d0,_,rfl,h0,rfl⟩:=h0;have hlen:=pre.len1;have hpc:1<=(Tm.mk 9 nm ot m ty re [e0]).cnt:=by simp only[Tm.cnt];omega
 have hv:=Ty.valid_cnt ((zT pre.ok).vt (.inr rfl));have hrv:=(zT pre.ok).vr rfl;have hr:=Ty.valid_cnt hrv;have hg1:=qR (x:=⟨nm,wD ty re,n⟩) pre.ty (show(wD ty re).cnt<=64 by simp only[wD,Ty.cnt,zN];omega);have hp:=pre.sub (x:=e0) (by simp) (g':=(g++[⟨nm,wD ty re,n⟩])++[⟨ot,ty,n⟩]) (by simp) (qR hg1 (show ty.cnt<=64 by omega));rw[show zP 9 n=n by simp[zP],nq,List.singleton_append]at hp;have hz:=ro e0 (g++[⟨nm,wD ty re,n⟩,⟨ot,ty,n⟩]) n;have hraw:(Tm.raw (.mk 9 nm ot m ty re [e0]) g n).getD tZero=if sB (tyZ e0 (g++[⟨nm,wD ty re,n⟩,⟨ot,ty,n⟩]) n) re then wD ty re else tZero:=by
  have:Tm.raw (.mk 9 nm ot m ty re [e0]) g n=(match e0.type ((g++[⟨nm,wD ty re,n⟩])++[⟨ot,ty,n⟩]) n with | some b=>if sB b re then some (wD ty re)else none | none=>none):=by simp only[Tm.raw,uo];rfl
  rw[this,nq,List.singleton_append];rcases hz with⟨h1,h2⟩ | ⟨h1,h2⟩
  ·rw[h1,h2,(Sg hrv).2];rfl
  ·rw[h1];dsimp only;split<;>rfl
 rw[hraw]at hQ;refine zf N a es c _ n Q fun _ _=>⟨_,rfl,?_⟩
 repeat' first|with_reducible intro _|simp only[oJ,oN,Y1]|with_reducible refine X ?_ ?_|refine⟨_,_,_,rfl,?_⟩|refine⟨_,rfl,?_⟩|refine X0 ?_|refine(SJ ty re _ _ hh.ty hh.re (by omega) (by omega)) _ _ ?_|refine(PU ctx (h:=[⟨nm,wD ty re,n⟩,⟨ot,ty,n⟩]) (zBB hh (by assumption) n) (by simp;omega) _ _ _ _) _ _ ?_|refine(ih e0 nf d0 h0 (g++[⟨nm,wD ty re,n⟩,⟨ot,ty,n⟩]) _ _ _ n hp (by assumption)) _ _ ?_|refine(zh (tyZ e0 (g++[⟨nm,wD ty re,n⟩,⟨ot,ty,n⟩]) n) re _ _ (by assumption) hh.re) _ _ ?_|(((with_reducible refine And.intro ?_ ?_);· exact Ko (by assumption) (by assumption) (by assumption) (by assumption)))|fail
 all_goals first | (exfalso;omega) | skip
 all_goals first
  | exact hQ _ _ (by omega) (by rw[if_pos (by assumption)];assumption) (Own.mono (by assumption) (by omega) (by omega))
  | exact hQ _ _ (by omega) (by rw[if_neg (by simp[*])];exact xi) yZ
def stZ (k:Int)(z:Ty):Ty:=if k=10 then(if z.k=0 then tZero else wM z)else if k=13 then(if z.base then wM z else tZero)else Ej z
theorem Zg:((match e0.type g n with | some t=>z9 k t | none=>none):Option Ty).getD tZero=stZ k (tyZ e0 g n):=by
 rcases ro e0 g n with⟨I,J⟩ | ⟨I,J⟩
 ·rw[I,J];have:stZ k tZero=tZero:=by
   unfold stZ;split
   ·rfl
   ·split<;>rfl
  exact this.symm
 ·rw[I];dsimp only
  have:=Ty.valid_nz J
  unfold stZ z9 Ej;rw[if_neg this]
  (repeat' split)<;>rfl
theorem fS {r0:D}{ab:List D}(hk:k=10\/k=11\/k=12\/k=13)(ih:IHi l)(hh:Tm.Hd nm ot ty re t0 t1 r0 r1)(h0:All2 Tm.Is l ab)(ao:ab.length<=4611686018427387904)(pre:Pre g (.mk k nm ot m ty re l) n)(aa:Ctx g es):
  E8 161 [.sv a 4 es c,.dg 9 (II k nm ot m t0 t1 r0 r1 a1 ab c1),.j n] ((Tm.raw (.mk k nm ot m ty re l) g n).getD tZero):=λN Q U=>by
 have hl:l.length=1:=by
  have aj:=(zT pre.ok).ar;have:(l.length:Int)=1:=by rw[aj];rcases hk with rfl | rfl | rfl | rfl<;>rfl
  omega
 obtain⟨e0,rfl⟩:=Er hl;obtain⟨d0,_,rfl,h0,rfl⟩:=h0;have am:=pre.len1;have aq:=pre.lv;have ac:=EF g n g 0;have ak:∀ x∈g,x.ty.cnt<=1073741824:=λx hx=>oP (pre.ty x hx) (by omega);have ae:(Tm.raw (.mk k nm ot m ty re [e0]) g n).getD tZero=stZ k (tyZ e0 (if k=12 then uE g n else g) (zP k n)):=by rw[<-Zg];simp only[Tm.raw,uo];rw[if_neg (by omega),if_neg (by omega),if_neg (by omega),if_neg (by omega),if_neg (by omega),if_neg (by omega),if_pos hk];rfl
 rw[ae]at U;have hp:=pre.sub (x:=e0) (by simp) (g':=if k=12 then uE g n else g) (by split<;>simp[uE];omega) (by split;exact λy hy=>pre.ty y (ac.1 y hy);exact pre.ty);have Y:∀ es a c,Ctx (if k=12 then uE g n else g) es->E8 55 [.sv a 4 es c,.dg 9 d0,.j (zP k n)] (tyZ e0 (if k=12 then uE g n else g) (zP k n)):=λes a c hc=>ih e0 nf d0 h0 _ es a c _ hp hc;have hz:=ro e0 (if k=12 then uE g n else g) (zP k n);have au:=K7 e0 (if k=12 then uE g n else g) (zP k n);generalize tyZ e0 (if k=12 then uE g n else g) (zP k n)=z0 at *;have ah:z0.valid=true\/z0=tZero:=hz.elim (λh=>.inr h.2) λh=>.inl h.2;refine FV N a es c _ n Q λ_ _=>⟨_,rfl,?_⟩
 rw[i64_in (n+1) (by omega),i64_in (n - 1) (by omega)];cases z0 with
 | mk J O=>
 rcases hk with rfl | rfl | rfl | rfl
 ·have I:=Y es a c aa;rw[show zP 10 n=n+1 by simp[zP]]at I
  repeat' first|with_reducible intro _|simp only[oJ,oN,Y1]|with_reducible refine X ?_ ?_|refine⟨_,_,_,rfl,?_⟩|refine⟨_,rfl,?_⟩|refine X0 ?_|refine I _ _ ?_|fail
  all_goals first | (exfalso;omega) | skip
  rename_i ai aw _ _;have al:=ai;obtain⟨a2,ax,c2,rfl,ay,az⟩:=Ty.is_mk.1 ai;have q:stZ 10 (.mk J O)=if J=0 then tZero else wM (.mk J O):=rfl
  rw[q]at U
  repeat' first|with_reducible intro _|simp only[Y1]|with_reducible refine X ?_ ?_|refine⟨_,_,_,rfl,?_⟩|refine⟨_,rfl,?_⟩|refine X0 ?_|refine(PT (.mk J O) _ al (by omega)) _ _ ?_|fail
  all_goals first
   | exact U _ _ (by omega) (by rw[if_neg (by assumption)];assumption) (Own.mono (by assumption) (by omega) (by omega))
   | exact U _ _ (by omega) (by rw[if_pos (by assumption)];exact xi) yZ
 ·have I:=Y es a c aa;rw[show zP 11 n=n - 1 by simp[zP]]at I;have q:stZ 11 (.mk J O)=Ej (.mk J O):=rfl;rw[q]at U
  repeat' first|with_reducible intro _|simp only[oJ,oN,Y1]|with_reducible refine X ?_ ?_|refine⟨_,_,_,rfl,?_⟩|refine⟨_,rfl,?_⟩|refine X0 ?_|refine I _ _ ?_|refine(PR (.mk J O) _ (by assumption) ah) _ _ ?_|fail
  all_goals first | (exfalso;omega) | skip
  exact U _ _ (by omega) (by assumption) (Own.mono (by assumption) (by omega) (by omega))
 ·rw[if_pos rfl,show zP 12 n=n by simp[zP]]at Y;have q:stZ 12 (.mk J O)=Ej (.mk J O):=rfl;rw[q]at U
  repeat' first|with_reducible intro _|simp only[oJ,oN,Y1]|with_reducible refine X ?_ ?_|refine⟨_,_,_,rfl,?_⟩|refine⟨_,rfl,?_⟩|refine X0 ?_|refine(R6 aa (by omega) ak _ _ n) _ _ ?_|refine(Y _ _ _ (by assumption)) _ _ ?_|refine(PR (.mk J O) _ (by assumption) ah) _ _ ?_|fail
  all_goals first | (exfalso;omega) | skip
  exact U _ _ (by omega) (by assumption) (Own.mono (by assumption) (by omega) (by omega))
 ·have I:=Y es a c aa;rw[show zP 13 n=n by simp[zP]]at I;have q:stZ 13 (.mk J O)=if(Ty.mk J O).base then wM (.mk J O)else tZero:=rfl
  rw[q]at U
  repeat' first|with_reducible intro _|simp only[oJ,oN,Y1]|with_reducible refine X ?_ ?_|refine⟨_,_,_,rfl,?_⟩|refine⟨_,rfl,?_⟩|refine X0 ?_|refine I _ _ ?_|refine(r9 (.mk J O) _ (by assumption)) _ _ ?_|refine(PT (.mk J O) _ (by assumption) (by omega)) _ _ ?_|fail
  all_goals first | (exfalso;omega) | skip
  all_goals first
   | exact U _ _ (by omega) (by rw[if_pos (by assumption)];assumption) (Own.mono (by assumption) (by omega) (by omega))
   | exact U _ _ (by omega) (by rw[if_neg (by simp[*])];exact xi) yZ
theorem f4 {r0:D}{I:List D}(ih:IHi l)(hh:Tm.Hd nm ot ty re t0 t1 r0 r1)(h0:All2 Tm.Is l I)(Y:I.length<=4611686018427387904)(pre:Pre g (.mk 4 nm ot m ty re l) n)(ae:Ctx g es):
  E8 106 [.sv a 4 es c,.dg 9 (II 4 nm ot m t0 t1 r0 r1 a1 I c1),.j n] ((Tm.raw (.mk 4 nm ot m ty re l) g n).getD tZero):=λN Q hQ=>by
 have am:=pre.len1;have aq:=h0.len;have au:=(zT pre.ok).ar;have ao:=tV 4 nm;have ah:0<JO nm:=by
  have:=(zT pre.ok).f
  simp only[zK,xV,oE]at this
  have:=this.2.2.2.2.2
  simp at this;exact this.1
 have aa:(Tm.raw (.mk 4 nm ot m ty re l) g n).getD tZero=if Df (Bi nm) (l.map λe=>tyZ e g n)then Es nm else tZero:=by rw[<-zBD ah];simp only[Tm.raw];rfl
 rw[aa]at hQ;have hn:zP 4 n=n:=by simp[zP]
 have key:yw Q N 0 0 I.length (0:Nat) (II 4 nm ot m t0 t1 r0 r1 a1 I c1) 0 none [] 0 a es c n [] 0 N:=by
  refine up h0 Y (λi xs=>∀(r:List D) (q p:Nat) (N':Nat) (U:List Ty),N<=N'->p=r.length->All2 Ty.Is U r->U.length=i->(∀ b∈zF r,N<=b)->U++(xs.map λe=>tyZ e g n)=(l.map λe=>tyZ e g n) ->
   yw Q N p q I.length i (II 4 nm ot m t0 t1 r0 r1 a1 I c1) 0 none [] 0 a es c n r q N') ?_ ?_ [] 0 0 N [] (oD _) rfl rfl rfl (by simp[zF]) rfl
  ·intro i ai hi r q p N' U aj hp hr ab ac J;have ak:=hr.len;simp only[lI,ou]at J;rw[<-J]at hQ;refine sX ?_
   repeat' first|with_reducible intro _|simp only[ai,Y1]|with_reducible refine X ?_ ?_|refine⟨_,_,_,rfl,?_⟩|refine⟨_,rfl,?_⟩|refine X0 ?_|refine(Ut hr (by omega) _ _ nm) _ _ ?_|(((with_reducible refine And.intro ?_ ?_);· exact xI (by assumption) (by assumption)))|fail
   exact hQ _ _ (by omega) (by assumption) (Own.mono (by assumption) (by omega) (by omega))
  ·intro i x xs O _ al r q p N' U aj hp hr ab ac J;have hb:=O.b;have ak:=hr.len;refine sX ?_
   repeat' first|with_reducible intro _|simp only[O.lt,O.w,oI,Y1]|with_reducible refine X ?_ ?_|refine⟨_,_,_,rfl,?_⟩|refine⟨_,rfl,?_⟩|refine X0 ?_|refine(GT hn ih h0 Y pre ae i O.g _ _ _) _ _ ?_|(((with_reducible refine And.intro ?_ ?_);· exact xI (by assumption) (by assumption)))|fail
   all_goals first | (exfalso;omega) | skip
   rename_i hd ho _ _;refine⟨by unfold zA;simp only[oK,nc];omega,λc2=>al _ _ _ _ (U++[tyZ x g n]) (by omega) rfl (hr.snoc hd) (by simp[ab]) (λb hb=>?_) (by simpa using J)⟩;rw[zC]at hb;rcases oM.1 hb with hb | hb
   ·exact ac b hb
   ·simp only[zF,ou]at hb
    have:=ho.lo b hb
    omega
 refine zf N a es c _ n Q λ_ _=>⟨_,rfl,?_⟩
 repeat' first|with_reducible intro _|simp only[Y1]|with_reducible refine X ?_ ?_|refine⟨_,_,_,rfl,?_⟩|refine⟨_,rfl,?_⟩|refine X0 ?_|fail
 all_goals first | (exfalso;omega) | exact key
theorem f1 {r0:D}{U:List D}(pre:Pre g (.mk 1 nm ot m ty re l) n)(I:Ctx g es):
  E8 106 [.sv a 4 es c,.dg 9 (II 1 nm ot m t0 t1 r0 r1 a1 U c1),.j n] ((Tm.raw (.mk 1 nm ot m ty re l) g n).getD tZero):=λN Q J=>by
 have aa:=I.all.len;have O:Tm.raw (.mk 1 nm ot m ty re l) g n=yF g nm n:=by simp[Tm.raw]
 rw[O]at J;refine zf N a es c _ n Q λ_ _=>⟨_,rfl,?_⟩
 rcases AE g nm g.length with hlx | hlx
 ·have hlx:zL g nm = -1:=hlx;have:yF g nm n=none:=by simp[yF,hlx]
  rw[this]at J
  repeat' first|with_reducible intro _|simp only[hlx,Y1]|with_reducible refine X ?_ ?_|refine⟨_,_,_,rfl,?_⟩|refine⟨_,rfl,?_⟩|refine X0 ?_|refine(Dk I a c nm) _ _ ?_|fail
  all_goals first | (exfalso;omega) | skip
  exact J _ _ (by omega) xi yZ
 ·have hlx:0<=zL g nm/\zL g nm<g.length:=hlx;have hg:g[(zL g nm).toNat]?=some g[(zL g nm).toNat]:=oF (by omega);have hx:=I.all.get hg;have Y:g.getD (zL g nm).toNat tg0=g[(zL g nm).toNat]:=KZ hg;obtain⟨u0,u1,hd,hs,ht⟩:=hx;have hm:g[(zL g nm).toNat]∈g:=mM _;have ab:=pre.ty _ hm;have:yF g nm n=if g[(zL g nm).toNat].lv=n then some g[(zL g nm).toNat].ty else none:=by rw[yF,if_neg (by omega),Y]
  rw[this]at J;generalize g[(zL g nm).toNat]=x at *
  repeat' first|with_reducible intro _|simp only[hd,Y1]|with_reducible refine X ?_ ?_|refine⟨_,_,_,rfl,?_⟩|refine⟨_,rfl,?_⟩|refine X0 ?_|refine(Dk I a c nm) _ _ ?_|refine(GS _ _ ht (by omega)) _ _ ?_|fail
  all_goals first | (exfalso;omega) | skip
  ·rw[if_pos (by assumption)]at J;exact J _ _ (by omega) (by assumption) (Own.mono (by assumption) (by omega) (by omega))
  ·rw[if_neg (by assumption)]at J;exact J _ _ (by omega) xi yZ
theorem Qt (he:e.Is d)(Y:match e with | .mk _ _ _ _ _ _ l=>IHi l)(a:Option Addr)(c:Nat)(pre:Pre g e n)(O:Ctx g es):
  E8 106 [.sv a 4 es c,.dg 9 d,.j n] ((e.raw g n).getD tZero):=by
 cases e with
 | mk k nm ot m ty re l=>
 dsimp only at Y;obtain⟨t0,t1,r0,r1,a1,ab,c1,rfl,hh,I,J⟩:=Tm.is_mk.1 he;have nd:=zT pre.ok;have ac:=nd.ar;have aa:=GA (k:=k) (nm:=nm) (by omega);rcases aa with rfl | rfl | rfl | rfl | rfl | rfl | rfl | rfl | rfl | h | h | h | h
 ·exact f1 pre O
 ·intro N Q hQ;have U:Tm.raw (.mk 2 nm ot m ty re l) g n=some tInt:=by simp[Tm.raw]
  rw[U]at hQ;refine zf N a es c _ n Q λ_ _=>⟨_,rfl,?_⟩
  repeat' first|with_reducible intro _|simp only[Y1]|with_reducible refine X ?_ ?_|refine⟨_,_,_,rfl,?_⟩|refine⟨_,rfl,?_⟩|refine X0 ?_|refine SK _ _ ?_|fail
  all_goals first | (exfalso;omega) | skip
  exact hQ _ _ (by omega) (by assumption) (Own.mono (by assumption) (by omega) (by omega))
 ·intro N Q hQ;have U:Tm.raw (.mk 3 nm ot m ty re l) g n=some tBool:=by simp[Tm.raw]
  rw[U]at hQ;refine zf N a es c _ n Q λ_ _=>⟨_,rfl,?_⟩
  repeat' first|with_reducible intro _|simp only[Y1]|with_reducible refine X ?_ ?_|refine⟨_,_,_,rfl,?_⟩|refine⟨_,rfl,?_⟩|refine X0 ?_|refine KL _ _ ?_|fail
  all_goals first | (exfalso;omega) | skip
  exact hQ _ _ (by omega) (by assumption) (Own.mono (by assumption) (by omega) (by omega))
 ·exact f4 Y hh J I pre O
 ·exact f5 Y hh J I pre O
 ·exact f6 Y hh J I pre O
 ·exact f7 Y hh J I pre O
 ·exact f8 Y hh J I pre O
 ·exact f9 Y hh J I pre O
 all_goals
  intro N Q hQ;have hk:k=10\/k=11\/k=12\/k=13:=by omega
  refine zf N a es c _ n Q λ_ _=>⟨_,rfl,?_⟩
  repeat' first|with_reducible intro _|simp only[Y1]|with_reducible refine X ?_ ?_|refine⟨_,_,_,rfl,?_⟩|refine⟨_,rfl,?_⟩|refine X0 ?_|refine(fS hk Y hh J I pre O) _ _ ?_|fail
  all_goals first | (exfalso;omega) | skip
  exact hQ _ _ (by omega) (by assumption) (Own.mono (by assumption) (by omega) (by omega))
theorem X9 (e:Tm)(g:List Tg)(n:Int):tyZ e g n=if((e.raw g n).getD tZero).valid then(e.raw g n).getD tZero else tZero:=by
 rw[tyZ,Tm.type_eq];cases e.raw g n with
 | none=>rfl
 | some t=>simp only[vld,ob];split<;>rfl
theorem OG:∀(e:Tm),∀ d,e.Is d->∀ g es a c n,Pre g e n->Ctx g es->E8 55 [.sv a 4 es c,.dg 9 d,.j n] (tyZ e g n):=by
 refine Tm.ind λk nm ot m ty re l O d hd g es a c n pre I N Q J=>?_;have hs:=Qt hd O a c pre I;rw[X9]at J;have hc:((Tm.raw (.mk k nm ot m ty re l) g n).getD tZero).cnt<=64:=by
  cases h:Tm.raw (.mk k nm ot m ty re l) g n with
  | none=>simp[tZero,Ty.cnt,zN]
  | some t=>simpa using TW pre h
 generalize (Tm.raw (.mk k nm ot m ty re l) g n).getD tZero=z at *;refine Ni N a es c _ n Q λ_ _=>?_
 repeat' first|with_reducible intro _|simp only[Y1]|with_reducible refine X ?_ ?_|refine⟨_,_,_,rfl,?_⟩|refine⟨_,rfl,?_⟩|refine X0 ?_|refine hs _ _ ?_|refine(wB z _ (by assumption) (by omega)) _ _ ?_|fail
 all_goals first
  | exact J _ _ (by omega) (by rw[if_pos (by assumption)];assumption) (Own.mono (by assumption) (by omega) (by omega))
  | exact J _ _ (by omega) (by rw[if_neg (by simp[*])];exact xi) yZ
def zAy (f:FuncId)(args:List PV)(o:Option Ty):Prop:=∀(N:Nat) (Q:QT [.ag 2,.bool]),(∀ d N',N<=N'->(o.getD tZero).Is d->Own N N' d->Q d o.isSome N')->ACalls prog f [.ag 2,.bool] args N Q
theorem KE (I:Ctx g es)(hg:∀ x∈g,x.ty.cnt<=1073741824)(he:e.Is d)(hc:e.cnt<=1048576000 / 2)(a:Option Addr)(c:Nat)(n:Int):
  zAy 49 [.sv a 4 es c,.dg 9 d,.j n] (Jj g e n):=λN Q J=>by
 refine LK N a es c d n Q λ_ _=>?_;cases U:IG g with
 | false=>
   rw[Jj,if_neg (by simp[U])]at J
   repeat' first|with_reducible intro _|simp only[U,Y1]|with_reducible refine X ?_ ?_|refine⟨_,_,_,rfl,?_⟩|refine⟨_,rfl,?_⟩|refine X0 ?_|refine(pP I hg a c) _ _ ?_|fail
   exact J _ _ (by omega) xi yZ
 | true=>
   cases Y:s9 e n with
   | false=>
     rw[Jj,if_neg (by simp[Y])]at J
     repeat' first|with_reducible intro _|simp only[U,Y,Y1]|with_reducible refine X ?_ ?_|refine⟨_,_,_,rfl,?_⟩|refine⟨_,rfl,?_⟩|refine X0 ?_|refine(pP I hg a c) _ _ ?_|refine(pQ e d he (by omega) n) _ _ ?_|fail
     exact J _ _ (by omega) xi yZ
   | true=>
     rw[Jj,if_pos ⟨U,Y⟩]at J;have hz:=ro e g n
     repeat' first|with_reducible intro _|simp only[U,Y,Y1]|with_reducible refine X ?_ ?_|refine⟨_,_,_,rfl,?_⟩|refine⟨_,rfl,?_⟩|refine X0 ?_|refine(pP I hg a c) _ _ ?_|refine(pQ e d he (by omega) n) _ _ ?_|refine(OG e d he g es a c n (ZW U Y hc) I) _ _ ?_|fail
     rename_i hd ho _ _;rcases hz with⟨h3,h4⟩ | ⟨h3,h4⟩
     ·rw[h3]at J;rw[h4]at hd;obtain⟨a2,aa,c2,rfl,ab,ac⟩:=Ty.is_mk.1 hd
      repeat' first|with_reducible intro _|simp only[Y1]|with_reducible refine X ?_ ?_|refine⟨_,_,_,rfl,?_⟩|refine⟨_,rfl,?_⟩|refine X0 ?_|fail
      exact J _ _ (by omega) hd (Own.mono (by assumption) (by omega) (by omega))
     ·rw[h3]at J;have O:=Ty.valid_nz h4;generalize tyZ e g n=z at *;cases z with
      | mk k0 l0=>
      have ae:=hd;obtain⟨a2,aa,c2,rfl,ab,ac⟩:=Ty.is_mk.1 hd
      repeat' first|with_reducible intro _|simp only[Y1]|with_reducible refine X ?_ ?_|refine⟨_,_,_,rfl,?_⟩|refine⟨_,rfl,?_⟩|refine X0 ?_|fail
      have O:(bne k0 0)=true:=by simpa [Ty.k]using O
      rw[O];exact J _ _ (by omega) ae (Own.mono (by assumption) (by omega) (by omega))
mutual
def Tm.sz:Tm->Nat
 | .mk _ _ _ _ _ _ l=>1+yI l
def yI:List Tm->Nat
 | []=>0
 | t::I=>t.sz+yI I
end
mutual
theorem Tm.sz_cnt:∀ t:Tm,t.sz<=t.cnt
 | .mk _ _ _ _ ty re l=>by simp only[Tm.sz,Tm.cnt];have:=HQ l;omega
theorem HQ:∀ l:List Tm,yI l<=zG l
 | []=>oD _
 | t::I=>by simp only[yI,zG];have:=t.sz_cnt;have:=HQ I;omega
end
def s5 (k:Int):Bool:=inB k 1 5||k==8
mutual
def Tm.isB:Tm->Bool
 | .mk k _ _ _ _ _ l=>PB l&&s5 k
def PB:List Tm->Bool
 | []=>true
 | t::I=>t.isB&&PB I
end
def Tm.vd (t:Tm):Bool:=decide (t.sz<=80)&&decide (t.dp<=20)&&t.ok
theorem Cd:∀(t:Tm)(d:D),t.Is d->∀ n:Int,0<=n->n<=1000->pI 112 [.dg 9 d,.j n] (if(t.sz:Int)<=n then n - t.sz else -1):=by
 refine Tm.ind λk nm ot n0 ty re l ih d hd n ae ah N Q hQ=>?_;obtain⟨t0,t1,r0,r1,a,es,c,rfl,hh,U,Y⟩:=Tm.is_mk.1 hd;refine Lh N _ n Q λ_=>?_;have key:=up Y U (λi xs=>∀(m:Int) (N':Nat),N<=N' -> -1<=m->m<=1000->(∀ N'',N'<=N''->Q (if m<0 then -1 else if(yI xs:Int)<=m then m - yI xs else -1) N'') ->
  vi Q N m i (.ag [.j k,.t nm,.t ot,.j n0,t0,t1,r0,r1,.sl a 9 es c]) N') ?_ ?_
 ·rw[i64_in _ (by omega)];refine key (n - 1) N (oD _) (by omega) (by omega) λN' O=>Qi (hQ N' O) ?_;simp only[Tm.sz]
  (repeat' split)<;>omega
 ·intro i aa _ m N' O h1 h2 J;refine AA ?_
  repeat' first|with_reducible intro _|simp only[aa,Y1]|with_reducible refine X ?_ ?_|refine⟨_,_,_,rfl,?_⟩|refine⟨_,rfl,?_⟩|refine X0 ?_|fail
  refine Qi (J _ (by assumption)) ?_;simp only[yI]
  (repeat' split)<;>omega
 ·intro i x xs I _ ab m N' O h1 h2 J;have hb:=I.b;refine AA ?_
  repeat' first|with_reducible intro _|simp only[I.lt,I.w,oI,Y1]|with_reducible refine X ?_ ?_|refine⟨_,_,_,rfl,?_⟩|refine⟨_,rfl,?_⟩|refine X0 ?_|refine(ih x I.m _ I.r m (by omega) (by omega)) _ _ ?_|fail
  ·refine ab _ _ (by omega) (by split<;>omega) (by split<;>omega) λN'' ac=>Qi (J N'' (by omega)) ?_;simp only[yI]
   (repeat' split)<;>omega
  ·refine Qi (J _ (by assumption)) ?_;rw[if_pos (by omega)];omega
theorem ID:∀(t:Tm)(d:D),t.Is d->t.cnt<=1073741824->pI 113 [.dg 9 d] t.dp:=by
 refine Tm.ind λk nm ot n0 ty re l ih d hd hc N Q hQ=>?_;obtain⟨t0,t1,r0,r1,a,es,c,rfl,hh,J,U⟩:=Tm.is_mk.1 hd;refine IY N _ Q λ_=>?_;simp only[Tm.cnt]at hc;have ab:=DE l;have key:=up U J (λi xs=>∀(m:Nat) (N':Nat),N<=N'->max m (ut xs)=ut l->wq Q N (m:Int) i (.ag [.j k,.t nm,.t ot,.j n0,t0,t1,r0,r1,.sl a 9 es c]) N') ?_ ?_
 ·exact key 0 N (oD _) (by omega)
 ·intro i Y _ m N' O hm;simp only[ut]at hm;refine qo ?_
  repeat' first|with_reducible intro _|simp only[Y,Y1]|with_reducible refine X ?_ ?_|refine⟨_,_,_,rfl,?_⟩|refine⟨_,rfl,?_⟩|refine X0 ?_|fail
  rw[i64_in _ (by omega)];refine Qi (hQ _ (oP O (by assumption))) ?_;simp only[Tm.dp];omega
 ·intro i x xs I _ aa m N' O hm;have hb:=I.b;have ac:=yJ I.m;simp only[ut]at hm;refine qo ?_
  repeat' first|with_reducible intro _|simp only[I.lt,I.w,oI,Y1]|with_reducible refine X ?_ ?_|refine⟨_,_,_,rfl,?_⟩|refine⟨_,rfl,?_⟩|refine X0 ?_|refine(ih x I.m _ I.r (by omega)) _ _ ?_|refine(Ei _ _) _ _ ?_|fail
  have e:max (m:Int) (x.dp:Int)=((max m x.dp:Nat):Int):=by omega
  rw[e];exact aa _ _ (by omega) (by omega)
theorem CZ (t:Tm)(d:D)(hd:t.Is d)(hc:t.cnt<=1073741824):vM 60 [.dg 9 d] t.vd:=λN Q I=>by
 refine DR N _ Q λ_=>?_;by_cases O:t.sz<=80
 ·have J:((t.sz:Int)<=80):=by omega
  repeat' first|with_reducible intro _|simp only[if_pos J,Y1]|with_reducible refine X ?_ ?_|refine⟨_,_,_,rfl,?_⟩|refine⟨_,rfl,?_⟩|refine X0 ?_|refine(Cd t d hd _ (by omega) (by omega)) _ _ ?_|refine(ID t d hd hc) _ _ ?_|refine(CY t d hd hc) _ _ ?_|fail
  all_goals first | omega | skip
  ·have U:t.dp<=20:=by omega
   refine Qb (I _ (by omega)) ?_;simp[Tm.vd, *]
  ·have U:¬t.dp<=20:=by omega
   refine Qb (I _ (by omega)) ?_;simp[Tm.vd, *]
 ·have J:¬((t.sz:Int)<=80):=by omega
  repeat' first|with_reducible intro _|simp only[if_neg J,Y1]|with_reducible refine X ?_ ?_|refine⟨_,_,_,rfl,?_⟩|refine⟨_,rfl,?_⟩|refine X0 ?_|refine(Cd t d hd _ (by omega) (by omega)) _ _ ?_|fail
  all_goals first | omega | skip
  refine Qb (I _ (by omega)) ?_;simp[Tm.vd, *]
theorem MG:∀(t:Tm)(d:D),t.Is d->vM 61 [.dg 9 d] t.isB:=by
 refine Tm.ind λk nm ot n0 ty re l ih d hd N Q hQ=>?_;obtain⟨t0,t1,r0,r1,a,es,c,rfl,hh,O,U⟩:=Tm.is_mk.1 hd;refine Nl N _ Q λ_=>?_;have key:=up U O (λi xs=>∀(N':Nat),N<=N'->(∀ N'',N'<=N''->Q (PB xs&&s5 k) N'')->uU Q N i (.ag [.j k,.t nm,.t ot,.j n0,t0,t1,r0,r1,.sl a 9 es c]) N') ?_ ?_
 ·exact key N (oD _) hQ
 ·intro i Y _ N' aa J;refine BU ?_
  repeat' first|with_reducible intro _|simp only[Y,Y1]|with_reducible refine X ?_ ?_|refine⟨_,_,_,rfl,?_⟩|refine⟨_,rfl,?_⟩|refine X0 ?_|refine(xH _ _ _) _ _ ?_|fail
  all_goals(refine Qb (J _ (by omega)) ?_;simp[PB,s5, *])
 ·intro i x xs I _ ab N' aa J;have hb:=I.b;refine BU ?_
  repeat' first|with_reducible intro _|simp only[I.lt,I.w,oI,Y1]|with_reducible refine X ?_ ?_|refine⟨_,_,_,rfl,?_⟩|refine⟨_,rfl,?_⟩|refine X0 ?_|refine(ih x I.m _ I.r) _ _ ?_|fail
  ·refine Qb (J _ (by omega)) ?_;simp[PB, *]
  ·exact ab _ (by omega) λN'' h=>Qb (J N'' (by omega)) (by simp[PB, *])
theorem xG (l:List ByteArray)(hl:l.length<=4611686018427387904)(a:Option Addr)(c:Nat)(s:ByteArray):pI 111 [.sv a 0 (zD l) c,.str s] (Bg (λx=>decide (x=s)) l 0):=λN Q hQ=>by
 have O:=um l;have U:(zD l).length<=4611686018427387904:=by rw[O.len];exact hl
 refine IZ N a _ c s Q λ_=>?_;refine up O U (λi xs=>∀(N':Nat),N<=N'->(∀ N'',N'<=N''->Q (Bg (λx=>decide (x=s)) xs i) N'')->ws Q N a (zD l) c s i N') ?_ ?_ N (oD _) hQ
 ·intro i aa _ N' Y I;refine qp ?_
  repeat' first|with_reducible intro _|simp only[aa,Y1]|with_reducible refine X ?_ ?_|refine⟨_,_,_,rfl,?_⟩|refine⟨_,rfl,?_⟩|refine X0 ?_|fail
  exact I _ (by omega)
 ·intro i x xs J _ ab N' Y I;have hb:=J.b;have hr:=J.r;simp only[Bg]at I;refine qp ?_
  repeat' first|with_reducible intro _|simp only[J.lt,J.w,oI,hr,Y1]|with_reducible refine X ?_ ?_|refine⟨_,_,_,rfl,?_⟩|refine⟨_,rfl,?_⟩|refine X0 ?_|fail
  ·rename_i h _ _;subst h;exact Qi (I _ (by omega)) (by simp)
  ·rename_i h;exact ab _ Y λN'' h2=>Qi (I _ h2) (by rw[if_neg (by simpa using h)];simp)
def FM:List ByteArray->List Pm->Bool
 | _,[]=>true
 | seen,p::ps=>yk p.nm&&(p.ty.base&&(!(seen.any λx=>decide (x=p.nm))&&FM (seen++[p.nm]) ps))
def rB (g:List Pm):Bool:=FM [] g&&decide (g.length<=5)
theorem uS (l:List ByteArray)(s:ByteArray):zD l++[.t s]=zD (l++[s]):=by simp[zD]
theorem zj (l:List ByteArray):(zD l).length=l.length:=by simp[zD]
theorem FC {g:List Pm}(h:Pms g es)(hg:g.length<=1073741824)(a:Option Addr)(c:Nat):vM 59 [.sv a 4 es c] (rB g):=λN Q hQ=>by
 have hl:=h.all.len;refine FW N a es c Q λ_=>?_;have key:=up h.all h.len (λi xs=>∀(seen:List ByteArray) (q:Nat) (N':Nat),N<=N'->seen.length=i->(∀ N'',N'<=N''->Q (FM seen xs&&decide (g.length<=5)) N'')->xt Q N a es c (zD seen).length q i (zD seen) q N') ?_ ?_
 ·exact key [] 0 N (oD _) rfl hQ
 ·intro i O hi seen q N' U hs I;refine sY ?_;have e:(((zD seen).length:Nat):Int)=(g.length:Int):=by rw[zj];omega
  repeat' first|with_reducible intro _|simp only[O,e,Y1]|with_reducible refine X ?_ ?_|refine⟨_,_,_,rfl,?_⟩|refine⟨_,rfl,?_⟩|refine X0 ?_|fail
  refine Qb (I _ (by omega)) ?_;rw[FM,lB,mG,nh,nh];omega
 ·intro i x xs J _ Y seen q N' U hs I;have hb:=J.b;have hm:=J.m;obtain⟨t0,t1,hd,aa,ab⟩:=J.r;simp only[FM]at I;refine sY ?_
  repeat' first|with_reducible intro _|simp only[J.lt,J.w,oI,hd,Y1]|with_reducible refine X ?_ ?_|refine⟨_,_,_,rfl,?_⟩|refine⟨_,rfl,?_⟩|refine X0 ?_|refine(qC x.nm aa) _ _ ?_|refine(qB x.ty _ ab) _ _ ?_|refine(xG seen (by omega) _ _ x.nm) _ _ ?_|fail
  ·refine Qb (I _ (by omega)) ?_;simp[*]
  ·refine Qb (I _ (by omega)) ?_;simp[*]
  ·rename_i hx _ _
   have:=tE (λy=>decide (y=x.nm)) seen 0 (by omega)
   rw[mJ hx]at this;refine Qb (I _ (by omega)) ?_;rw[<-this];simp
  ·rename_i hx
   have:=tE (λy=>decide (y=x.nm)) seen 0 (by omega)
   rw[md hx]at this;refine⟨by unfold zA;rw[oK,zj];simp only[oJ,oN];omega,λc1=>?_⟩;rw[uS];refine Y (seen++[x.nm]) _ _ (by omega) (by simp[hs]) λN'' h=>Qb (I N'' (by omega)) ?_;rw[<-this];clear this;simp[*]
def xS (g:List Pm):List Tg:=g.map λp=>⟨p.nm,p.ty,0⟩
theorem tZ (g:List Pm):(xS g).length=g.length:=by simp[xS]
theorem Ca {g:List Pm}(h:Pms g es)(hg:g.length<=1073741824)(a:Option Addr)(c:Nat)(N:Nat)(Q:QT [.sl 4])(hQ:∀ a' es' c' N',N<=N'->Ctx (xS g) es'->Q a' es' c' N'):ACalls prog 25 [.sl 4] [.sv a 4 es c] N Q:=by
 have hl:=h.all.len;refine DV N a es c Q λ_=>?_;have key:=up h.all h.len (λi xs=>∀(done:List D) (q:Nat) (N':Nat),N<=N'->All2 Tg.Is ((xS g).take i) done->done.length=i->wF Q N a es c done.length q i done q N') ?_ ?_
 ·exact key [] 0 N (oD _) rfl rfl
 ·intro i U hi done q N' J hd hs;refine vp ?_;rw[oX (by rw[tZ];omega)]at hd
  repeat' first|with_reducible intro _|simp only[U,Y1]|with_reducible refine X ?_ ?_|refine⟨_,_,_,rfl,?_⟩|refine⟨_,rfl,?_⟩|refine X0 ?_|fail
  exact hQ _ _ _ _ (by omega) ⟨by omega,hd⟩
 ·intro i x xs I _ Y done q N' J hd hs;have hb:=I.b;have hm:=I.m;obtain⟨t0,t1,aa,ab,ac⟩:=I.r;refine vp ?_;have O:(xS g)[i]?=some ⟨x.nm,x.ty,0⟩:=by rw[xS,oG,I.g];rfl
  repeat' first|with_reducible intro _|simp only[I.lt,I.w,oI,aa,Y1]|with_reducible refine X ?_ ?_|refine⟨_,_,_,rfl,?_⟩|refine⟨_,rfl,?_⟩|refine X0 ?_|fail
  refine⟨by unfold zA;rw[oK];simp only[oJ,oN];omega,λc1=>?_⟩;exact Y _ _ _ J (by rw[zX O];exact hd.snoc ⟨_,_,rfl,ab,ac⟩) (by simp[hs])
def xW (g:List Pm)(e:Tm):Option Ty:=if rB g=true/\e.vd=true/\e.isB=true then e.type (xS g) 0 else none
theorem G6:∀ {g:List Pm}{seen:List ByteArray}{x:Pm},FM seen g=true->x∈g->yk x.nm=true/\x.ty.base=true
 | p::ps,seen,x,h,hx=>by
   simp only[FM,oE]at h;rcases oH.1 hx with rfl | hx
   ·exact⟨h.1,h.2.1⟩
   ·exact G6 h.2.2.2 hx
theorem Iy (h:t.base=true):t.valid=true/\t.cnt=1:=by
 cases t with
 | mk k l=>simp only[Ty.base,Ty.k,Ty.as,oE,nB,nF]at h;have I:l=[]:=oL (by omega);subst I;refine⟨?_,rfl⟩;simp only[Ty.valid,Ty.cnt,zN,Ty.dep,rq,Ty.form,uC,s7];rcases h.1 with rfl | rfl<;>decide
mutual
theorem OU:∀ t:Tm,t.isB=true->t.lev 0=true
 | .mk k _ _ _ _ _ l,h=>by
   simp only[Tm.isB,oE,s5,nB,za,nF]at h
   have e:zP k 0=0:=by unfold zP;rw[if_neg (by omega),if_neg (by omega)]
   simp only[Tm.lev,e,QO l h.1,Bool.and_true];decide
theorem QO:∀ l:List Tm,PB l=true->ui l 0=true
 | [],_=>rfl
 | t::I,h=>by
   simp only[PB,oE]at h
   simp only[ui,OU t h.1,QO I h.2,Bool.and_true]
end
theorem MN {g:List Pm}{x:Tg}(h:x∈xS g):∃ p∈g,x=⟨p.nm,p.ty,0⟩:=by obtain⟨p,I,rfl⟩:=oT.1 h;exact⟨p,I,rfl⟩
theorem PQ {g:List Pm}(J:rB g=true)(hv:e.vd=true)(O:e.isB=true)(hc:e.cnt<=536870000):Pre (xS g) e 0:=by
 simp only[rB,oE,oq]at J;simp only[Tm.vd,oE]at hv;refine⟨hv.2,OU e O,by rw[tZ];have:=e.dp_cnt;omega,λx hx=>?_⟩;obtain⟨p,I,rfl⟩:=MN hx
 have:=(Iy (G6 J.1 I).2).2
 show p.ty.cnt<=64;omega
theorem tY {g:List Pm}(h:Pms g es)(O:g.length<=1073741824)(J:e.Is d)(hc:e.cnt<=536870000)(a:Option Addr)(c:Nat):Yg 22 [.sv a 4 es c,.dg 9 d] (xW g e):=λN Q I=>by
 refine Hh N a es c d Q λ_ _=>?_
 repeat' first|with_reducible intro _|simp only[Y1]|with_reducible refine X ?_ ?_|refine⟨_,_,_,rfl,?_⟩|refine⟨_,rfl,?_⟩|refine X0 ?_|refine(FC h O a c) _ _ ?_|refine(CZ e d J (by omega)) _ _ ?_|refine(MG e d J) _ _ ?_|refine(Ca h O a c) _ _ ?_|fail
 ·rw[show xW g e=none by unfold xW;rw[if_neg (by simp[*])]]at I;exact I _ _ (by omega) (xm 0)
 ·rw[show xW g e=none by unfold xW;rw[if_neg (by simp[*])]]at I;exact I _ _ (by omega) (xm 0)
 ·rw[show xW g e=none by unfold xW;rw[if_neg (by simp[*])]]at I;exact I _ _ (by omega) (xm 0)
 ·have U:rB g=true:=by assumption
  have hv:e.vd=true:=by assumption
  have Y:e.isB=true:=by assumption
  rw[show xW g e=e.type (xS g) 0 by unfold xW;rw[if_pos ⟨U,hv,Y⟩]]at I;exact qF e d J _ _ _ _ _ (PQ U hv Y hc) (by assumption) _ _ λx N4 aa hx _ _ N5 ab=>I _ _ (by omega) hx
theorem KD:∀(t:Tm)(d:D),t.Is d->t.cnt<=1073741824->pI 97 [.dg 9 d] t.sz:=by
 refine Tm.ind λk nm ot n0 ty re l ih d hd hc N Q hQ=>?_;obtain⟨t0,t1,r0,r1,a,es,c,rfl,hh,J,O⟩:=Tm.is_mk.1 hd;simp only[Tm.cnt]at hc;have ab:=HQ l;refine LJ N _ Q λ_=>⟨_,_,_,rfl,?_⟩
 refine up O J (λi xs=>∀(m:Nat) (N':Nat),N<=N'->m+yI xs=1+yI l->vS Q N m a es c es.length i N') ?_ ?_ 1 N (oD _) rfl
 ·intro i U _ m N' Y hm;refine pc ?_;simp only[yI]at hm
  repeat' first|with_reducible intro _|simp only[U,Y1]|with_reducible refine X ?_ ?_|refine⟨_,_,_,rfl,?_⟩|refine⟨_,rfl,?_⟩|refine X0 ?_|fail
  exact Qi (hQ _ (by omega)) (by simp only[Tm.sz];omega)
 ·intro i x xs I _ aa m N' Y hm;have hb:=I.b;have ac:=yJ I.m;simp only[yI]at hm;refine pc ?_
  repeat' first|with_reducible intro _|simp only[I.lt,I.w,oI,Y1]|with_reducible refine X ?_ ?_|refine⟨_,_,_,rfl,?_⟩|refine⟨_,rfl,?_⟩|refine X0 ?_|refine(ih x I.m _ I.r (by omega)) _ _ ?_|fail
  rw[i64_in _ (by omega)];exact aa (m+x.sz) _ (by omega) (by omega)
theorem H7:∀(t:Tm)(d:D),t.Is d->t.cnt<=1073741824->pI 98 [.dg 9 d] t.dp:=by
 refine Tm.ind λk nm ot n0 ty re l ih d hd hc N Q hQ=>?_;obtain⟨t0,t1,r0,r1,a,es,c,rfl,hh,J,O⟩:=Tm.is_mk.1 hd;simp only[Tm.cnt]at hc;have ab:=DE l;refine IN N _ Q λ_=>⟨_,_,_,rfl,?_⟩
 refine up O J (λi xs=>∀(m:Nat) (N':Nat),N<=N'->max m (ut xs)=ut l->wn Q N m a es c es.length i N') ?_ ?_ 0 N (oD _) (by omega)
 ·intro i U _ m N' Y hm;refine qk ?_;simp only[ut]at hm
  repeat' first|with_reducible intro _|simp only[U,Y1]|with_reducible refine X ?_ ?_|refine⟨_,_,_,rfl,?_⟩|refine⟨_,rfl,?_⟩|refine X0 ?_|fail
  rw[i64_in _ (by omega)];exact Qi (hQ _ (by omega)) (by simp only[Tm.dp];omega)
 ·intro i x xs I _ aa m N' Y hm;have hb:=I.b;have ac:=yJ I.m;simp only[ut]at hm;refine qk ?_
  repeat' first|with_reducible intro _|simp only[I.lt,I.w,oI,Y1]|with_reducible refine X ?_ ?_|refine⟨_,_,_,rfl,?_⟩|refine⟨_,rfl,?_⟩|refine X0 ?_|refine(ih x I.m _ I.r (by omega)) _ _ ?_|fail
  have e:(if(x.dp:Int)>(m:Int)then(x.dp:Int)else(m:Int))=((max m x.dp:Nat):Int):=by split<;>omega
  rw[e];exact aa (max m x.dp) _ (by omega) (by omega)
theorem CW (t:Tm)(d:D)(hd:t.Is d)(hc:t.cnt<=1073741824):vM 48 [.dg 9 d] t.vd:=λN Q I=>by
 refine DK N _ Q λ_=>?_
 repeat' first|with_reducible intro _|simp only[Y1]|with_reducible refine X ?_ ?_|refine⟨_,_,_,rfl,?_⟩|refine⟨_,rfl,?_⟩|refine X0 ?_|refine(KB t d hd hc) _ _ ?_|refine(KD t d hd hc) _ _ ?_|refine(H7 t d hd hc) _ _ ?_|fail
 ·have J:t.sz<=80:=by omega
  refine Qb (I _ (by omega)) ?_;have:decide ((t.dp:Int)<=20)=decide (t.dp<=20):=by rw[mG,nh,nh];omega
  simp[Tm.vd, *]
 ·have J:¬t.sz<=80:=by omega
  refine Qb (I _ (by omega)) ?_;simp[Tm.vd, *]
 ·refine Qb (I _ (by omega)) ?_;simp[Tm.vd, *]
theorem L8 (t:Tm)(d:D)(hd:t.Is d):vM 45 [.dg 9 d] (match t with | .mk k _ _ _ _ _ _=>s5 k):=λN Q J=>by
 cases t with
 | mk k nm ot n0 ty re l=>
 obtain⟨t0,t1,r0,r1,a,es,c,rfl,U,I,O⟩:=Tm.is_mk.1 hd;refine EO N _ Q λ_=>?_
 repeat' first|with_reducible intro _|simp only[Y1]|with_reducible refine X ?_ ?_|refine⟨_,_,_,rfl,?_⟩|refine⟨_,rfl,?_⟩|refine X0 ?_|refine(yN _ _ _) _ _ ?_|fail
 all_goals(refine Qb (J _ (by omega)) ?_;simp[s5, *])
theorem E9 {p:Tm->Bool}(h:All2 Tm.Is l es)(O:es.length<=4611686018427387904)(ad:Addr)(hp:∀ x∈l,∀ d,x.Is d->vM 91 [.dg 9 d,.pd ad 0 (.fn 45 [])] (p x))(a:Option Addr)(c:Nat):
  vM 90 [.sv a 9 es c,.fn 91 [.pd ad 0 (.fn 45 [])]] (l.any p):=λN Q U=>by
 have hi:pI 143 [.sv a 9 es c,.fn 91 [.pd ad 0 (.fn 45 [])]] (Bg p l 0):=λN Q U=>by
  refine t8 N a es c ad Q λ_=>?_;refine up h O (λi xs=>∀(N':Nat),N<=N'->(∀ N'',N'<=N''->Q (Bg p xs i) N'')->yA Q N a es c ad es.length i N') ?_ ?_ N (oD _) U
  ·intro i Y _ N' aa I;refine wY ?_
   repeat' first|with_reducible intro _|simp only[Y,Y1]|with_reducible refine X ?_ ?_|refine⟨_,_,_,rfl,?_⟩|refine⟨_,rfl,?_⟩|refine X0 ?_|fail
   exact I _ (by omega)
  ·intro i x xs J _ ab N' aa I;have hb:=J.b;simp only[Bg]at I;refine wY ?_
   repeat' first|with_reducible intro _|simp only[J.lt,J.w,oI,Y1]|with_reducible refine X ?_ ?_|refine⟨_,_,_,rfl,?_⟩|refine⟨_,rfl,?_⟩|refine X0 ?_|refine(hp x J.m _ J.r) _ _ ?_|fail
   ·exact Qi (I _ (by omega)) (by rw[if_pos (by assumption)])
   ·rename_i h;exact ab _ (by omega) λN'' h2=>Qi (I _ (by omega)) (by rw[h];simp)
 refine uk N a es c ad Q λ_=>?_
 repeat' first|with_reducible intro _|simp only[Y1]|with_reducible refine X ?_ ?_|refine⟨_,_,_,rfl,?_⟩|refine⟨_,rfl,?_⟩|refine X0 ?_|refine hi _ _ ?_|fail
 exact Qb (U _ (by omega)) (tE _ l 0 (by omega)).symm
theorem QM:∀ l:List Tm,PB l=!(l.any λx=>!x.isB)
 | []=>rfl
 | t::I=>by simp only[PB,mv,QM I];cases t.isB<;>simp
theorem OC:∀(t:Tm)(d:D),t.Is d->vM 44 [.dg 9 d,.fn 45 []] t.isB:=by
 refine Tm.ind λk nm ot n ty re l Y d hd N Q J=>?_;have U:=L8 _ d hd;obtain⟨t0,t1,r0,r1,a,es,c,rfl,hh,I,O⟩:=Tm.is_mk.1 hd;simp only at U;refine Bq N _ Q λ_=>?_;simp only[Tm.isB,QM]at J
 repeat' first|with_reducible intro _|simp only[Y1]|with_reducible refine X ?_ ?_|refine⟨_,_,_,rfl,?_⟩|refine⟨_,rfl,?_⟩|refine X0 ?_|refine U _ _ ?_|refine(E9 O I _ (λx hx d hd=>λN Q J=>AU N d _ Q λ_ N1 aa=>Y x hx d hd N1 _ λN2 ab ac N3 ae=>J N3 (by omega)) _ _) _ _ ?_|fail
 all_goals(refine Qb (J _ (by omega)) ?_;simp[*])
theorem H8 (l:List ByteArray)(I:l.length<=4611686018427387904)(a:Option Addr)(c:Nat)(s:ByteArray):pI 95 [.sv a 0 (zD l) c,.str s] (Bg (λx=>decide (s=x)) l 0):=λN Q J=>by
 refine qIo N a _ c s Q λ_=>?_
 repeat' first|with_reducible intro _|simp only[Y1]|with_reducible refine X ?_ ?_|refine⟨_,_,_,rfl,?_⟩|refine⟨_,rfl,?_⟩|refine X0 ?_|refine(GJ l I a c s) _ _ ?_|fail
 exact J _ (by omega)
def sE (g:List Pm):List ByteArray:=g.map (·.nm)
theorem Mt (g:List Pm):(sE g).length=g.length:=by simp[sE]
theorem ME {g:List Pm}(h:Pms g es)(hg:g.length<=1073741824)(a:Option Addr)(c:Nat)(N:Nat)(Q:QT [.sl 0])(hQ:∀ a' c' N',N<=N'->Q a' (zD (sE g)) c' N'):ACalls prog 92 [.sl 0] [.sv a 4 es c] N Q:=by
 have hl:=h.all.len;refine ES N a es c Q λ_=>?_;have key:=up h.all h.len (λi xs=>∀(q:Nat) (N':Nat),N<=N'->xa Q N (zD ((sE g).take i)).length q a es c es.length i (zD ((sE g).take i)) q N') ?_ ?_
 ·exact key 0 N (oD _)
 ·intro i U hi q N' J;refine tj ?_;rw[oX (by rw[Mt];omega)]
  repeat' first|with_reducible intro _|simp only[U,Y1]|with_reducible refine X ?_ ?_|refine⟨_,_,_,rfl,?_⟩|refine⟨_,rfl,?_⟩|refine X0 ?_|fail
  exact hQ _ _ _ (by omega)
 ·intro i x xs I _ Y q N' J;have hb:=I.b;have hm:=I.m;obtain⟨t0,t1,aa,ab,ac⟩:=I.r;refine tj ?_;have O:(sE g)[i]?=some x.nm:=by rw[sE,oG,I.g];rfl
  repeat' first|with_reducible intro _|simp only[I.lt,I.w,oI,aa,Y1]|with_reducible refine X ?_ ?_|refine⟨_,_,_,rfl,?_⟩|refine⟨_,rfl,?_⟩|refine X0 ?_|fail
  refine⟨by unfold zA;rw[oK,zj,nC];simp only[oJ,oN];omega,λc1=>?_⟩;rw[uS,<-zX O];exact Y _ _ J
theorem JD {α:Type}(p:α->Bool)(s:α)(hs:p s=true)(rest:List α):∀(seen:List α)(k:Int),(Bg p (seen++s::rest) k=k+seen.length↔seen.any p=false)/\Bg p (seen++s::rest) k≥k
 | [],k=>by simp[Bg,hs]
 | x :: seen,k=>by
   have I:=JD p s hs rest seen (k+1);simp only[nE,Bg,mv,oJ];cases hx:p x with
   | true=>simp;omega
   | false=>simp only[mI,nQ,Bool.false_or];refine⟨?_,by omega⟩;rw[<-I.1];constructor<;>intro h<;>omega
theorem Ud (l:List ByteArray):(l.any λx=>decide (s=x))=l.any λx=>decide (x=s):=by
 induction l with
 | nil=>rfl
 | cons x l I=>simp only[mv,I,eq_comm]
theorem FA {g:List Pm}(h:Pms g es)(hg:g.length<=1073741824)(a:Option Addr)(c:Nat):vM 47 [.sv a 4 es c] (rB g):=λN Q hQ=>by
 have hl:=h.all.len;refine FQ N a es c Q λ_=>?_;have ao:=Mt g;have key:=λ(h5:g.length<=5) a3 c3 (N2:Nat) (aq:N<=N2)=>up h.all h.len (λi xs=>∀(N':Nat),N2<=N'->(∀ N'',N'<=N''->Q (FM ((sE g).take i) xs) N'')->xr Q N a3 (zD (sE g)) c3 a es c es.length i N') ?_ ?_
 ·repeat' first|with_reducible intro _|simp only[Y1]|with_reducible refine X ?_ ?_|refine⟨_,_,_,rfl,?_⟩|refine⟨_,rfl,?_⟩|refine X0 ?_|refine(ME h hg a c) _ _ ?_|fail
  ·refine Qb (hQ _ (by omega)) ?_;have:¬g.length<=5:=by omega
   simp[rB,this]
  ·have h5:g.length<=5:=by omega
   refine key h5 _ _ _ ?_ _ (oD _) λN'' am=>Qb (hQ N'' ?_) ?_
   all_goals first | omega | skip
   simp[rB,h5]
 ·intro i aa hi N' ae I;refine sW ?_
  repeat' first|with_reducible intro _|simp only[aa,Y1]|with_reducible refine X ?_ ?_|refine⟨_,_,_,rfl,?_⟩|refine⟨_,rfl,?_⟩|refine X0 ?_|fail
  refine Qb (I _ (by omega)) ?_;simp[FM]
 ·intro i x xs J _ ah N' ae I;have hb:=J.b;have hm:=J.m;obtain⟨t0,t1,ai,aj,ak⟩:=J.r;simp only[FM]at I;have O:(sE g)[i]?=some x.nm:=by rw[sE,oG,J.g];rfl
  have U:=(JD (λy=>decide (x.nm=y)) x.nm (by simp) ((sE g).drop (i+1)) ((sE g).take i) 0).1;have ab:(sE g).take i++x.nm::(sE g).drop (i+1)=sE g:=by
   have aa:i<(sE g).length:=(oC.1 O).1
   have:=(oC.1 O).2
   rw[<-this,mi,nu]
  rw[ab,nC,Ud]at U;have ac:min i (sE g).length=i:=by omega
  rw[ac]at U;refine sW ?_
  repeat' first|with_reducible intro _|simp only[J.lt,J.w,oI,ai,Y1]|with_reducible refine X ?_ ?_|refine⟨_,_,_,rfl,?_⟩|refine⟨_,rfl,?_⟩|refine X0 ?_|refine(tB x.nm aj) _ _ ?_|refine(r9 x.ty _ ak) _ _ ?_|refine(H8 (sE g) (by omega) _ _ x.nm) _ _ ?_|fail
  ·refine Qb (I _ (by omega)) ?_;simp[*]
  ·refine Qb (I _ (by omega)) ?_;simp[*]
  ·rename_i hx _ _;have Y:¬((sE g).take i).any (λy=>decide (y=x.nm))=false:=λhc=>by have:=U.2 hc;omega
   have al:((sE g).take i).any (λy=>decide (y=x.nm))=true:=by simpa using Y
   refine Qb (I _ (by omega)) ?_;rw[al];simp
  ·rename_i hx;have Y:((sE g).take i).any (λy=>decide (y=x.nm))=false:=U.1 (by omega);refine ah _ (by omega) λN'' h2=>Qb (I N'' (by omega)) ?_;rw[Y,zX O];simp[*]
theorem P3 {N' M:Nat}(O:wm M [a])(h:Own N N' d)(U:M<=N):Off [a] d:=λb I ad J hc=>by
 have:=h.lo _ hc
 have:=O b I ad J
 omega
theorem U1 {g:List Pm}(I:rB g=true):IG (xS g)=true:=by
 simp only[rB,oE,oq]at I;simp only[IG,oE,oq,tZ];refine⟨?_,by omega⟩;have:∀ l:List Pm,(∀ x∈l,yk x.nm=true/\x.ty.base=true)->NJ (xS l)=true:=by
  intro l
  induction l with
  | nil=>intro _;rfl
  | cons p l U=>intro h;have J:=h p (by simp);have O:=U λx hx=>h x (by simp[hx]);simp only[xS]at O;simp only[xS,oZ,NJ,Tg.ok,oE,O,and_true];exact⟨J.1,(Iy J.2).1,by decide⟩
 exact this g λx hx=>G6 I.1 hx
theorem R3 {g:List Pm}(J:rB g=true)(hv:e.vd=true)(O:e.isB=true):xW g e=Jj (xS g) e 0:=by have I:=hv;simp only[Tm.vd,oE]at I;rw[xW,if_pos ⟨J,hv,O⟩,Jj,if_pos ⟨U1 J,by simp[s9,I.2,OU e O]⟩]
theorem GL {g:List Pm}(h:Pms g es)(hg:g.length<=1073741824)(ab:∀ x∈g,x.ty.cnt<=1073741824)(he:e.Is d)(hc:e.cnt<=1048576000 / 2)(a:Option Addr)(c:Nat):zAy 18 [.sv a 4 es c,.dg 9 d] (xW g e):=λN Q J=>by
 have hl:=h.all.len;refine Ha N a es c d Q λ_ _=>?_;have key:=λ(hp:rB g=true) (hv:e.vd=true) (hb:e.isB=true)=>up h.all h.len (λi xs=>∀(done:List D) (q:Nat) (N':Nat),N<=N'->All2 Tg.Is ((xS g).take i) done->done.length=i->wO Q N done.length q a es c es.length i d 0 none [] 0 done q N') ?_ ?_
 ·repeat' first|with_reducible intro _|simp only[Y1]|with_reducible refine X ?_ ?_|refine⟨_,_,_,rfl,?_⟩|refine⟨_,rfl,?_⟩|refine X0 ?_|refine(OC e d he) _ _ ?_|refine(FA h hg a c) _ _ ?_|refine(CW e d he (by omega)) _ _ ?_|fail
  ·rw[show xW g e=none by unfold xW;rw[if_neg (by simp[*])]]at J;exact J _ _ (by omega) (xm 0) yZ
  ·rw[show xW g e=none by unfold xW;rw[if_neg (by simp[*])]]at J;exact J _ _ (by omega) (xm 0) yZ
  ·rw[show xW g e=none by unfold xW;rw[if_neg (by simp[*])]]at J;exact J _ _ (by omega) (xm 0) yZ
  ·exact key (by assumption) (by assumption) (by assumption) [] 0 _ (by omega) rfl rfl
 ·intro i ac hi done q N' O hd hs;refine rT ?_;rw[oX (by rw[tZ];omega)]at hd;rw[R3 hp hv hb]at J;have ae:∀ x∈xS g,x.ty.cnt<=1073741824:=λx hx=>by obtain⟨p,ah,rfl⟩:=MN hx;exact ab p ah
  repeat' first|with_reducible intro _|simp only[ac,Y1]|with_reducible refine X ?_ ?_|refine⟨_,_,_,rfl,?_⟩|refine⟨_,rfl,?_⟩|refine X0 ?_|fail
  rename_i ad ao aq N1 au U;refine KE ⟨by omega,hd⟩ ae he hc ad q 0 N1 _ λx N2 aw hx Y _=>?_;exact⟨P3 U Y (oD _),λ_ N3 ai=>J _ _ (by omega) hx (Y.mono (by omega) ai)⟩
 ·intro i x xs I _ aj done q N' O hd hs;have hb:=I.b;have hm:=I.m;obtain⟨t0,t1,ak,al,am⟩:=I.r;refine rT ?_;have aa:(xS g)[i]?=some ⟨x.nm,x.ty,0⟩:=by rw[xS,oG,I.g];rfl
  repeat' first|with_reducible intro _|simp only[I.lt,I.w,oI,ak,Y1]|with_reducible refine X ?_ ?_|refine⟨_,_,_,rfl,?_⟩|refine⟨_,rfl,?_⟩|refine X0 ?_|fail
  refine⟨by unfold zA;rw[oK];simp only[oJ,oN];omega,λc1=>?_⟩;exact aj _ _ _ O (by rw[zX aa];exact hd.snoc ⟨_,_,rfl,al,am⟩) (by simp[hs])
abbrev Bd:=ByteArray × Bool
def bdD (b:Bd):D:=.ag [.t b.1,.lit (.bool b.2)]
def s8 (nm:ByteArray)(v:List Bd):Option Bool:=(v.reverse.find? λp=>decide (p.1=nm)).map (·.2)
theorem xo {v:List Bd}{b:Bd}:s8 nm (v++[b])=if b.1=nm then some b.2 else s8 nm v:=by unfold s8;rw[lM];by_cases h:b.1=nm<;>simp[h]
mutual
def Tm.late:Tm->List Bd->Bool
 | .mk k nm _ _ _ _ l,v=>if k=1 then(s8 nm v).getD (xg l v)else if k=8 then HN l nm v else xg l v
def xg:List Tm->List Bd->Bool
 | [],_=>false
 | t::I,v=>t.late v||xg I v
def HN:List Tm->ByteArray->List Bd->Bool
 | [],_,_=>false
 | t::I,nm,v=>t.late v||xg I (v++[(nm,t.late v)])
end
def Z3 (f:FuncId)(args:List PV)(v:List Bd):Prop:=∀(N:Nat) (Q:QT [.sl 2]),(∀ a c N',N<=N'->Q a (v.map bdD) c N')->ACalls prog f [.sl 2] args N Q
theorem GQ (v:List Bd)(hv:v.length<=1073741824)(a:Option Addr)(c:Nat)(s:ByteArray)(b:Bool):Z3 116 [.sv a 2 (v.map bdD) c,.str s,.bool b] (v++[(s,b)]):=λN Q I=>by
 refine Ij N a _ c s b Q λ_=>⟨⟨rfl,rfl⟩,?_,λc1=>⟨⟨rfl,rfl⟩,?_,λJ=>⟨⟨rfl,rfl⟩,⟨rfl,rfl⟩,λO N1 U _ N2 Y=>?_⟩⟩⟩
 ·unfold zA;simp;omega
 ·unfold zA;simp;omega
 ·have:=I O J N2 (by omega)
  rw[mF]at this;exact this
def wE (g:List Pm):List Bd:=g.map λp=>(p.nm,p.dy)
theorem MW (g:List Pm):(wE g).length=g.length:=by simp[wE]
theorem Uo {g:List Pm}(h:Pms g es)(hg:g.length<=1073741824)(a:Option Addr)(c:Nat):Z3 122 [.sv a 4 es c] (wE g):=λN Q hQ=>by
 have hl:=h.all.len;refine LY N a es c Q λ_=>?_;have key:=up h.all h.len (λi xs=>∀(q:Nat) (N':Nat),N<=N'->vX Q N a es c ((wE g).take i).length q i (((wE g).take i).map bdD) q N') ?_ ?_
 ·exact key 0 N (oD _)
 ·intro i ab hi q N' U;refine pw ?_;rw[oX (by rw[MW];omega)];have O:((wE g).map bdD).length=(wE g).length:=by simp
  repeat' first|with_reducible intro _|simp only[ab,O,Y1]|with_reducible refine X ?_ ?_|refine⟨_,_,_,rfl,?_⟩|refine⟨_,rfl,?_⟩|refine X0 ?_|fail
  exact hQ _ _ _ (by omega)
 ·intro i x xs I _ ac q N' U;have hb:=I.b;have hm:=I.m;obtain⟨t0,t1,ae,ah,ai⟩:=I.r;refine pw ?_;have Y:(wE g)[i]?=some (x.nm,x.dy):=by rw[wE,oG,I.g];rfl
  have O:(((wE g).take i).map bdD).length=((wE g).take i).length:=by simp
  have aa:((wE g).take i).map bdD++[D.ag [.t x.nm,.lit (.bool x.dy)]]=((wE g).take (i+1)).map bdD:=by rw[zX Y,mF];rfl
  have J:(((wE g).take (i+1)).map bdD).length=((wE g).take (i+1)).length:=by simp
  have aj:((wE g).take (i+1)).length<=i+1:=by rw[nC];omega
  repeat' first|with_reducible intro _|simp only[I.lt,I.w,oI,ae,O,nj,eq_self,Y1]|with_reducible refine X ?_ ?_|refine⟨_,_,_,rfl,?_⟩|refine⟨_,rfl,?_⟩|refine X0 ?_|fail
  refine⟨by unfold zA;rw[aa,J];omega,λc1=>?_⟩;rw[aa,J];exact ac _ _ U
theorem Yo {v:List Bd}{i:Nat}{b:Bd}(h:v[i]?=some b):(v.map bdD).getD i default=bdD b:=by simp[oB,h]
theorem uj (h:All2 Tm.Is l es)(O:(l.length:Int)=2):∃ I J d0 d1,l=[I,J]/\es=[d0,d1]/\I.Is d0/\J.Is d1:=by
 have he:=h.len
 match l,es,h with
 | [I,J],es,⟨d0,ds,e1,U,d1,Y,e2,h1,e3⟩=>subst e3;subst e2;subst e1;exact⟨I,J,d0,d1,rfl,rfl,U,h1⟩
 | [],_,_=>simp at O
 | [_],_,_=>simp at O
 | _::_::_::_,_,_=>simp at O;omega
theorem yo:∀ {l:List Tm}{x:Tm},PB l=true->x∈l->x.isB=true
 | t::I,x,h,hx=>by
   simp only[PB,oE]at h;rcases oH.1 hx with rfl | hx
   ·exact h.1
   ·exact yo h.2 hx
theorem t3 (h:All2 Tm.Is l es)(I:(l.length:Int)=3):∃ J O U d0 d1 d2,l=[J,O,U]/\es=[d0,d1,d2]/\J.Is d0/\O.Is d1/\U.Is d2:=by
 match l,es,h with
 | [J,O,U],es,⟨d0,ds,e1,Y,d1,aa,e2,h1,d2,ab,e3,h2,e4⟩=>subst e4;subst e3;subst e2;subst e1;exact⟨J,O,U,d0,d1,d2,rfl,rfl,Y,h1,h2⟩
 | [],_,_=>simp at I
 | [_],_,_=>simp at I
 | [_,_],_,_=>simp at I
 | _::_::_::_::_,_,_=>simp at I;omega
theorem Tm.cnt_pos (t:Tm):1<=t.cnt:=by cases t;simp only[Tm.cnt];omega
theorem rI:∀(t:Tm)(d:D),t.Is d->t.ok=true->∀(v:List Bd)(a:Option Addr)(c:Nat),v.length+t.cnt<=1073741824->vM 65 [.dg 9 d,.sv a 2 (v.map bdD) c] (t.late v):=by
 refine Tm.ind λk nm ot n0 ty re l ih d hd ai v a c hc N Q J=>?_;obtain⟨t0,t1,r0,r1,a1,es,c1,rfl,hh,ab,ac⟩:=Tm.is_mk.1 hd;have node:=zT ai;simp only[Tm.cnt]at hc;have aj:(v.map bdD).length=v.length:=by simp
 have parts:∀(Q:QT [.bool]) (N0:Nat) (N1:Nat),(∀ N',N1<=N'->Q (xg l v) N')->ye Q N0 a (v.map bdD) c 0 (.ag [.j k,.t nm,.t ot,.j n0,t0,t1,r0,r1,.sl a1 9 es c1]) N1:=by
  intro Q N0 N1 J;refine up ac ab (λi xs=>∀(N':Nat),N1<=N'->(∀ N'',N'<=N''->Q (xg xs v) N'')->ye Q N0 a (v.map bdD) c i (.ag [.j k,.t nm,.t ot,.j n0,t0,t1,r0,r1,.sl a1 9 es c1]) N') ?_ ?_ N1 (oD _) J
  ·intro i aa _ N' ak O;refine rZ ?_
   repeat' first|with_reducible intro _|simp only[aa,Y1]|with_reducible refine X ?_ ?_|refine⟨_,_,_,rfl,?_⟩|refine⟨_,rfl,?_⟩|refine X0 ?_|fail
   exact O _ (by omega)
  ·intro i x xs I _ al N' ak O;have hb:=I.b;have aq:=yJ I.m;simp only[xg]at O;refine rZ ?_
   repeat' first|with_reducible intro _|simp only[I.lt,I.w,oI,Y1]|with_reducible refine X ?_ ?_|refine⟨_,_,_,rfl,?_⟩|refine⟨_,rfl,?_⟩|refine X0 ?_|refine(ih x I.m _ I.r (node.sub x I.m) v a c (by omega)) _ _ ?_|fail
   ·rename_i h _ _;exact Qb (O _ (by omega)) (by rw[h];rfl)
   ·rename_i h;exact al _ (by omega) λN'' h2=>Qb (O N'' (by omega)) (by rw[h];rfl)
 have look:∀(hk:k=1) (i:Nat),i<=v.length->∀ N1,N<=N1->(∀ N',N1<=N'->Q ((s8 nm (v.take i)).getD (xg l v)) N')->wv Q N a (v.map bdD) c ((i:Int) - 1) (.ag [.j k,.t nm,.t ot,.j n0,t0,t1,r0,r1,.sl a1 9 es c1]) N1:=by
  intro hk i
  induction i with
  | zero=>
    intro hi N1 ae U;refine qu ?_;have e:decide (((0:Nat):Int) - 1≥0)=false:=by simp
    repeat' first|with_reducible intro _|simp only[e,Y1]|with_reducible refine X ?_ ?_|refine⟨_,_,_,rfl,?_⟩|refine⟨_,rfl,?_⟩|refine X0 ?_|fail
    exact parts Q N N1 λN' h=>Qb (U N' h) rfl
  | succ i am=>
    intro hi N1 ae U;have aa:i<v.length:=by omega
    have hg:v[i]?=some v[i]:=oF aa;have ao:=Yo hg;refine qu ?_;have e0:(((i+1:Nat):Int) - 1)=(i:Int):=by omega
    have e:decide ((i:Int)≥0)=true:=mJ (by omega);have ew:IntKind.i64.wrap ((i:Int) - 1)=(i:Int) - 1:=i64_in _ (by omega);rw[e0];rw[zX hg,xo]at U
    repeat' first|with_reducible intro _|simp only[e,ew,oI,ao,bdD,nj,eq_self,Y1]|with_reducible refine X ?_ ?_|refine⟨_,_,_,rfl,?_⟩|refine⟨_,rfl,?_⟩|refine X0 ?_|fail
    ·rename_i hs _ _;exact Qb (U _ (by omega)) (by rw[if_pos hs];rfl)
    ·rename_i hs;exact am (by omega) N1 (by omega) λN' h=>Qb (U N' h) (by rw[if_neg hs])
 refine Ii N _ a _ c Q λ_ _=>?_;simp only[Tm.late]at J;refine⟨_,rfl,Br.beq (λhk=>?_) λhk=>Br.beq (λY=>?_) λY=>?_⟩
 ·rw[if_pos hk]at J;rw[aj,i64_in _ (by omega)];exact look hk v.length (oD _) N (oD _) (by rw[lA];exact J)
 ·rw[if_neg hk,if_pos Y]at J;have ah:=node.ar;subst Y;rw[show sA 8 nm=2 from rfl]at ah;obtain⟨x0,x1,d0,d1,rfl,rfl,h0,h1⟩:=uj ac ah;simp only[zG]at hc;simp only[HN,xg,Bool.or_false]at J;have au:=x0.cnt_pos;refine⟨_,_,_,rfl,⟨by omega,by simp⟩,λN1 ae=>?_⟩;refine ih x0 (by simp) d0 h0 (node.sub _ (by simp)) v a c (by omega) N1 _ λN2 aw _=>Br.of (λhb N3 ax=>?_) λhb=>?_
  ·exact Qb (J _ (by omega)) (by rw[hb];rfl)
  ·refine⟨_,_,_,rfl,⟨by omega,by simp⟩,_,rfl,λN4 ay=>?_⟩;refine GQ v (by omega) a c nm _ N4 _ λa2 c2 N5 az _ _ N6 a0=>?_;refine ih x1 (by simp) d1 h1 (node.sub _ (by simp)) _ a2 c2 (by simp;omega) N6 _ λN7 a3 _ N8 a4=>?_;exact Qb (J _ (by omega)) (by rw[hb];simp)
 ·rw[if_neg hk,if_neg Y]at J;exact parts Q N N J
theorem tX {g:List Pm}(h:(xW g e).isSome=true):rB g=true/\e.vd=true/\e.isB=true:=by
 unfold xW at h;split at h
 ·assumption
 ·cases h
theorem Zq (h:e.vd=true):e.ok=true:=by simp only[Tm.vd,oE]at h;exact h.2
open Go Go.RowKit
theorem UN {F:Fence} {n:Nat} {P:Program} {g:Operand} {ps:Array Tmp} {assign body:Code} {Q:Exit->Act->World->Prop} {a:Act} {w:World}
  (hro:F.round=none) (h1:1<=n) {gf:Nat} {lb:Array Value} (hg:a.eval g=.func (.func gf) #[] lb) (hFg:F.fn gf) (eg:∀ args w,(callFunc gf args).run P w=.ok (.enter gf args) w)
  {vals:Nat->Array Value} {len:Nat} (hps:∀ i,(vals i).size=ps.size)
  (I Ix:Nat->World->Prop)
  (hIp:∀ i W r r',W.heap[w.heap.size+1]?=some (.loop r)->I i W->I i (W.putObj (w.heap.size+1) (.loop r')))
  (hIxp:∀ i W r r',W.heap[w.heap.size+1]?=some (.loop r)->Ix i W->Ix i (W.putObj (w.heap.size+1) (.loop r')))
  (hI0:∀ r,I 0 ((w.alloc (.deferred (some []))).alloc (.loop r)))
  (hseq:∀(l:Nat) (J Jx:Nat->World->Prop) (W:World),(∀ i W,J i W->I i W)->J 0 W->(∀ i W,i<len->J i W->YieldAt F (n - 1 - 1) P l (vals i) W fun e W'=>(e=.returned (.bool true)/\J (i+1) W')\/(e=.returned (.bool false)/\Jx (i+1) W')) ->
   CallsIn F (n - 1) P gf (#[.func (.yield l) #[] #[]]++lb) W fun e W'=>(∃ v,e=.returned v)/\(J len W'\/∃ k,k<=len/\Jx k W'))
  (hround:∀(i:Nat) (W:World) (r0:Loop),i<len->I i W->W.heap[w.heap.size+1]?=some (.loop r0)->W.heap[w.heap.size]?=some (.deferred (some [])) ->
   assign.wpIn (F.inRound (w.heap.size+1)) (n - 1 - 1) P (Exit.then (fun a₁ W1=>W1.heap[w.heap.size+1]?=W.heap[w.heap.size+1]?/\W1.heap[w.heap.size]?=W.heap[w.heap.size]? /\
    ∀ r,body.wpIn (F.inRound (w.heap.size+1)) (n - 1 - 1) P (fun e _ W3=>W3.heap[w.heap.size+1]?=some (.loop r)/\W3.heap[w.heap.size]?=some (.deferred (some []))/\match e with
      | .normal=>I (i+1) W3
      | .ret=>Ix (i+1) W3
      | _=>False) a₁ (W1.putObj (w.heap.size+1) (.loop r))) (fun _ _ _=>False))
    { tmps:=(ps.zip (vals i)).foldl (fun t (p,v)=>t.setIfInBounds p v) a.tmps,defers:=[] } W)
  (hdone:∀ W,I len W->W.heap[w.heap.size]?=some (.deferred (some []))->Q .normal { a with defers:={ target:=.collected w.heap.size,args:=#[] }::a.defers } W)
  (hstop:∀ k W,k<=len->Ix k W->W.heap[w.heap.size]?=some (.deferred (some []))->Q .ret { a with defers:={ target:=.collected w.heap.size,args:=#[] }::a.defers } W) :
  (Code.rangeFunc g ps assign body).wpIn F n P Q a w:=by
 refine wpIn_rangeFunc ?_;intro fn hfn;rw[hro];obtain⟨rec,hrec⟩:∃ rec:LoopState->Option Code->Loop,rec=fun st pe=>{ state:=st,pending:=pe,fn,tmps:=a.tmps,params:=ps,assign,body,defers:=w.heap.size }:=⟨_,rfl⟩
 obtain⟨W1,hW1⟩:∃ W1,(w.alloc (.deferred (some []))).alloc (.loop (rec .ready none))=W1:=⟨_,rfl⟩
 have hL1:W1.heap[w.heap.size+1]?=some (.loop (rec .ready none)):=by rw[<-hW1];have:=World.alloc_heap_new (w.alloc (.deferred (some []))) (.loop (rec .ready none));rwa[World.size_alloc]at this
 have hK1:W1.heap[w.heap.size]?=some (.deferred (some [])):=by rw[<-hW1];exact(Below.heap_alloc _ _ _ (by simp)).trans (World.alloc_heap_new w _)
 have hI1:I 0 W1:=by rw[<-hW1];exact hI0 _
 refine⟨w.heap.size+1,[{ target:=.collected w.heap.size,args:=#[] }],W1,{ target:=.fn (.func gf) lb,args:=#[.func (.yield (w.heap.size+1)) #[] #[]] },W1,gf,
  #[.func (.yield (w.heap.size+1)) #[] #[]]++lb,W1,?_,?_,?_,?_,fun _=>h1,?_⟩
 ·rw[<-hW1,hrec];exact run_enterLoop_outer _ _ _ _ _
 ·simp only[resolve,hg];simp[go_sem]
 ·intro f' hf';simp[Target.leads]at hf';subst hf';exact hFg
 ·simp[invoke,go_sem,eg]
 ·refine(hseq (w.heap.size+1)
   (fun i W=>I i W/\W.heap[w.heap.size+1]?=some (.loop (rec .ready none))/\W.heap[w.heap.size]?=some (.deferred (some [])))
   (fun i W=>Ix i W/\W.heap[w.heap.size+1]?=some (.loop (rec .done (some .ret)))/\W.heap[w.heap.size]?=some (.deferred (some [])))
   W1 (fun i W h=>h.1) ⟨hI1,hL1,hK1⟩ ?_).mono ?_
  ·rintro i W hlen ⟨hi,hl,hk⟩
   have hy:=run_yield (P:=P) (args:=vals i) hl (by rw[hrec];exact hps i);rw[hrec]at hy;refine⟨fn,_,assign,body,hy,roundIn_of_wpIn hfn (wpIn_mono (hround i W _ hlen hi hl hk) ?_)⟩;intro e a1 Wa hq;cases e with
   | normal=>
     obtain⟨g1,g2,g3⟩:=hq;rw[hl]at g1;rw[hk]at g2;refine⟨_,run_beginRound g1 (by rw[hrec]),wpIn_mono (g3 _) ?_⟩;intro e a3 W3 hp;obtain⟨hl3,hk3,hp⟩:=hp;have hlt3:=(oR.1 hl3).1;cases e with
     | normal=>
       have:=run_endRound (P:=P) none hl3
       rw[hrec]at this;exact⟨_,_,this,.inl ⟨rfl,hIp _ _ _ _ hl3 hp,by rw[hrec];exact World.putObj_heap_same hlt3,(World.putObj_heap_other (by omega)).trans hk3⟩⟩
     | ret=>
       have:=run_endRound (P:=P) (some .ret) hl3
       rw[hrec]at this;exact⟨_,_,this,.inr ⟨rfl,hIxp _ _ _ _ hl3 hp,by rw[hrec];exact World.putObj_heap_same hlt3,(World.putObj_heap_other (by omega)).trans hk3⟩⟩
     | exit id=>exact hp.elim
     | goto t=>exact hp.elim
     | panic ch=>exact hp.elim
     | outgrown=>exact hp.elim
   | _=>exact hq.elim
  ·rintro e W2 ⟨⟨v,rfl⟩,(⟨hi,hl,hk⟩ | ⟨k,hkl,hi,hl,hk⟩)⟩
   ·exact⟨none,_,by have:=run_endLoop (P:=P) hl (by rw[hrec];simp);rw[hrec]at this;exact this,hdone _ (hIp _ _ _ _ hl hi) ((World.putObj_heap_other (by omega)).trans hk)⟩
   ·exact⟨some .ret,_,by have:=run_endLoop (P:=P) hl (by rw[hrec];simp);rw[hrec]at this;exact this,wpIn_ret (hstop _ _ hkl (hIxp _ _ _ _ hl hi) ((World.putObj_heap_other (by omega)).trans hk))⟩
open Go Go.Proofs Go.RowKit Go.Shelf
attribute [local go_sem] Oper.semAt_some
set_option maxRecDepth 100000 in
set_option maxHeartbeats 2000000 in
theorem Ys (F:Fence) (n:Nat) (h8:F.fn 189) (hro:F.round=none) (hn:1<=n) (l Bs b off len cap:Nat) (a:Option Addr) (ha:0<len->a=some ⟨b,off,none⟩) (f:Nat->ByteArray × Int × Bool) (hreach:len*24<=140737488351232) (J Jx:Nat->World->Prop)
  (hJ:∀ i W,J i W->W.cell? ⟨Bs,0,none⟩=some (.slice a len cap)/\∀ j,j<len->W.cell? ⟨b,off+j*3,none⟩=some (.string (f j).1)/\W.cell? ⟨b,off+j*3+1,none⟩=some (.int .i64 (f j).2.1)/\W.cell? ⟨b,off+j*3+2,none⟩=some (.bool (f j).2.2))
  (hY:∀ i W,i<len->J i W->YieldAt F (n - 1) Tryz.prog l #[.int .i64 ((len - 1 - i:Nat):Int),.agg #[.string (f (len - 1 - i)).1,.int .i64 (f (len - 1 - i)).2.1,.bool (f (len - 1 - i)).2.2]] W fun e W'=>(e=.returned (.bool true)/\J (i+1) W')\/(e=.returned (.bool false)/\Jx (i+1) W'))
  (W:World) (h0:J 0 W) :
  CallsIn F n Tryz.prog 189 #[.func (.yield l) #[] #[],.pointer (some ⟨Bs,0,none⟩)] W fun e W'=>(∃ v,e=.returned v)/\(J len W'\/∃ k,k<=len/\Jx k W'):=by
 have hBs:=(hJ 0 W h0).1;refine callsIn_of_wp Tryz.func189 rfl h8 ?_ hro;simp only[Tryz.ntmps189,nM,oJ,oN,Nat.reduceAdd,Nat.reduceSub,ma,mb,mu,me,oV,nE]
 gi_wp2
 gi_loopw [3] (fun i wr=>∃ k:Nat,k<=len/\i=.int .i64 ((len:Int) - 1 - k)/\J k wr)
  (fun i _=>(intOf i+1).toNat)
 case atStart=>exact⟨0,Nat.zero_le _,by simp,h0⟩
 case round=>
  obtain⟨k,hk,rfl,hJs⟩:=hrel;by_cases hlt:k<len
  ·obtain rfl:=ha (by omega);obtain⟨fn,tmps,assign,body,hy,hR⟩:=hY k wr hlt hJs;obtain⟨hB2,hc⟩:=hJ k wr hJs;obtain⟨h1,h2,h3⟩:=hc (len - 1 - k) (by omega);have hnn:(0:Int)<=(len:Int) - 1 - k:=by omega
   have e1:((len:Int) - 1 - k).toNat=len - 1 - k:=by omega
   have e2:((len - 1 - k:Nat):Int)=(len:Int) - 1 - k:=by omega
   rw[e2]at hy
   gi_wp2
   refine hR.mono ?_
   rintro e W3 (⟨rfl,hJ3⟩ | ⟨rfl,hJx3⟩)
   ·gi_wp2
    go_roundw
    case rel=>exact⟨k+1,by omega,by simp;omega,hJ3⟩
    case measure=>simp[intOf];omega
   ·gi_wp2
    refine bodyPost_ret (results_none rfl _ _ _) rfl ?_;exact⟨⟨_,rfl⟩,.inr ⟨k+1,by omega,hJx3⟩⟩
  ·obtain rfl:k=len:=by omega
   gi_wp2
   go_end0
   exact⟨⟨_,rfl⟩,.inl hJs⟩
theorem zAJ (F:Fence) (n:Nat) (h:F.fn 151) (I:F.round=none) (a:Option Addr) (len cap:Nat) (W:World) :
  CallsIn F n Tryz.prog 151 #[.slice a len cap] W λe W'=>e=.returned (.func (.func 189) #[] #[.pointer (some ⟨W.heap.size,0,none⟩)])/\W'=W.alloc (.cells #[.slice a len cap] 53 (0,0)):=by
 refine callsIn_of_wp Tryz.func151 rfl h ?_ I;simp only[Tryz.ntmps151,nM,oJ,oN,Nat.reduceAdd,Nat.reduceSub,ma,mb,mu,me,oV,nE]
 gi_wp2
 go_ret
 exact⟨rfl,rfl⟩
attribute [local go_sem] Oper.semAt_some
structure FG (W w:World) (nm:ByteArray) (a:Option Addr) (len cap:Nat) (r:ByteArray × Int × Bool):Prop where
 size:W.heap.size+3<=w.heap.size
 old:∀ k,k<W.heap.size->w.heap[k]?=W.heap[k]?
 b3:w.heap[W.heap.size]?=some (.cells #[.string nm] 9)
 b4:w.heap[W.heap.size+1]?=some (.cells #[.string r.1,.int .i64 r.2.1,.bool r.2.2] 87)
 b8:w.heap[W.heap.size+2]?=some (.cells #[.slice a len cap] 53)
 fz:∀(k:Nat) (c:Array Value) (t:TypeId) (z:Nat × Nat),W.heap.size<=k->w.heap[k]?=some (.cells c t z)->z=(0,0)
 os:w.os=W.os
 out:w.output=W.output
theorem FG.cell {W w:World}{k:Nat}{c:Array Value}{t:TypeId}{z:Nat × Nat}{i:Nat}(h:w.heap[k]?=some (.cells c t z)):w.cell? ⟨k,i,none⟩=c[i]?:=by simp[World.cell?,h]
theorem zx {w:World}{k i:Nat}{v:Value}{c:Array Value}{t:TypeId}{z:Nat × Nat}(h:w.heap[k]?=some (.cells c t z)):(w.setCell ⟨k,i,none⟩ v).heap[k]?=some (.cells (c.setIfInBounds i v) t z):=by simp[World.setCell,Array.getElem?_modify,h]
theorem zJ {w:World}{k i j:Nat}{v:Value}(h:j≠k):(w.setCell ⟨k,i,none⟩ v).heap[j]?=w.heap[j]?:=by simp[World.setCell,Array.getElem?_modify,Ne.symm h]
variable {W w:World} {nm:ByteArray} {a:Option Addr} {len cap:Nat} {r:ByteArray × Int × Bool}
theorem FG.alloc (h:FG W w nm a len cap r){o:Obj}(O:∀ c t z,o=.cells c t z->z=(0,0)):FG W (w.alloc o) nm a len cap r:=by
 have key:∀ k,k<w.heap.size->(w.alloc o).heap[k]?=w.heap[k]?:=λk hk=>Below.heap_alloc _ _ _ hk;have hs:=h.size;refine⟨by simp;omega,λk hk=>(key k (by omega)).trans (h.old k hk),(key _ (by omega)).trans h.b3,(key _ (by omega)).trans h.b4,(key _ (by omega)).trans h.b8,λk c t z hk hc=>?_,h.os,h.out⟩;by_cases J:k<w.heap.size
 ·rw[key k J]at hc;exact h.fz k c t z hk hc
 ·by_cases I:k=w.heap.size
  ·subst I;have U:=World.alloc_heap_new w o;rw[U]at hc;exact O c t z (oU hc)
  ·have:(w.alloc o).heap[k]?=none:=mT (by simp;omega);rw[this]at hc;cases hc
theorem FG.put (h:FG W w nm a len cap r){l:Nat}{o:Obj}(U:W.heap.size+3<=l)(O:∀ c t z,o=.cells c t z->z=(0,0)):FG W (w.putObj l o) nm a len cap r:=by
 have key:∀ k,k≠l->(w.putObj l o).heap[k]?=w.heap[k]?:=λk hk=>World.putObj_heap_other hk;refine⟨by simpa using h.size,λk hk=>(key k (by omega)).trans (h.old k hk),(key _ (by omega)).trans h.b3,(key _ (by omega)).trans h.b4,(key _ (by omega)).trans h.b8,λk c t z hk hc=>?_,h.os,h.out⟩;by_cases I:k=l
 ·subst I;by_cases J:k<w.heap.size
  ·rw[World.putObj_heap_same J]at hc;exact O c t z (oU hc)
  ·have:(w.putObj k o).heap[k]?=none:=mT (by simp;omega);rw[this]at hc;cases hc
 ·rw[key k I]at hc;exact h.fz k c t z hk hc
theorem FG.set (h:FG W w nm a len cap r)(q:ByteArray × Int × Bool):FG W (((w.setCell ⟨W.heap.size+1,0,none⟩ (.string q.1)).setCell ⟨W.heap.size+1,1,none⟩ (.int .i64 q.2.1)).setCell ⟨W.heap.size+1,2,none⟩ (.bool q.2.2)) nm a len cap q:=by
 have key:∀ k,k≠W.heap.size+1->(((w.setCell ⟨W.heap.size+1,0,none⟩ (.string q.1)).setCell ⟨W.heap.size+1,1,none⟩ (.int .i64 q.2.1)).setCell ⟨W.heap.size+1,2,none⟩ (.bool q.2.2)).heap[k]?=w.heap[k]?:=λk hk=>by rw[zJ hk,zJ hk,zJ hk]
 have J:(((w.setCell ⟨W.heap.size+1,0,none⟩ (.string q.1)).setCell ⟨W.heap.size+1,1,none⟩ (.int .i64 q.2.1)).setCell ⟨W.heap.size+1,2,none⟩ (.bool q.2.2)).heap[W.heap.size+1]?=some (.cells #[.string q.1,.int .i64 q.2.1,.bool q.2.2] 87):=by rw[zx (zx (zx h.b4))];rfl
 refine⟨by simp[World.setCell];exact h.size,λk hk=>(key k (by omega)).trans (h.old k hk),(key _ (by omega)).trans h.b3,J,(key _ (by omega)).trans h.b8,λk c t z hk hc=>?_,h.os,h.out⟩;by_cases I:k=W.heap.size+1
 ·subst I;rw[J]at hc;cases hc;rfl
 ·rw[key k I]at hc;exact h.fz k c t z hk hc
theorem FG.res {fn:Func} (I:fn.results=#[.cell 4 87]) (h:FG W w nm a len cap r) {Y:Array Value} (ht:Y[4]?.getD undef=.pointer (some ⟨W.heap.size+1,0,none⟩)) :
  (results fn Y).run Tryz.prog w=.ok (.agg #[.string r.1,.int .i64 r.2.1,.bool r.2.2]) w:=by
 have J:w.cell? ⟨W.heap.size+1,0,none⟩=some (.string r.1):=FG.cell (W:=w) h.b4;have O:w.cell? ⟨W.heap.size+1,1,none⟩=some (.int .i64 r.2.1):=FG.cell (W:=w) h.b4;have U:w.cell? ⟨W.heap.size+1,2,none⟩=some (.bool r.2.2):=FG.cell (W:=w) h.b4;simp[results,I,go_sem,ht,J,O,U]
structure FEnd (W w:World) (nm:ByteArray) (len:Nat) (f:Nat->ByteArray × Int × Bool) (r:ByteArray × Int × Bool):Prop where
 res:(∃ p,p<len/\(f p).1=nm/\(∀ q,p<q->q<len->(f q).1≠nm)/\r=f p)\/((∀ q,q<len->(f q).1≠nm)/\r=(⟨#[]⟩,0,false))
 size:W.heap.size<=w.heap.size
 old:∀ k,k<W.heap.size->w.heap[k]?=W.heap[k]?
 fz:∀(k:Nat) (c:Array Value) (t:TypeId) (z:Nat × Nat),W.heap.size<=k->w.heap[k]?=some (.cells c t z)->z=(0,0)
 os:w.os=W.os
 out:w.output=W.output
set_option maxRecDepth 100000 in
set_option maxHeartbeats 2000000 in
theorem zAY (F:Fence) (n:Nat) (ai:F.fn 103) (ah:F.fn 151) (ac:F.fn 189) (aa:F.round=none) (hn:5<=n) (b off len cap:Nat) (a:Option Addr) (ha:0<len->a=some ⟨b,off,none⟩) (f:Nat->ByteArray × Int × Bool) (ab:len*24<=140737488351232)
  (nm:ByteArray) (W:World) (hc:∀ j,j<len->W.cell? ⟨b,off+j*3,none⟩=some (.string (f j).1)/\W.cell? ⟨b,off+j*3+1,none⟩=some (.int .i64 (f j).2.1)/\W.cell? ⟨b,off+j*3+2,none⟩=some (.bool (f j).2.2)) :
  CallsIn F n Tryz.prog 103 #[.slice a len cap,.string nm] W λe w=>∃ r,e=.returned (.agg #[.string r.1,.int .i64 r.2.1,.bool r.2.2])/\FEnd W w nm len f r:=by
 refine callsIn_of_wp_marks Tryz.func103 rfl ai ?_ aa;simp only[Tryz.ntmps103,nM,oJ,oN,Nat.reduceAdd,Nat.reduceSub,ma,mb,mu,me,oV,nE]
 gi_wp2
 refine⟨λ_=>by omega,(zAJ F (n - 1) ah aa a len cap _).mono ?_⟩
 rintro e W' ⟨rfl,rfl⟩
 gi_wp2
 refine UN aa (by omega) (gf:=189) rfl ac (enters_of Tryz.func189 (by kernel_rfl) rfl) (len:=len)
  (vals:=λi=>#[.int .i64 ((len - 1 - i:Nat):Int),.agg #[.string (f (len - 1 - i)).1,.int .i64 (f (len - 1 - i)).2.1,.bool (f (len - 1 - i)).2.2]]) (λi=>rfl)
  (λi w=>(∀ j,j<i->(f (len - 1 - j)).1≠nm)/\FG W w nm a len cap (⟨#[]⟩,0,false))
  (λi w=>(∀ j,j+1<i->(f (len - 1 - j)).1≠nm)/\0<i/\(f (len - i)).1=nm/\FG W w nm a len cap (f (len - i))) ?_ ?_ ?_ ?_ ?_ ?_ ?_
 ·rintro i w r r' h ⟨h1,O⟩
  exact⟨h1,O.put (by simp) (by simp)⟩
 ·rintro i w r r' h ⟨h1,h2,h3,O⟩
  exact⟨h1,h2,h3,O.put (by simp) (by simp)⟩
 ·intro r;refine⟨λj hj=>by omega,FG.alloc (FG.alloc ?_ (by simp)) (by simp)⟩;refine⟨by simp,λk hk=>?_,?_,?_,?_,λk c t z hk hc=>?_,rfl,rfl⟩
  ·rw[Below.heap_alloc _ _ _ (by simp;omega),Below.heap_alloc _ _ _ (by simp;omega),Below.heap_alloc _ _ _ (by omega)]
  ·rw[Below.heap_alloc _ _ _ (by simp;omega),Below.heap_alloc _ _ _ (by simp)];exact World.alloc_heap_new _ _
  ·rw[Below.heap_alloc _ _ _ (by simp)]
   have:=World.alloc_heap_new (W.alloc (Obj.cells #[Value.string nm] 9)) (Obj.cells #[Value.string { data:=#[] },Value.int IntKind.i64 0,Value.bool false] 87)
   rwa[World.size_alloc]at this
  ·have:=World.alloc_heap_new ((W.alloc (Obj.cells #[Value.string nm] 9)).alloc (Obj.cells #[Value.string { data:=#[] },Value.int IntKind.i64 0,Value.bool false] 87)) (Obj.cells #[.slice a len cap] 53)
   simpa only[World.size_alloc]using this
  ·have aj:k=W.heap.size\/k=W.heap.size+1\/k=W.heap.size+2:=by
    have:=(oR.1 hc).1
    simp at this;omega
   rcases aj with rfl | rfl | rfl
   ·rw[Below.heap_alloc _ _ _ (by simp;omega),Below.heap_alloc _ _ _ (by simp),World.alloc_heap_new]at hc;cases hc;rfl
   ·rw[Below.heap_alloc _ _ _ (by simp)]at hc
    have:=World.alloc_heap_new (W.alloc (Obj.cells #[Value.string nm] 9)) (Obj.cells #[Value.string { data:=#[] },Value.int IntKind.i64 0,Value.bool false] 87)
    rw[World.size_alloc]at this;rw[this]at hc;cases hc;rfl
   ·have:=World.alloc_heap_new ((W.alloc (Obj.cells #[Value.string nm] 9)).alloc (Obj.cells #[Value.string { data:=#[] },Value.int IntKind.i64 0,Value.bool false] 87)) (Obj.cells #[.slice a len cap] 53)
    simp only[World.size_alloc]at this;rw[this]at hc;cases hc;rfl
 ·intro l J Jx w hJ h0 hY;refine Ys F (n - 1) ac aa (by omega) l (W.heap.size+2) b off len cap a ha f ab J Jx (λi w h=>?_) hY w h0;obtain⟨_,O⟩:=hJ i w h;have ae:∀ p:Addr,p.block<W.heap.size->w.cell? p=W.cell? p:=λp hp=>by simp[World.cell?,O.old _ hp]
  refine⟨FG.cell (W:=w) O.b8,λj hj=>?_⟩;obtain⟨g1,g2,g3⟩:=hc j hj;have hb:b<W.heap.size:=by
   by_cases hb:b<W.heap.size
   ·exact hb
   ·have h0:W.heap[b]?=none:=mT (by omega);simp[World.cell?,h0]at g1
  exact⟨(ae _ hb).trans g1,(ae _ hb).trans g2,(ae _ hb).trans g3⟩
 ·rintro i w r0 hi ⟨h1,O⟩ hl hD
  simp only[List.zip_toArray,nM]
  gi_wp2
  have hS:(((W.alloc (Obj.cells #[Value.string nm] 9)).alloc (Obj.cells #[Value.string { data:=#[] },Value.int IntKind.i64 0,Value.bool false] 87)).alloc (Obj.cells #[Value.slice a len cap] 53)).heap.size=W.heap.size+3:=by simp
  rw[hS]at hl hD ⊢;have ax:=(oR.1 hl).1;have ay:=O.size;refine⟨Below.heap_alloc _ _ _ (by omega),Below.heap_alloc _ _ _ (by omega),λr=>?_⟩;obtain⟨w2,Y⟩:∃ w2,w2=(w.alloc (Obj.cells #[Value.string (f (len - 1 - i)).fst,Value.int IntKind.i64 (f (len - 1 - i)).snd.fst,Value.bool (f (len - 1 - i)).snd.snd] 87)).putObj (W.heap.size+3+1) (Obj.loop r):=⟨_,rfl⟩
  have U:FG W w2 nm a len cap (⟨#[]⟩,0,false):=by rw[Y];exact(O.alloc (by simp)).put (by omega) (by simp)
  have h6:w2.heap[w.heap.size]?=some (Obj.cells #[Value.string (f (len - 1 - i)).fst,Value.int IntKind.i64 (f (len - 1 - i)).snd.fst,Value.bool (f (len - 1 - i)).snd.snd] 87):=by rw[Y,World.putObj_heap_other (by omega)];exact World.alloc_heap_new _ _
  have ak:w2.heap[W.heap.size+3+1]?=some (.loop r):=by rw[Y];exact World.putObj_heap_same (by simp;omega)
  have al:w2.heap[W.heap.size+3]?=some (.deferred (some [])):=by rw[Y,World.putObj_heap_other (by omega),Below.heap_alloc _ _ _ (by omega)];exact hD
  rw[<-Y];have az:w2.cell? ⟨w.heap.size,0,none⟩=some (.string (f (len - 1 - i)).fst):=FG.cell (W:=w) h6;have a0:w2.cell? ⟨w.heap.size,1,none⟩=some (.int .i64 (f (len - 1 - i)).2.1):=FG.cell (W:=w) h6;have a2:w2.cell? ⟨w.heap.size,2,none⟩=some (.bool (f (len - 1 - i)).2.2):=FG.cell (W:=w) h6;have c3:w2.cell? ⟨W.heap.size,0,none⟩=some (.string nm):=FG.cell (W:=w) U.b3;have f40:w2.frozen? ⟨W.heap.size+1,0,none⟩=false:=by simp[World.frozen?,U.b4]
  have f41:w2.frozen? ⟨W.heap.size+1,1,none⟩=false:=by simp[World.frozen?,U.b4]
  have f42:w2.frozen? ⟨W.heap.size+1,2,none⟩=false:=by simp[World.frozen?,U.b4]
  have am:w2.cell? ⟨W.heap.size+1,0,none⟩=some (.string ⟨#[]⟩):=FG.cell (W:=w) U.b4;have ao:w2.cell? ⟨W.heap.size+1,1,none⟩=some (.int .i64 0):=FG.cell (W:=w) U.b4;have aq:w2.cell? ⟨W.heap.size+1,2,none⟩=some (.bool false):=FG.cell (W:=w) U.b4;clear Y;have e9:len - (i+1)=len - 1 - i:=by omega
  by_cases hm:(f (len - 1 - i)).1=nm
  ·gi_wp2
   refine⟨?_,?_,h1,?_⟩
   ·rw[zJ (by omega),zJ (by omega),zJ (by omega)];exact ak
   ·rw[zJ (by omega),zJ (by omega),zJ (by omega)];exact al
   ·have:=U.set (f (len - 1 - i))
    rwa[hm]at this
  ·have a3:((f (len - 1 - i)).1.toList==nm.toList)=false:=by
    cases hb:((f (len - 1 - i)).1.toList==nm.toList)with
    | false=>rfl
    | true=>exact absurd (L7 (by simpa using hb)) hm
   gi_wp2
   intro j hj;by_cases au:j=i
   ·rw[au];exact hm
   ·exact h1 j (by omega)
 ·rintro w ⟨h1,O⟩ hD
  have hS:(((W.alloc (Obj.cells #[Value.string nm] 9)).alloc (Obj.cells #[Value.string { data:=#[] },Value.int IntKind.i64 0,Value.bool false] 87)).alloc (Obj.cells #[Value.slice a len cap] 53)).heap.size=W.heap.size+3:=by simp
  rw[hS]at hD ⊢;have f40:w.frozen? ⟨W.heap.size+1,0,none⟩=false:=by simp[World.frozen?,O.b4]
  have f41:w.frozen? ⟨W.heap.size+1,1,none⟩=false:=by simp[World.frozen?,O.b4]
  have f42:w.frozen? ⟨W.heap.size+1,2,none⟩=false:=by simp[World.frozen?,O.b4]
  have am:w.cell? ⟨W.heap.size+1,0,none⟩=some (.string ⟨#[]⟩):=FG.cell (W:=w) O.b4;have ao:w.cell? ⟨W.heap.size+1,1,none⟩=some (.int .i64 0):=FG.cell (W:=w) O.b4;have aq:w.cell? ⟨W.heap.size+1,2,none⟩=some (.bool false):=FG.cell (W:=w) O.b4
  gi_wp2
  have aw:=O.set (⟨#[]⟩,0,false);refine⟨by simp,.inl ⟨_,_,rfl,run_takeDeferred (by rw[zJ (by omega),zJ (by omega),zJ (by omega)];exact hD),?_⟩⟩;have I:=aw.put (l:=W.heap.size+3) (o:=.deferred none) (by omega) (by simp);refine⟨_,FG.res rfl I rfl,_,rfl,.inr ⟨λq hq=>?_,rfl⟩,oP (Nat.le_add_right _ 3) I.size,I.old,I.fz,I.os,I.out⟩
  have:=h1 (len - 1 - q) (by omega)
  rwa[show len - 1 - (len - 1 - q)=q by omega]at this
 ·rintro k w hk ⟨h1,h2,h3,O⟩ hD
  have hS:(((W.alloc (Obj.cells #[Value.string nm] 9)).alloc (Obj.cells #[Value.string { data:=#[] },Value.int IntKind.i64 0,Value.bool false] 87)).alloc (Obj.cells #[Value.slice a len cap] 53)).heap.size=W.heap.size+3:=by simp
  rw[hS]at hD ⊢;refine⟨by simp,.inl ⟨_,_,rfl,run_takeDeferred hD,?_⟩⟩;have I:=O.put (l:=W.heap.size+3) (o:=.deferred none) (by omega) (by simp);refine⟨_,FG.res rfl I rfl,_,rfl,.inl ⟨len - k,by omega,h3,λq hq a4=>?_,rfl⟩,oP (Nat.le_add_right _ 3) I.size,I.old,I.fz,I.os,I.out⟩
  have:=h1 (len - 1 - q) (by omega)
  rwa[show len - 1 - (len - 1 - q)=q by omega]at this
abbrev Pl:=ByteArray × Int × Bool
def plD (p:Pl):D:=.ag [.lit (.string p.1),.lit (.int .i64 p.2.1),.lit (.bool p.2.2)]
def plZ:Pl:=(⟨#[]⟩,0,false)
def MY (nm:ByteArray)(l:List Pl):Pl:=(l.reverse.find? λp=>decide (p.1=nm)).getD plZ
theorem U9 {nm:ByteArray}{l:List Pl}{r:Pl}(h:(∃ p,p<l.length/\(l.getD p plZ).1=nm/\(∀ q,p<q->q<l.length->(l.getD q plZ).1≠nm)/\r=l.getD p plZ)\/((∀ q,q<l.length->(l.getD q plZ).1≠nm)/\r=plZ)):r=MY nm l:=by
 have key:∀ l:List Pl,(∀ q,q<l.length->(l.getD q plZ).1≠nm)->l.reverse.find? (λp=>decide (p.1=nm))=none:=λl h=>by rw[List.find?_eq_none];intro x hx hd;obtain⟨i,hi⟩:=oQ.1 (mj.1 hx);exact h i (oC.1 hi).1 (by rw[oB,hi];simpa using hd)
 rcases h with⟨p,O,I,U,rfl⟩ | ⟨I,rfl⟩
 ·have Y:l=l.take p++l.getD p plZ::l.drop (p+1):=by
   have hg:l.getD p plZ=l[p]:=by simp[O]
   rw[hg,mi,nu]
  unfold MY;have h3:=key (l.drop (p+1)) λq hq=>by
   have J:p+1+q<l.length:=by simp at hq;omega
   have:=U (p+1+q) (by omega) J
   rwa[oB,nU,<-oB]
  generalize l.getD p plZ=x at *;rw[Y,lM,List.reverse_cons,nq,List.find?_append,h3];simp[I]
 ·unfold MY;rw[key l I];rfl
theorem OR:∀(l:List Pl)(j:Nat),j<l.length->(flat (l.map plD))[j*3]?=some (.lit (.string (l.getD j plZ).1))/\(flat (l.map plD))[j*3+1]?=some (.lit (.int .i64 (l.getD j plZ).2.1))/\(flat (l.map plD))[j*3+2]?=some (.lit (.bool (l.getD j plZ).2.2))
 | [],j,h=>by simp at h
 | p::l,0,h=>by simp[flat,plD,D.cells]
 | p::l,j+1,h=>by
   have:=OR l j (by simpa using h)
   have e:flat ((p::l).map plD)=[.lit (.string p.1),.lit (.int .i64 p.2.1),.lit (.bool p.2.2)]++flat (l.map plD):=by simp[flat,plD,D.cells]
   rw[e];have g:∀ k,([D.lit (.string p.1),D.lit (.int .i64 p.2.1),D.lit (.bool p.2.2)]++flat (l.map plD))[k+3]?=(flat (l.map plD))[k]?:=λk=>by rw[oS (by simp)];simp
   have I:=g (j*3);have J:=g (j*3+1);have O:=g (j*3+2);rw[show(j+1)*3=j*3+3 by omega,show j*3+3+1=j*3+1+3 by omega,show j*3+3+2=j*3+2+3 by omega,I,J,O];simpa using this
theorem WL (l:List Pl) (a:Option Addr) (c:Nat) (nm:ByteArray) (ae:l.length<=1073741824) (N:Nat) (Q:QT [.ag 3]) (hQ:∀ N',N<=N'->Q (plD (MY nm l)) N') :
  ACalls prog 103 [.ag 3] [.sv a 3 (l.map plD) c,.str nm] N Q:=by
 refine⟨by kernel_rfl,λav w0 hN ah Y=>?_⟩;subst hN;have J:Good w0 av (.sl a 3 (l.map plD) c):=(Y _ (nf ..)).1;have hH:=J.1;obtain⟨b,off,ha,hc⟩:∃ b off,(0<l.length->a=some ⟨b,off,none⟩)/\∀ j,j<l.length->w0.cell? ⟨b,off+j*3,none⟩=some (.string (l.getD j plZ).1)/\w0.cell? ⟨b,off+j*3+1,none⟩=some (.int .i64 (l.getD j plZ).2.1)/\w0.cell? ⟨b,off+j*3+2,none⟩=some (.bool (l.getD j plZ).2.2):=by
  generalize hm:l.map plD=es at hH;cases hH with
  | nil=>
    have:l=[]:=by simpa using hm
    subst this;exact⟨0,0,by simp,by simp⟩
  | @sl ad z es cap U h2 h3 h4 h5=>
    by_cases h0:0<l.length
    ·have ab:l.map plD≠[]:=by intro hc;simp at hc;subst hc;simp at h0
     obtain⟨b,off,sp⟩:=ad;have U:=U (hm ▸ ab);simp only at U;subst U;refine⟨b,off,λ_=>rfl,λj hj=>?_⟩;rcases h5 with h5 | ⟨cc,t,fz,h6,h7⟩
     ·have:=(OR l j hj).1
      rw[hm,h5]at this;simp at this
     ·rw[<-hm]at h7;obtain⟨g1,g2,g3⟩:=OR l j hj;have g1:=h7 _ _ g1;have g2:=h7 _ _ g2;have g3:=h7 _ _ g3;have I:∀ i,w0.cell? ⟨b,i,none⟩=cc[i]?:=λi=>FG.cell (W:=w0) h6;refine⟨?_,?_,?_⟩
      ·rw[I];exact g1
      ·rw[I,mP];exact g2
      ·rw[I,mP];exact g3
    ·exact⟨0,0,λh=>absurd h h0,λj hj=>absurd hj (by omega)⟩
 have aa:(([PV.sv a 3 (l.map plD) c,.str nm]:List PV).map (PV.val [])).toArray=#[.slice a l.length c,.string nm]:=by simp[PV.val,PV.val1,PV.cv]
 rw[aa];have hC:=zAY Fence.wide 5 trivial trivial trivial rfl (by omega) b off l.length c a ha (λj=>l.getD j plZ) (by omega) nm w0 hc;refine(callsIn_wide.1 hC).mono λe w hr=>?_;obtain⟨r,rfl,O⟩:=hr;have ac:=U9 O.res;refine⟨[.dg 3 (plD r)],[],[],{
  q:=⟨rfl,by rw[ac];exact hQ _ O.size⟩
  v:=by simp[Oq,D3,Or,PV.val1,plD,D.val,D.cv]
  m:={ el:=rfl,br:=λk B hk _=>by simp at hk,bo:=λk B hk _=>by simp at hk,bf:=λk B hk _=>by simp at hk,inj:=λi j b hi _=>by obtain⟨_,_,B,h3,_⟩:=hi;simp at h3 }
  ok:=λp hp=>by
   simp at hp;subst hp;refine⟨⟨.ag λc hc=>?_,λb hb=>?_⟩,_,rfl,rfl,λc hc=>?_⟩
   ·simp at hc;rcases hc with rfl | rfl | rfl<;>exact .lit
   ·simp[plD,D.foot,zF]at hb
   ·simp at hc;rcases hc with rfl | rfl | rfl<;>rfl
  fresh:=λk b hb=>by simp[Env.at]at hb
  size:=O.size
  old:=O.old
  fz:=λb c t z U h2=>Fz.of (O.fz b c t z U h2)
  ku:=⟨O.os,O.out⟩ }⟩
def plB (p:Pl):Bd:=(p.1,p.2.2)
theorem Q2 (nm:ByteArray)(v:List Pl):(MY nm v).2.2=(s8 nm (v.map plB)).getD false:=by
 unfold MY s8;rw[<-List.map_reverse,List.find?_map];generalize v.reverse=u
 induction u with
 | nil=>rfl
 | cons x u I=>
   by_cases h:x.1=nm
   ·simp[plB,h]
   ·simp only[List.find?_cons,Function.comp,plB,h,decide_false]at I ⊢;exact I
theorem Kr:∀ v:List Pl,zF (v.map plD)=[]
 | []=>rfl
 | b::v=>by simp only[oZ,zF,Kr v];rfl
theorem TP:∀ v:List Pl,xX (v.map plD)
 | []=>trivial
 | b::v=>⟨⟨trivial,trivial,trivial,trivial⟩,TP v⟩
theorem Xr {N N':Nat}(v:List Pl):OwnL N N' (v.map plD):=⟨by rw[Kr];simp,TP v,by rw[Kr];simp,by rw[Kr];simp⟩
def Z5 (f:FuncId)(args:List PV)(v:List Pl):Prop:=∀(N:Nat) (Q:QT [.sl 3]),(∀ a c N',N<=N'->Q a (v.map plD) c N')->ACalls prog f [.sl 3] args N Q
theorem R8 (v:List Pl)(hv:v.length<=1073741824)(a:Option Addr)(c:Nat)(N:Nat)(Q:QT [.row 87 3])(Y:∀ c' N',N<=N'->Q (v.map plD) c' N'):ACalls prog 102 [.row 87 3] [.sv a 3 (v.map plD) c] N Q:=by
 have I:(a=none->v.map plD=[])->ACalls prog 102 [.row 87 3] [.sv a 3 (v.map plD) c] N Q:=λhn=>by
  refine t7 N a _ c Q λ_=>Br.of (λhi N1 O=>?_) λ_=>⟨⟨rfl,rfl⟩,?_,λc2=>⟨⟨rfl,rfl⟩,λN2 U=>?_⟩⟩
  ·have:=hn (by simpa using hi)
   have h2:=Y 0 N1 O;rwa[this]at h2
  ·unfold zA;simp;omega
  ·exact Y _ _ U
 cases a with
 | some ad=>exact I (by simp)
 | none=>
   by_cases J:v.map plD=[]
   ·exact I λ_=>J
   ·exact WH (z:=3) (c:=c) (es:=v.map plD) (by kernel_rfl) (by simp) J
theorem R7 (v:List Pl) (hv:v.length<=1073741824) (p:Pl) (a:Option Addr) (c:Nat) (N:Nat) (Q:QT [.sl 3]) (Y:∀ J O N',N<=N'->Own N N' (.sl J 3 ((v++[p]).map plD) O)->Q J ((v++[p]).map plD) O N') :
  ACalls prog 51 [.sl 3] [.sv a 3 (v.map plD) c,.dg 3 (plD p)] N Q:=by
 refine ET N a _ c _ Q λ_ _ N1 aa=>?_;refine R8 v hv a c N1 _ λc2 N2 ab _ _=>⟨⟨rfl,rfl⟩,?_,λc3=>⟨⟨rfl,rfl⟩,⟨rfl,rfl⟩,λa3 N3 ac U N4 I=>?_⟩⟩
 ·unfold zA;simp;omega
 ·have e:v.map plD++[plD p]=(v++[p]).map plD:=by simp
  rw[e]at U ⊢;exact Y _ _ _ (by omega) ((AH (N1:=N3) (Xr _) U (oD _)).mono (oD _) I)
def te (k:Int)(nm:ByteArray)(b:Bool)(v:List Pl)(i:Nat):List Pl:=if k=8/\i≠0 then v++[(nm,0,b)]else v
theorem PS {k:Int} {nm ot:ByteArray} {n0:Int} {t0 t1 r0 r1:D} {a1:Option Addr} {es:List D} {c1:Nat} (v:List Pl) (hv:v.length<=1073741824) (a:Option Addr) (c:Nat) (i:Nat) (b:Bool)
  (J:k=8->es≠[]) (Y:k=8->vM 52 [.sv a 3 (v.map plD) c,.dg 9 (es.getD 0 default)] b) :
  Z5 57 [.sv a 3 (v.map plD) c,.dg 9 (.ag [.j k,.t nm,.t ot,.j n0,t0,t1,r0,r1,.sl a1 9 es c1]),.j i] (te k nm b v i):=λN Q I=>by
 refine A7 N a _ c _ i Q λ_ _=>⟨_,rfl,Br.bne (λhk N1 O=>?_) λhk=>Br.beq (λhi N2 U=>?_) λhi=>?_⟩
 ·rw[te,if_neg (by simp[hk])]at I;exact I _ _ _ O
 ·rw[te,if_neg (by simp;omega)]at I;exact I _ _ _ U
 ·rw[te,if_pos ⟨hk,by omega⟩]at I;have aa:=lK.2 (J hk);refine⟨_,rfl,_,_,_,rfl,⟨by omega,by omega⟩,λN3 ab=>?_⟩;refine Y hk N3 _ λN4 ac _ N5 ae=>?_;refine R7 v hv (nm,0,b) a c N5 _ λa2 c2 N6 ah _ _ _ N7 ai=>?_;exact I _ _ _ (by omega)
theorem GM:∀(t:Tm)(d:D),t.Is d->t.ok=true->∀(v:List Pl)(a:Option Addr)(c:Nat),v.length+t.cnt<=1073741824->vM 52 [.sv a 3 (v.map plD) c,.dg 9 d] (t.late (v.map plB)):=by
 refine Tm.ind λk nm ot n0 ty re l ih d hd al v a c hc N Q hQ=>?_;obtain⟨t0,t1,r0,r1,a1,es,c1,rfl,hh,ae,U⟩:=Tm.is_mk.1 hd;have node:=zT al;simp only[Tm.cnt]at hc;have ay:(v.map plD).length=v.length:=by simp
 refine qV N a _ c _ Q λ_ _=>?_;simp only[Tm.late]at hQ;refine⟨_,rfl,Br.beq (λhk=>?_) λhk=>?_⟩
 ·rw[if_pos hk]at hQ;have Y:=node.ar;subst hk;rw[show sA 1 nm=0 from rfl]at Y;have am:l=[]:=oL (by omega);subst am;refine⟨_,rfl,λN1 az=>?_⟩;refine WL v a c nm (by omega) N1 _ λN2 a0 _ _=>⟨_,rfl,λN3 a2=>?_⟩
  exact Qb (hQ _ (by omega)) (by rw[Q2];rfl)
 ·rw [if_neg hk]at hQ;refine⟨_,_,_,rfl,?_⟩;have ah:k=8->∃ J x1,l=[J,x1]:=λh8=>by have Y:=node.ar;subst h8;rw[show sA 8 nm=2 from rfl]at Y;obtain⟨J,x1,_,_,h,_⟩:=uj U Y;exact⟨J,x1,h⟩
  have ao:∀ J rest,l=J::rest->J.Is (es.getD 0 default):=λJ rest h=>by refine U.get (i:=0) ?_;rw[h];rfl
  obtain⟨b0,ai⟩:∃ b0,b0=((l.head?.map λJ=>J.late (v.map plB)).getD false):=⟨_,rfl⟩
  have a3:v.length+1<=1073741824\/l=[]:=by
   cases l with
   | nil=>exact .inr rfl
   | cons x xs=>left;simp only[zG]at hc;have:=x.cnt_pos;omega
  refine up U ae (λi xs=>∀(N':Nat),N<=N'->(i=0->xs=l)->(∀ N'',N'<=N''->Q (if k=8 then(if i=0 then HN xs nm (v.map plB)else xg xs ((v++[(nm,0,b0)]).map plB))else xg xs (v.map plB)) N'') ->
   yK Q N a (v.map plD) c a1 es c1 es.length i (.ag [.j k,.t nm,.t ot,.j n0,t0,t1,r0,r1,.sl a1 9 es c1]) N') ?_ ?_ N (oD _) (λ_=>rfl) (by simpa using hQ)
  ·intro i aq _ N' au h0 aa;refine wh ?_
   repeat' first|with_reducible intro _|simp only[aq,Y1]|with_reducible refine X ?_ ?_|refine⟨_,_,_,rfl,?_⟩|refine⟨_,rfl,?_⟩|refine X0 ?_|fail
   exact Qb (aa _ (by omega)) (by simp[xg,HN])
  ·intro i x xs O _ aw N' au h0 aa;have hb:=O.b;have a4:=yJ O.m;refine wh ?_;have aj:=PS (k:=k) (nm:=nm) (ot:=ot) (n0:=n0) (t0:=t0) (t1:=t1) (r0:=r0) (r1:=r1) (a1:=a1) (es:=es) (c1:=c1) v (by omega) a c i b0 (λh8 hc=>by
    have:=U.len;obtain⟨J,x1,hl⟩:=ah h8;rw[hc,hl]at this;simp at this) (λh8=>by
    obtain⟨J,x1,hl⟩:=ah h8;have ab:J∈l:=by rw[hl];simp
    have a5:=yJ ab;have ac:b0=J.late (v.map plB):=by rw[ai,hl];rfl
    rw[ac];exact ih J ab _ (ao J [x1] hl) (node.sub _ ab) v a c (by omega))
   have ak:(te k nm b0 v i).length+x.cnt<=1073741824:=by unfold te;split<;>first | (simp;omega) | omega
   repeat' first|with_reducible intro _|simp only[O.lt,O.w,oI,Y1]|with_reducible refine X ?_ ?_|refine⟨_,_,_,rfl,?_⟩|refine⟨_,rfl,?_⟩|refine X0 ?_|refine aj _ _ ?_|refine(ih x O.m _ O.r (node.sub x O.m) (te k nm b0 v i) _ _ ak) _ _ ?_|fail
   ·rename_i h _ _;refine Qb (aa _ (by omega)) ?_;unfold te at h;by_cases I:k=8
    ·by_cases hi:i=0
     ·rw[if_neg (by simp[hi])]at h;simp[I,hi,HN,h]
     ·rw[if_pos ⟨I,hi⟩]at h;rw[if_pos I,if_neg hi,xg,h];rfl
    ·rw[if_neg (by simp[I])]at h;simp[I,xg,h]
   ·rename_i h;refine aw _ (by omega) (λhc=>by omega) λN'' h2=>Qb (aa N'' (by omega)) ?_;unfold te at h;by_cases I:k=8
    ·by_cases hi:i=0
     ·rw[if_neg (by simp[hi])]at h;have ax:=h0 hi;have ac:b0=false:=by rw[ai,<-ax];simpa using h
      simp[I,hi,HN,h,ac,plB]
     ·rw[if_pos ⟨I,hi⟩]at h;rw[if_pos I,if_neg hi,if_pos I,if_neg (by omega),xg,h];rfl
    ·rw[if_neg (by simp[I])]at h;simp[I,xg,h]
set_option maxHeartbeats 4000000
set_option maxRecDepth 100000
end Go.Proofs.YtlaniepnglheoaaGreat
